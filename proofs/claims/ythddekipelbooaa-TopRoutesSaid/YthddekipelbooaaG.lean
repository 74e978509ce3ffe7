/- The walks of chapter 44 (route), seventh part: Push and Pop of the heap. -/
import Derived.Test.YthddekipelbooaaF
namespace Go.Proofs.Ythddekipelbooaa
open Go Go.RowKit Core
set_option linter.unusedVariables false
set_option linter.unusedSimpArgs false
attribute [local irreducible] wpQuiet wpList wpH wpT Code.wp Calls bodyPost act


theorem push_end {n0 q : Nat} {w a b c : World} {v v' : Value} {l : List It} {x : It} (hX : Ext w a) (hB : Blk a q 74 [v]) (hne : v.ownBlock ≠ some q) (hge : n0 ≤ q) (hgr : a.grownBy b v.ownBlock) (hN : Core.Own itcell 77 7 n0 b v' (l ++ [x]))
    (hat : v'.ownBlock = v.ownBlock ∨ v'.ownBlock = some a.heap.size) (hk : Kp q b c) (hT : Blk c q 74 [v']) (hq : q < w.heap.size) : QM q w c ∧ QS n0 c q (l ++ [x]) := by
  refine ⟨⟨hq, hk.os.trans (hgr.os.trans hX.os), hk.tape.trans (hgr.tape.trans hX.tape), hk.output.trans (hgr.output.trans hX.output), ?_, fun g hg s => ?_⟩, v', hT, hN.kp hk (ne_app hne hB.lt hat), ne_app hne hB.lt hat, hge⟩
  · have := hX.size; have := hgr.size; have := hk.size; omega
  · have hga : g < a.heap.size := Nat.lt_of_lt_of_le hg hX.size
    have s' := s.ext hX hq
    have h1 := s'.2 v hB
    refine ⟨((hk.block g s.1).trans (hgr.block g hga (fun e => h1 e.symm))).trans (hX.block g hg), s.1, fun v'' hv => ?_⟩
    rw [← blk_inj hT hv]
    exact ne_app h1 hga hat
theorem Own.pop {n0 b c : Nat} {w : World} {l : List It} {x : It} (h : Core.Own itcell 77 7 n0 w (.slice (some ⟨b, 0, none⟩) (l ++ [x]).length c) (l ++ [x])) : Core.Own itcell 77 7 n0 w (.slice (some ⟨b, 0, none⟩) l.length c) l := by
  have hfl : ∀ xs : List It, (xs.flatMap itcell).length = xs.length * 7 := by
    intro xs
    induction xs with
    | nil => rfl
    | cons a r ih => rw [List.flatMap_cons, List.length_append, ih, hce_t, List.length_cons]; omega
  refine ⟨hfl l, ?_⟩
  rcases h.2 with ⟨h1, _⟩ | ⟨g, cap, cur, h1, h2, h3, h4, h5, h6, h7⟩
  · simp at h1
  · simp only [Value.slice.injEq, Option.some.injEq, Addr.mk.injEq, and_true, true_and] at h1
    obtain ⟨rfl, rfl⟩ := h1
    refine .inr ⟨b, c, cur, rfl, h2, h3, by rw [List.length_append] at h4; omega, h5, h6, ?_⟩
    have h8 := congrArg (List.take (l.length * 7)) h7
    rw [List.take_take, Nat.min_eq_left (by rw [List.length_append]; omega), List.flatMap_append, List.take_append_of_le_length (by rw [hfl]; exact Nat.le_refl _), List.take_of_length_le (l := l.flatMap itcell) (by rw [hfl]; exact Nat.le_refl _)] at h8
    exact h8
theorem pop_end {n0 q b cp : Nat} {w a c : World} {l : List It} {x : It} (hX : Ext w a) (hB : Blk a q 74 [.slice (some ⟨b, 0, none⟩) (l ++ [x]).length cp]) (hO : Core.Own itcell 77 7 n0 a (.slice (some ⟨b, 0, none⟩) (l ++ [x]).length cp) (l ++ [x]))
    (hne : Value.ownBlock (.slice (some ⟨b, 0, none⟩) (l ++ [x]).length cp) ≠ some q) (hge : n0 ≤ q) (hk : Kp q a c) (hT : Blk c q 74 [.slice (some ⟨b, 0, none⟩) l.length cp]) (hq : q < w.heap.size) : QM q w c ∧ QS n0 c q l := by
  refine ⟨⟨hq, hk.os.trans hX.os, hk.tape.trans hX.tape, hk.output.trans hX.output, ?_, fun g hg s => ?_⟩, _, hT, (Own.pop hO).kp hk hne, hne, hge⟩
  · have := hX.size; have := hk.size; omega
  · have s' := s.ext hX hq
    refine ⟨(hk.block g s.1).trans (hX.block g hg), s.1, fun v'' hv => ?_⟩
    rw [← blk_inj hT hv]
    have h9 := s'.2 _ hB
    exact h9


theorem own_one {n0 : Nat} {w : World} {v : Value} {l : List It} (h : Core.Own itcell 77 7 n0 w v l) : v.cells = #[v] := by
  obtain ⟨A, c, rfl, _⟩ := h.sl hce_t
  rfl
theorem own_one' {n0 : Nat} {w : World} {v : Value} {l : List It} (h : Core.Own itcell 77 7 n0 w v l) : v.oneCell' = true := by
  obtain ⟨A, c, rfl, _⟩ := h.sl hce_t
  rfl

theorem qpush_any (n0 q : Nat) (v : Value) (l : List It) (x : It) (w : World) (hB : Blk w q 74 [v]) (hO : Core.Own itcell 77 7 n0 w v l) (hne : v.ownBlock ≠ some q) (hge : n0 ≤ q) (hl : l.length ≤ 1000000) :
    Calls Try.prog 71 #[.pointer (some ⟨q, 0, none⟩), .iface 77 (.agg (itcell x).toArray)] w fun e w' => e = .returned (.tuple #[]) ∧ QM q w w' ∧ QS n0 w' q (l ++ [x]) := by
  refine calls_act Try.func71 rfl Try.ntmps71 rfl rfl ?_
  show Code.wp _ _ _ (act 13 [(0, true, .pointer (some ⟨q, 0, none⟩)), (1, true, .iface 77 (.agg (itcell x).toArray))] _) _
  have hX : Ext w w := Ext.rfl' w
  have hq := hB.lt
  refine region_g (fun W => Ext w W ∧ Blk W q 74 [v] ∧ Core.Own itcell 77 7 n0 W (v) (l)) [7, 9] [(0, 2), (1, 2), (2, 2), (3, 1), (4, 2), (5, 2), (6, 0), (7, 3), (8, 2), (9, 3)] mixed (by kernel_rfl) rfl (by kernel_rfl) (by repeat (first | exact pk_body | refine pk_then ?_ | refine pk_block ?_)) ?_
  intro u1 hR1
  replace hX := hX.comp hR1
  replace hB := hB.ext hR1
  replace hO := hO.ext hR1
  refine ⟨⟨hX, hB, hO⟩, ?_⟩
  refine g_pure rfl (look_move rfl rfl) ?_
  refine g_pure rfl (look_move rfl rfl) ?_
  refine g_pure rfl (look_nilCheck rfl rfl) ?_
  refine g_look rfl (look_load1 Try.underlying74 rfl rfl rfl (fun w' hS => (hS.2.1).cell rfl)) ?_
  refine g_pure rfl (look_move rfl rfl) ?_
  refine g_pure rfl (look_typeAssert Try.underlying77 rfl rfl rfl) ?_
  refine g_seq rfl ?_ ⟨hX, hB, hO⟩
  refine s_buildSlice (parts := [(0, .tmp 9)]) (vs := [(0, .agg (itcell x).toArray)]) (cells := [x].flatMap itcell) Try.underlying74 szTry_77 zeTry_77 rfl rfl ⟨⟨_, rfl, rfl⟩, trivial⟩ rfl (by kernel_rfl) ?_
  intro g2 u2 hu2 hB2 hg2 hs2
  have lt_q_g2 : q < g2 := by have := hB.lt; omega
  have ne_hO_g2 : (Value.ownBlock (v)) ≠ some g2 := hO.ne_new (by omega)
  have ge_g2 : w.heap.size ≤ g2 := by have := hX.size; omega
  replace hX := hX.comp hu2
  replace hB := hB.ext hu2
  replace hO := hO.ext hu2
  refine s_nil ?_
  refine then_normal ?_
  refine ⟨⟨hX, hB, hO⟩, ?_⟩
  refine g_late rfl ?_
  refine s_appendL (ce := itcell) (news := [x]) Try.underlying74 zsbTry_77 rfl rfl rfl hO rfl (Blk.src (x := x) rfl (oneT _) hB2) (by simp only [List.length_cons, List.length_nil]; rw [maxLen_is]; omega) (by simp only [List.length_cons, List.length_nil]; omega) (by have := hB.lt; omega) ?_
  intro v' ub hN hgr hat
  have hB2 := hB.grown hgr hne
  refine s_nil ?_
  refine then_g ?_
  refine g_pure rfl (look_nilCheck rfl rfl) ?_
  refine g_late rfl ?_
  refine s_store1 szTry_74 (own_one hN) (own_one' hN) rfl rfl hB2 rfl ?_
  intro uc hk hT
  refine s_nil ?_
  refine then_g ?_
  refine g_nil ?_
  exact resE Try.results71 ⟨rfl, push_end hX hB hne hge hgr hN hat hk hT hq⟩

theorem qpop_any (n0 q b c : Nat) (l : List It) (x : It) (w : World) (hB : Blk w q 74 [.slice (some ⟨b, 0, none⟩) (l ++ [x]).length c]) (hO : Core.Own itcell 77 7 n0 w (.slice (some ⟨b, 0, none⟩) (l ++ [x]).length c) (l ++ [x])) (hne : Value.ownBlock (.slice (some ⟨b, 0, none⟩) (l ++ [x]).length c) ≠ some q) (hge : n0 ≤ q) (hle : (l ++ [x]).length ≤ c) (hcm : c ≤ maxLen) :
    Calls Try.prog 70 #[.pointer (some ⟨q, 0, none⟩)] w fun e w' => e = .returned (.iface 77 (.agg (itcell x).toArray)) ∧ QM q w w' ∧ QS n0 w' q (l) := by
  refine calls_act Try.func70 rfl Try.ntmps70 rfl rfl ?_
  show Code.wp _ _ _ (act 23 [(0, true, .pointer (some ⟨q, 0, none⟩))] _) _
  have hX : Ext w w := Ext.rfl' w
  have hq := hB.lt
  refine wp_seq ?_
  refine region_s ?_
  refine q_look (look_assign rfl rfl) ?_
  refine q_nil ?_
  rintro _ rfl
  refine then_normal ?_
  refine wp_seq ?_
  refine wp_region_lit ?_
  refine s_look (look_move rfl rfl) ?_
  refine s_look (look_nilCheck rfl rfl) ?_
  refine s_look (look_load1 Try.underlying74 rfl rfl rfl (eqc (hB.cell rfl))) ?_
  refine s_look (look_assign rfl rfl) ?_
  refine s_nil ?_
  refine then_normal ?_
  refine wp_seq ?_
  refine wp_region_lit ?_
  refine s_look (look_move rfl rfl) ?_
  refine s_look (look_move rfl rfl) ?_
  refine s_look (look_len_slice Try.underlying74 rfl rfl) ?_
  refine s_look (look_sub rfl rfl rfl rfl (by have h3 := hle; rw [List.length_append, List.length_singleton] at h3 ⊢; have := maxLen_is; unfold I64; omega)) ?_
  refine s_look (look_indexAddr l.length Try.underlying74 szTry_77 rfl rfl rfl rfl (by rw [List.length_append, List.length_singleton]; omega) (by rw [List.length_append, List.length_singleton]; omega)) ?_
  refine s_look (look_loadN Try.underlying77 rfl szTry_77 rfl rfl rfl (cs := itcell x) (eqn (hO.rd hce_t l.length x (by simp)))) ?_
  refine s_alloc zeTry_77 ?_
  intro g1 u1 hu1 hB1 hg1 hs1
  have lt_q_g1 : q < g1 := by have := hB.lt; omega
  have ne_hO_g1 : (Value.ownBlock (.slice (some ⟨b, 0, none⟩) (l ++ [x]).length c)) ≠ some g1 := hO.ne_new (by omega)
  have ge_g1 : w.heap.size ≤ g1 := by have := hX.size; omega
  replace hX := hX.comp hu1
  replace hB := hB.ext hu1
  replace hO := hO.ext hu1
  refine s_store szTry_77 rfl (by simp [ccell, gcell, itcell, rcell, Value.cells, Value.oneCell']) rfl rfl hB1 rfl ?_
  intro u2 hk2 hT2
  replace hT2 : Blk u2 g1 77 (itcell x) := hT2
  replace hX := hX.kp hk2 (by omega)
  replace hB := hB.kp hk2 (by omega)
  replace hO := hO.kp hk2 ne_hO_g1
  clear hB1
  have hB1 := hT2
  refine s_nil ?_
  refine then_normal ?_
  refine wp_seq ?_
  refine wp_region_lit ?_
  refine s_look (look_move rfl rfl) ?_
  refine s_look (look_move rfl rfl) ?_
  refine s_look (look_move rfl rfl) ?_
  refine s_look (look_len_slice Try.underlying74 rfl rfl) ?_
  refine s_look (look_sub rfl rfl rfl rfl (by have h3 := hle; rw [List.length_append, List.length_singleton] at h3 ⊢; have := maxLen_is; unfold I64; omega)) ?_
  refine s_look (Look.as (look_slice_h (hi := l.length) Try.underlying74 szTry_77 rfl rfl rfl rfl (by rw [List.length_append, List.length_singleton]; omega) (by have h3 := hle; rw [List.length_append] at h3; omega)) (v' := .slice (some ⟨b, 0, none⟩) l.length c) (by simp [cutA, Addr.add])) ?_
  refine s_look (look_nilCheck rfl rfl) ?_
  refine s_store1 szTry_74 rfl rfl rfl rfl hB rfl ?_
  intro uc hk hT
  have hfin := pop_end hX hB hO hne hge hk hT hq
  replace hB1 := hB1.kp hk (by omega)
  refine s_nil ?_
  refine then_normal ?_
  refine wp_seq ?_
  refine region_s ?_
  refine q_look (look_loadN Try.underlying77 rfl szTry_77 rfl rfl rfl (eqc_n hB1)) ?_
  refine q_look (look_makeIface (by kernel_rfl) rfl rfl) ?_
  refine q_look (look_assign rfl rfl) ?_
  refine q_nil ?_
  rintro _ rfl
  refine then_normal ?_
  refine wp_ret ?_
  exact res1 Try.results70 rfl ⟨rfl, hfin⟩


theorem pushQ {n0 q : Nat} {w : World} {l : List It} {x : It} (hQ : QS n0 w q l) (hl : l.length ≤ 1000000) : ∃ ar : List Value, (callMethod (vH q) "Push" [.iface 77 (.agg (itcell x).toArray)].toArray).run Try.prog w = .ok (.enter 71 ar.toArray) w ∧ Calls Try.prog 71 ar.toArray w fun e w' => e = .returned (.tuple #[]) ∧ QM q w w' ∧ QS n0 w' q (l ++ [x]) := by
  obtain ⟨v, hB, hO, hne, hge⟩ := hQ
  exact ⟨_, inv_push, qpush_any n0 q v l x w hB hO hne hge hl⟩
theorem popQ {n0 q : Nat} {w : World} {l : List It} {x : It} (hQ : QS n0 w q (l ++ [x])) : ∃ ar : List Value, (callMethod (vH q) "Pop" ([] : List Value).toArray).run Try.prog w = .ok (.enter 70 ar.toArray) w ∧ Calls Try.prog 70 ar.toArray w fun e w' => e = .returned (.iface 77 (.agg (itcell x).toArray)) ∧ QM q w w' ∧ QS n0 w' q l := by
  obtain ⟨v, hB, hO, hne, hge⟩ := hQ
  obtain ⟨A, c, rfl, hS, h1, h2, _⟩ := hO.sl hce_t
  obtain ⟨b, rfl⟩ := Own.at0 hO (by rw [List.length_append, List.length_singleton]; omega)
  exact ⟨_, inv_pop, qpop_any n0 q b c l x w hB hO hne hge h1 h2⟩

end Go.Proofs.Ythddekipelbooaa
