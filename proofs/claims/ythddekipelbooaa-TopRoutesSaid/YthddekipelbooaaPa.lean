/- The walks of chapter 44 (route): Path. -/
import Derived.Test.YthddekipelbooaaN
namespace Go.Proofs.Ythddekipelbooaa
open Go Go.RowKit Core
set_option linter.unusedVariables false
set_option linter.unusedSimpArgs false
attribute [local irreducible] wpQuiet wpList wpH wpT Code.wp Calls bodyPost act


def askB (g : Gr) (a b : Cl) (bend : Int) : Bool := inB g a && inB g b && decide (0 ≤ bend) && decide (bend ≤ 1000)
theorem askB_iff {g : Gr} {a b : Cl} {bend : Int} : askB g a b bend = true ↔ inB g a = true ∧ inB g b = true ∧ 0 ≤ bend ∧ bend ≤ 1000 := by unfold askB; simp [and_assoc]
theorem ask_eq (g : Gr) (a b : Cl) (bend : Int) : (((!inB g a || !inB g b) || decide (bend < 0)) || decide (1000 < bend)) = !askB g a b bend := by
  rw [Bool.eq_iff_iff, Bool.not_eq_true', ← Bool.not_eq_true, askB_iff]
  simp only [Bool.or_eq_true, Bool.not_eq_true', ← Bool.not_eq_true, decide_eq_true_eq]
  constructor
  · rintro (((h | h) | h) | h) ⟨h1, h2, h3, h4⟩
    · exact h h1
    · exact h h2
    · omega
    · omega
  · intro h
    by_cases h1 : inB g a = true
    · by_cases h2 : inB g b = true
      · by_cases h3 : bend < 0
        · exact .inl (.inr h3)
        · by_cases h4 : 1000 < bend
          · exact .inr h4
          · exact (h ⟨h1, h2, by omega, by omega⟩).elim
      · exact .inl (.inl (.inr h2))
    · exact .inl (.inl (.inl h1))
/-- What Path answers. -/
def PathS (g : Gr) (a b : Cl) (bend : Int) (ps : List Cl) (cost err : Int) : Prop :=
  if chkP g ≠ 0 then ps = [] ∧ cost = 0 ∧ err = chkP g
  else if ¬ askB g a b bend = true then ps = [] ∧ cost = 0 ∧ err = 9
  else if a ∈ g.bl ∨ b ∈ g.bl then ps = [] ∧ cost = 0 ∧ err = 18
  else (∃ r, ps = a :: r ∧ Gd g bend b c0 a r ∧ cost = wc bend c0 a r ∧ err = 0) ∨ ((¬ ∃ r, wk g a r ∧ lastC a r = b) ∧ ps = [] ∧ cost = 0 ∧ err = 8)
theorem PathS.uniq {g : Gr} {a b : Cl} {bend : Int} {ps ps' : List Cl} {cost cost' err err' : Int} (h : PathS g a b bend ps cost err) (k : PathS g a b bend ps' cost' err') : ps = ps' ∧ cost = cost' ∧ err = err' := by
  unfold PathS at h k
  by_cases h1 : chkP g ≠ 0
  · rw [if_pos h1] at h k
    exact ⟨h.1.trans k.1.symm, h.2.1.trans k.2.1.symm, h.2.2.trans k.2.2.symm⟩
  rw [if_neg h1] at h k
  by_cases h2 : ¬ askB g a b bend = true
  · rw [if_pos h2] at h k
    exact ⟨h.1.trans k.1.symm, h.2.1.trans k.2.1.symm, h.2.2.trans k.2.2.symm⟩
  rw [if_neg h2] at h k
  by_cases h3 : a ∈ g.bl ∨ b ∈ g.bl
  · rw [if_pos h3] at h k
    exact ⟨h.1.trans k.1.symm, h.2.1.trans k.2.1.symm, h.2.2.trans k.2.2.symm⟩
  rw [if_neg h3] at h k
  have hb : 0 ≤ bend := (askB_iff.1 (Classical.not_not.1 h2)).2.2.1
  rcases h with ⟨r, a1, a2, a3, a4⟩ | ⟨a0, a1, a2, a3⟩ <;> rcases k with ⟨r', b1, b2, b3, b4⟩ | ⟨b0, b1, b2, b3⟩
  · have e := a2.uniq b2
    subst e
    exact ⟨a1.trans b1.symm, a3.trans b3.symm, a4.trans b4.symm⟩
  · exact (b0 ⟨r, (a2.lst hb).1, (a2.lst hb).2.1⟩).elim
  · exact (a0 ⟨r', (b2.lst hb).1, (b2.lst hb).2.1⟩).elim
  · exact ⟨a1.trans b1.symm, a2.trans b2.symm, a3.trans b3.symm⟩
theorem nxO_t {o : Option (Cl × Int)} (h : (!nxO o) = true) : o = none := by cases o with | none => rfl | some p => cases h
theorem nxO_f {o : Option (Cl × Int)} (h : (!nxO o) = false) : ∃ v n, o = some (v, n) := by cases o with | none => cases h | some p => exact ⟨p.1, p.2, rfl⟩
/-- Where Path stands. -/
structure At (g : Gr) (bend : Int) (a b : Cl) (m : KM) (c u : Cl) (r1 : List Cl) (cost : Int) (nn : Nat) : Prop where
  fre : Fre g c
  kn : (∃ n, vget m (c, u) = some n ∧ u ∈ ways ∧ n.toNat = nn ∧ r1 ≠ []) ∨ (u = c0 ∧ c = a ∧ r1 = [] ∧ nn = 100000001)
  gd : ∀ r, Gd g bend b u c r → Gd g bend b c0 a (r1 ++ r)
  co : (r1 = [] ∧ cost = 0) ∨ (r1 ≠ [] ∧ Lst g bend b a c0 cost)
  len : r1.length + nn ≤ 100000001
theorem At.start {g : Gr} {bend : Int} {a b : Cl} {m : KM} (h : Fre g a) : At g bend a b m a c0 [] 0 100000001 := ⟨h, .inr ⟨rfl, rfl, rfl, rfl⟩, fun r h => h, .inl ⟨rfl, rfl⟩, by simp⟩
theorem At.no {g : Gr} {bend : Int} {a b c u : Cl} {m : KM} {r1 : List Cl} {cost : Int} {nn : Nat} (hb : 0 ≤ bend) (hK : Know g bend b fun c u => vget m (c, u)) (h : At g bend a b m c u r1 cost nn) (hc : c ≠ b) (ho : nxtF (candF g bend (fun c u => vget m (c, u)) c u) ways none = none) : ¬ ∃ r, wk g a r ∧ lastC a r = b := by
  have h1 := nxt_none hb hK hc ho
  rcases h.kn with ⟨n, h2, h3, _⟩ | ⟨h2, h3, _⟩
  · obtain ⟨⟨r, a1, a2, _⟩, _⟩ := hK.sm c u n h2
    exact (h1 ⟨r, a1, a2⟩).elim
  · subst h3; exact h1
theorem At.step {g : Gr} {bend : Int} {a b c u v : Cl} {n : Int} {m : KM} {r1 : List Cl} {cost : Int} {nn : Nat} (hb : 0 ≤ bend) (hK : Know g bend b fun c u => vget m (c, u)) (hmb : ∀ y n, vget m y = some n → n ≤ 100000000) (h : At g bend a b m c u r1 cost nn) (hc : c ≠ b)
    (ho : nxtF (candF g bend (fun c u => vget m (c, u)) c u) ways none = some (v, n)) : ∃ k : Nat, k < nn ∧ ∀ cost', (r1 = [] → cost' = n) → (r1 ≠ [] → cost' = cost) → At g bend a b m (cadd c v) v (r1 ++ [cadd c v]) cost' k := by
  obtain ⟨hv, hB⟩ := nxt_best hK ho
  have hl := hB.lst hb hc
  obtain ⟨f1, _, ⟨k, f2, f3⟩, _⟩ := id hB
  rw [csub_cadd] at f2 f3
  have hk : vget m (cadd c v, v) = some k := hK.of f1 hv f2
  have hk0 := f2.1.nn hb
  have hk1 := hmb _ _ hk
  have hs := stepP_bd hb u v
  have hkn : k.toNat < nn := by
    rcases h.kn with ⟨n', h2, h3, h4, _⟩ | ⟨_, _, _, h4⟩
    · have := (hK.lst h2 h3).uniq hl; omega
    · omega
  refine ⟨k.toNat, hkn, fun cost' e1 e2 => ⟨f1, .inl ⟨k, hk, hv, rfl, by simp⟩, fun r hr => ?_, .inr ⟨by simp, ?_⟩, ?_⟩⟩
  · rw [List.append_assoc]
    exact h.gd _ ⟨hc, ⟨n, hB⟩, by rw [csub_cadd]; exact hr⟩
  · rcases h.co with ⟨h5, _⟩ | ⟨h5, h6⟩
    · rw [e1 h5]
      rcases h.kn with ⟨_, _, _, _, h7⟩ | ⟨h7, h8, _⟩
      · exact (h7 h5).elim
      · rw [← h7, ← h8]; exact hl
    · rw [e2 h5]; exact h6
  · have := h.len
    rw [List.length_append, List.length_singleton]; omega
theorem At.done {g : Gr} {bend : Int} {a b u : Cl} {m : KM} {r1 : List Cl} {cost : Int} {nn : Nat} (hb : 0 ≤ bend) (h : At g bend a b m b u r1 cost nn) : Gd g bend b c0 a r1 ∧ cost = wc bend c0 a r1 := by
  have h1 := h.gd [] rfl
  rw [List.append_nil] at h1
  refine ⟨h1, ?_⟩
  rcases h.co with ⟨h2, h3⟩ | ⟨_, h3⟩
  · rw [h2, h3]; rfl
  · exact h3.uniq (h1.lst hb).2.2

set_option maxHeartbeats 4000000 in
set_option maxRecDepth 100000 in
theorem path_any (g : Gr) (a b : Cl) (bend : Int) (w : World) (hG : GOk w g) :
    Calls Try.prog 5 #[.agg (gcell g).toArray, .agg (ccell a).toArray, .agg (ccell b).toArray, .int .i64 bend] w fun e w' => ∃ v ps cost err, e = .returned (.tuple #[v, .int .i64 cost, .int .i64 err]) ∧ Ext w w' ∧ Core.Own ccell 26 3 w.heap.size w' v ps ∧ PathS g a b bend ps cost err := by
  refine calls_act Try.func5 rfl Try.ntmps5 rfl rfl ?_
  show Code.wp _ _ _ (act 87 [(0, true, .agg (gcell g).toArray), (1, true, .agg (ccell a).toArray), (2, true, .agg (ccell b).toArray), (3, true, .int .i64 bend)] _) _
  have hX : Ext w w := Ext.rfl' w
  refine wp_seq ?_
  refine wp_region_lit ?_
  refine s_box rfl ?_
  intro g1 u1 hu1 hB1 hg1 hs1
  replace hB1 : Blk u1 g1 24 (gcell g) := hB1
  have ge_g1 : w.heap.size ≤ g1 := by have := hX.size; omega
  replace hX := hX.comp hu1
  refine s_box rfl ?_
  intro g2 u2 hu2 hB2 hg2 hs2
  replace hB2 : Blk u2 g2 26 (ccell a) := hB2
  have lt_g1_g2 : g1 < g2 := by have := hB1.lt; omega
  have ge_g2 : w.heap.size ≤ g2 := by have := hX.size; omega
  replace hX := hX.comp hu2
  replace hB1 := hB1.ext hu2
  refine s_box rfl ?_
  intro g3 u3 hu3 hB3 hg3 hs3
  replace hB3 : Blk u3 g3 26 (ccell b) := hB3
  have lt_g1_g3 : g1 < g3 := by have := hB1.lt; omega
  have lt_g2_g3 : g2 < g3 := by have := hB2.lt; omega
  have ge_g3 : w.heap.size ≤ g3 := by have := hX.size; omega
  replace hX := hX.comp hu3
  replace hB1 := hB1.ext hu3
  replace hB2 := hB2.ext hu3
  refine s_look (look_assign rfl rfl) ?_
  refine s_look (look_assign rfl rfl) ?_
  refine s_look (look_assign rfl rfl) ?_
  refine s_nil ?_
  refine then_normal ?_
  refine wp_seq ?_
  refine wp_seq ?_
  refine region_q ?_
  refine q_look (look_loadN Try.underlying24 rfl szTry_24 rfl rfl rfl (ext_cell_n hB1)) ?_
  refine q_call (vs := [_]) enTry_16 ⟨⟨_, rfl, rfl⟩, trivial⟩ (fun wc hw => cext hw (checkgrid_any g wc (hG.ext (hX.comp hw)))) ?_
  refine q_look (look_assign rfl rfl) ?_
  refine q_nil ?_
  intro w1 hw1
  replace hX := hX.comp hw1
  replace hB1 := hB1.ext hw1
  replace hB2 := hB2.ext hw1
  replace hB3 := hB3.ext hw1
  refine then_normal ?_
  refine wp_seq ?_
  refine region_s ?_
  refine q_look (look_move rfl rfl) ?_
  refine q_look (look_neq rfl rfl rfl rfl) ?_
  refine q_nil ?_
  rintro _ rfl
  refine then_normal ?_
  refine cond_split rfl (fun hc20 => ?_) (fun hc20 => ?_)
  · have h0 : ¬ chkP g = 0 := nd_t hc20
    refine wp_seq ?_
    refine region_s ?_
    refine q_look (look_move rfl rfl) ?_
    refine q_look (look_assign rfl rfl) ?_
    refine q_look (look_assign rfl rfl) ?_
    refine q_look (look_assign rfl rfl) ?_
    refine q_nil ?_
    rintro _ rfl
    refine then_normal ?_
    refine wp_ret ?_
    refine then_ret ?_
    exact res3 Try.results5 rfl rfl rfl ⟨_, [], _, _, rfl, hX, Own.nil _ _ _ _ _, by unfold PathS; rw [if_pos h0]; exact ⟨rfl, rfl, rfl⟩⟩
  · have h0 : chkP g = 0 := nd_f hc20
    have hok := chk_ok h0
    refine wp_skip ?_
    refine then_normal ?_
    refine wp_seq ?_
    refine wp_block ?_
    refine wp_seq ?_
    refine region_q ?_
    refine q_look (look_loadN Try.underlying24 rfl szTry_24 rfl rfl rfl (ext_cell_n hB1)) ?_
    refine q_look (look_loadN Try.underlying26 rfl szTry_26 rfl rfl rfl (ext_cell_n hB2)) ?_
    refine q_call (vs := [_, _]) enTry_17 ⟨⟨_, rfl, rfl⟩, ⟨_, rfl, rfl⟩, trivial⟩ (fun wc hw => cext hw (inside_any g a wc)) ?_
    refine q_look (look_not rfl rfl) ?_
    refine q_look (look_move rfl rfl) ?_
    refine q_lookg rfl rfl rfl (fun hq => look_loadN Try.underlying24 rfl szTry_24 rfl rfl rfl (ext_cell_n hB1)) ?_
    refine q_lookg rfl rfl rfl (fun hq => look_loadN Try.underlying26 rfl szTry_26 rfl rfl rfl (ext_cell_n hB3)) ?_
    refine q_callg (vs := [_, _]) rfl rfl rfl enTry_17 (fun hq => ⟨⟨_, rfl, hq⟩, ⟨_, rfl, hq⟩, trivial⟩) (fun hq wc hw => cext hw (inside_any g b wc)) ?_
    refine q_lookg rfl rfl rfl (fun hq => look_not rfl hq) ?_
    refine q_look (look_or rfl rfl rfl rfl) ?_
    refine q_look (look_move rfl rfl) ?_
    refine q_lookg rfl rfl rfl (fun hq => look_move rfl rfl) ?_
    refine q_lookg rfl rfl rfl (fun hq => look_lss rfl hq rfl rfl) ?_
    refine q_look (look_or rfl rfl rfl rfl) ?_
    refine q_look (look_move rfl rfl) ?_
    refine q_lookg rfl rfl rfl (fun hq => look_move rfl rfl) ?_
    refine q_lookg rfl rfl rfl (fun hq => look_gtr rfl hq rfl rfl) ?_
    refine q_look (look_or rfl rfl rfl rfl) ?_
    refine q_look (look_assign rfl rfl) ?_
    refine q_nil ?_
    intro w2 hw2
    replace hX := hX.comp hw2
    replace hB1 := hB1.ext hw2
    replace hB2 := hB2.ext hw2
    replace hB3 := hB3.ext hw2
    refine then_normal ?_
    refine cond_split rfl (fun hc22 => ?_) (fun hc22 => ?_)
    · have hask : ¬ askB g a b bend = true := by rw [ask_eq] at hc22; intro h; rw [h] at hc22; cases hc22
      refine wp_seq ?_
      refine region_s ?_
      refine q_look (look_assign rfl rfl) ?_
      refine q_look (look_assign rfl rfl) ?_
      refine q_look (look_assign rfl rfl) ?_
      refine q_nil ?_
      rintro _ rfl
      refine then_normal ?_
      refine wp_ret ?_
      refine inB_ret ?_
      refine then_ret ?_
      exact res3 Try.results5 rfl rfl rfl ⟨_, [], _, _, rfl, hX, Own.nil _ _ _ _ _, by unfold PathS; rw [if_neg (fun h => h h0), if_pos hask]; exact ⟨rfl, rfl, rfl⟩⟩
    · have hask : askB g a b bend = true := by rw [ask_eq] at hc22; exact nt_f hc22
      have hb : 0 ≤ bend ∧ bend ≤ 1000 := (askB_iff.1 hask).2.2
      refine wp_seq ?_
      refine region_q ?_
      refine q_look (look_loadN Try.underlying24 rfl szTry_24 rfl rfl rfl (ext_cell_n hB1)) ?_
      refine q_look (look_loadN Try.underlying26 rfl szTry_26 rfl rfl rfl (ext_cell_n hB2)) ?_
      refine q_call (vs := [_, _]) enTry_18 ⟨⟨_, rfl, rfl⟩, ⟨_, rfl, rfl⟩, trivial⟩ (fun wc hw => cext hw (blocked_any g a wc (hG.ext (hX.comp hw)) hok.2.2)) ?_
      refine q_look (look_move rfl rfl) ?_
      refine q_lookg rfl rfl rfl (fun hq => look_loadN Try.underlying24 rfl szTry_24 rfl rfl rfl (ext_cell_n hB1)) ?_
      refine q_lookg rfl rfl rfl (fun hq => look_loadN Try.underlying26 rfl szTry_26 rfl rfl rfl (ext_cell_n hB3)) ?_
      refine q_callg (vs := [_, _]) rfl rfl rfl enTry_18 (fun hq => ⟨⟨_, rfl, hq⟩, ⟨_, rfl, hq⟩, trivial⟩) (fun hq wc hw => cext hw (blocked_any g b wc (hG.ext (hX.comp hw)) hok.2.2)) ?_
      refine q_look (look_or rfl rfl rfl rfl) ?_
      refine q_look (look_assign rfl rfl) ?_
      refine q_nil ?_
      intro w3 hw3
      replace hX := hX.comp hw3
      replace hB1 := hB1.ext hw3
      replace hB2 := hB2.ext hw3
      replace hB3 := hB3.ext hw3
      refine then_normal ?_
      refine cond_split rfl (fun hc41 => ?_) (fun hc41 => ?_)
      · have hbl : a ∈ g.bl ∨ b ∈ g.bl := by simpa using hc41
        refine wp_seq ?_
        refine region_s ?_
        refine q_look (look_assign rfl rfl) ?_
        refine q_look (look_assign rfl rfl) ?_
        refine q_look (look_assign rfl rfl) ?_
        refine q_nil ?_
        rintro _ rfl
        refine then_normal ?_
        refine wp_ret ?_
        refine inB_ret ?_
        refine then_ret ?_
        exact res3 Try.results5 rfl rfl rfl ⟨_, [], _, _, rfl, hX, Own.nil _ _ _ _ _, by unfold PathS; rw [if_neg (fun h => h h0), if_neg (fun h => h hask), if_pos hbl]; exact ⟨rfl, rfl, rfl⟩⟩
      · have hbl : ¬ (a ∈ g.bl ∨ b ∈ g.bl) := by simpa using hc41
        have hfa : Fre g a := ⟨(askB_iff.1 hask).1, fun h => hbl (.inl h)⟩
        have hfb : Fre g b := ⟨(askB_iff.1 hask).2.1, fun h => hbl (.inr h)⟩
        refine wp_skip ?_
        refine inB_normal ?_
        refine then_normal ?_
        refine wp_seq ?_
        refine wp_region_lit ?_
        refine s_look (look_loadN Try.underlying24 rfl szTry_24 rfl rfl rfl (eqc_n hB1)) ?_
        refine s_look (look_move rfl rfl) ?_
        refine s_makeMapV (kv := kR) (vv := vI) ?_ rfl
        intro g4 u4 hu4 hM4 hg4 hs4
        have lt_g1_g4 : g1 < g4 := by have := hB1.lt; omega
        have lt_g2_g4 : g2 < g4 := by have := hB2.lt; omega
        have lt_g3_g4 : g3 < g4 := by have := hB3.lt; omega
        have ge_g4 : w.heap.size ≤ g4 := by have := hX.size; omega
        replace hX := hX.comp hu4
        replace hB1 := hB1.ext hu4
        replace hB2 := hB2.ext hu4
        replace hB3 := hB3.ext hu4
        refine s_look (look_build (pl := [(0, 4), (4, 1), (5, 1)]) (parts := [(0, .tmp 50), (1, .tmp 51), (2, .tmp 52)]) (vs := [(0, .agg (gcell g).toArray), (1, .int .i64 bend), (2, .map (some g4))]) (cells := fcell g bend g4) Try.underlying48 zeTry_48 (by kernel_rfl) ⟨⟨_, rfl, rfl⟩, ⟨_, rfl, rfl⟩, ⟨_, rfl, rfl⟩, trivial⟩ rfl (by kernel_rfl)) ?_
        refine s_box rfl ?_
        intro g5 u5 hu5 hB5 hg5 hs5
        replace hB5 : Blk u5 g5 48 (fcell g bend g4) := hB5
        have lt_g1_g5 : g1 < g5 := by have := hB1.lt; omega
        have lt_g2_g5 : g2 < g5 := by have := hB2.lt; omega
        have lt_g3_g5 : g3 < g5 := by have := hB3.lt; omega
        have lt_g4_g5 : g4 < g5 := by have := hM4.lt; omega
        have ge_g5 : w.heap.size ≤ g5 := by have := hX.size; omega
        replace hX := hX.comp hu5
        replace hB1 := hB1.ext hu5
        replace hB2 := hB2.ext hu5
        replace hB3 := hB3.ext hu5
        replace hM4 := hM4.ext hu5
        refine s_look (look_assign rfl rfl) ?_
        refine s_nil ?_
        refine then_normal ?_
        refine wp_seq ?_
        refine wp_region_lit ?_
        refine s_look (look_move rfl rfl) ?_
        refine s_look (look_loadN Try.underlying26 rfl szTry_26 rfl rfl rfl (eqc_n hB3)) ?_
        refine s_call (vs := [_, _]) enTry_19 ⟨⟨_, rfl, rfl⟩, ⟨_, rfl, rfl⟩, trivial⟩ (fill_any g5 g4 g bend b _ hB5 hb hM4 (by omega) (hG.ext hX) hok hfb) ?_
        rintro _ u6 ⟨rfl, hm6, m, hT6, hK, hmb⟩
        refine ⟨_, rfl, ?_⟩
        replace hX := hX.mut hm6 (by omega)
        replace hB1 := hB1.mut hm6 (by omega)
        replace hB2 := hB2.mut hm6 (by omega)
        replace hB3 := hB3.mut hm6 (by omega)
        replace hB5 := hB5.mut hm6 (by omega)
        clear hM4
        have hM4 := hT6
        refine s_nil ?_
        refine then_normal ?_
        refine wp_seq ?_
        refine wp_region_lit ?_
        refine s_look (look_loadN Try.underlying26 rfl szTry_26 rfl rfl rfl (eqc_n hB2)) ?_
        refine s_look (look_build (pl := [(0, 3), (3, 3)]) (parts := [(0, .tmp 58)]) (vs := [(0, .agg (ccell a).toArray)]) (cells := rcell a c0) Try.underlying51 zeTry_51 (by kernel_rfl) ⟨⟨_, rfl, rfl⟩, trivial⟩ rfl (by kernel_rfl)) ?_
        refine s_alloc zeTry_51 ?_
        intro g7 u7 hu7 hB7 hg7 hs7
        have lt_g1_g7 : g1 < g7 := by have := hB1.lt; omega
        have lt_g2_g7 : g2 < g7 := by have := hB2.lt; omega
        have lt_g3_g7 : g3 < g7 := by have := hB3.lt; omega
        have lt_g4_g7 : g4 < g7 := by have := hM4.lt; omega
        have lt_g5_g7 : g5 < g7 := by have := hB5.lt; omega
        have ge_g7 : w.heap.size ≤ g7 := by have := hX.size; omega
        replace hX := hX.comp hu7
        replace hB1 := hB1.ext hu7
        replace hB2 := hB2.ext hu7
        replace hB3 := hB3.ext hu7
        replace hM4 := hM4.ext hu7
        replace hB5 := hB5.ext hu7
        refine s_store szTry_51 rfl (by simp [ccell, gcell, itcell, rcell, Value.cells, Value.oneCell']) rfl rfl hB7 rfl ?_
        intro u8 hk8 hT8
        replace hT8 : Blk u8 g7 51 (rcell a c0) := hT8
        replace hX := hX.kp hk8 (by omega)
        replace hB1 := hB1.kp hk8 (by omega)
        replace hB2 := hB2.kp hk8 (by omega)
        replace hB3 := hB3.kp hk8 (by omega)
        replace hM4 := hM4.kp hk8 (by omega)
        replace hB5 := hB5.kp hk8 (by omega)
        clear hB7
        have hB7 := hT8
        refine s_nil ?_
        refine then_normal ?_
        refine wp_seq ?_
        refine wp_region_lit ?_
        refine s_look (look_loadN Try.underlying26 rfl szTry_26 rfl rfl rfl (eqc_n hB2)) ?_
        refine s_buildSlice (parts := [(0, .tmp 60)]) (vs := [(0, .agg (ccell a).toArray)]) (cells := ccell a) Try.underlying22 szTry_26 zeTry_26 rfl rfl ⟨⟨_, rfl, rfl⟩, trivial⟩ rfl (by kernel_rfl) ?_
        intro g9 u9 hu9 hB9 hg9 hs9
        have lt_g1_g9 : g1 < g9 := by have := hB1.lt; omega
        have lt_g2_g9 : g2 < g9 := by have := hB2.lt; omega
        have lt_g3_g9 : g3 < g9 := by have := hB3.lt; omega
        have lt_g4_g9 : g4 < g9 := by have := hM4.lt; omega
        have lt_g5_g9 : g5 < g9 := by have := hB5.lt; omega
        have lt_g7_g9 : g7 < g9 := by have := hB7.lt; omega
        have ge_g9 : w.heap.size ≤ g9 := by have := hX.size; omega
        replace hX := hX.comp hu9
        replace hB1 := hB1.ext hu9
        replace hB2 := hB2.ext hu9
        replace hB3 := hB3.ext hu9
        replace hM4 := hM4.ext hu9
        replace hB5 := hB5.ext hu9
        replace hB7 := hB7.ext hu9
        have hO := Own.one (ce := ccell) (x := a) (base := w.heap.size) hB9 ge_g9 rfl
        have ne_hO_g1 : Value.ownBlock (.slice (some ⟨g9, 0, none⟩) 1 1) ≠ some g1 := by simp [Value.ownBlock]; have := lt_g1_g9; omega
        have ne_hO_g2 : Value.ownBlock (.slice (some ⟨g9, 0, none⟩) 1 1) ≠ some g2 := by simp [Value.ownBlock]; have := lt_g2_g9; omega
        have ne_hO_g3 : Value.ownBlock (.slice (some ⟨g9, 0, none⟩) 1 1) ≠ some g3 := by simp [Value.ownBlock]; have := lt_g3_g9; omega
        have ne_hO_g4 : Value.ownBlock (.slice (some ⟨g9, 0, none⟩) 1 1) ≠ some g4 := by simp [Value.ownBlock]; have := lt_g4_g9; omega
        have ne_hO_g5 : Value.ownBlock (.slice (some ⟨g9, 0, none⟩) 1 1) ≠ some g5 := by simp [Value.ownBlock]; have := lt_g5_g9; omega
        have ne_hO_g7 : Value.ownBlock (.slice (some ⟨g9, 0, none⟩) 1 1) ≠ some g7 := by simp [Value.ownBlock]; have := lt_g7_g9; omega
        refine s_look (look_assign rfl rfl) ?_
        refine s_nil ?_
        refine then_normal ?_
        refine wp_seq ?_
        refine wp_block ?_
        refine loop_act (fun (ls : Cl × Cl × List Cl × Value × Int × Nat) => [(4, .pointer (some ⟨g1, 0, none⟩)), (6, .pointer (some ⟨g3, 0, none⟩)), (8, ls.2.2.2.1), (9, .int .i64 ls.2.2.2.2.1), (12, .pointer (some ⟨g5, 0, none⟩)), (13, .pointer (some ⟨g7, 0, none⟩))]) (fun ls w' => (Ext w w') ∧ (Blk w' g5 48 (fcell g bend g4)) ∧ (MapV kR vI w' g4 m) ∧ (Blk w' g3 26 (ccell b)) ∧ (Blk w' g7 51 (rcell ls.1 ls.2.1)) ∧ (Core.Own ccell 26 3 w.heap.size w' ls.2.2.2.1 (a :: ls.2.2.1)) ∧ (Value.ownBlock ls.2.2.2.1 ≠ some g5) ∧ (Value.ownBlock ls.2.2.2.1 ≠ some g4) ∧ (Value.ownBlock ls.2.2.2.1 ≠ some g3) ∧ (Value.ownBlock ls.2.2.2.1 ≠ some g7) ∧ (At g bend a b m ls.1 ls.2.1 ls.2.2.1 ls.2.2.2.2.1 ls.2.2.2.2.2)) (fun ls => ls.2.2.2.2.2) ((a, c0, [], .slice (some ⟨g9, 0, none⟩) 1 1, 0, 100000001)) ?_ ?_ ?_
        · exact ⟨rfl, rfl, rfl, rfl, rfl, rfl, trivial⟩
        · exact ⟨hX, hB5, hM4, hB3, hB7, hO, ne_hO_g5, ne_hO_g4, ne_hO_g3, ne_hO_g7, At.start hfa⟩
        · rintro ⟨c, u, r1, ov, cost, nn⟩ σ wr hF
          obtain ⟨hX, hB5, hM4, hB3, hB7, hO, ne_hO_g5, ne_hO_g4, ne_hO_g3, ne_hO_g7, hA⟩ : (Ext w wr) ∧ (Blk wr g5 48 (fcell g bend g4)) ∧ (MapV kR vI wr g4 m) ∧ (Blk wr g3 26 (ccell b)) ∧ (Blk wr g7 51 (rcell c u)) ∧ (Core.Own ccell 26 3 w.heap.size wr ov (a :: r1)) ∧ (Value.ownBlock ov ≠ some g5) ∧ (Value.ownBlock ov ≠ some g4) ∧ (Value.ownBlock ov ≠ some g3) ∧ (Value.ownBlock ov ≠ some g7) ∧ (At g bend a b m c u r1 cost nn) := hF
          show Code.wp _ _ _ (act 87 [(4, true, .pointer (some ⟨g1, 0, none⟩)), (6, true, .pointer (some ⟨g3, 0, none⟩)), (8, true, ov), (9, true, .int .i64 cost), (12, true, .pointer (some ⟨g5, 0, none⟩)), (13, true, .pointer (some ⟨g7, 0, none⟩))] _) _
          refine wp_seq ?_
          refine wp_seq ?_
          refine region_s ?_
          refine q_look (look_fieldAddr Try.underlying51 rfl (fun _ _ => rfl) rfl rfl) ?_
          refine q_look (look_loadN Try.underlying26 rfl szTry_26 rfl rfl rfl (cs := ccell c) (eqn (Blk.sub hB7 rfl))) ?_
          refine q_look (look_loadN Try.underlying26 rfl szTry_26 rfl rfl rfl (eqc_n hB3)) ?_
          refine q_look (look_neq_flat Try.underlying26 stood35 guard35 rfl rfl rfl rfl (eqC _ _)) ?_
          refine q_nil ?_
          rintro _ rfl
          refine then_normal ?_
          refine cond_split rfl (fun hc65 => ?_) (fun hc65 => ?_)
          · have hcb : c ≠ b := nd_t hc65
            refine wp_skip ?_
            refine then_normal ?_
            refine wp_block ?_
            refine wp_seq ?_
            refine wp_region_lit ?_
            refine s_look (look_move rfl rfl) ?_
            refine s_look (look_loadN Try.underlying51 rfl szTry_51 rfl rfl rfl (eqc_n hB7)) ?_
            refine s_call (vs := [_, _]) enTry_20 ⟨⟨_, rfl, rfl⟩, ⟨_, rfl, rfl⟩, trivial⟩ (next_any g5 g4 g bend b c u m _ hB5 hb hM4 (hG.ext hX) hok.1 hok.2.2 hK hmb hA.fre) ?_
            rintro _ u10 ⟨o, ho, rfl, hc10⟩
            refine ⟨_, rfl, ?_⟩
            replace hX := hX.comp hc10
            replace hB3 := hB3.ext hc10
            replace hM4 := hM4.ext hc10
            replace hB5 := hB5.ext hc10
            replace hB7 := hB7.ext hc10
            replace hO := hO.ext hc10
            refine s_look (look_move rfl rfl) ?_
            refine s_look (look_extract rfl rfl rfl) ?_
            refine s_look (look_extract rfl rfl rfl) ?_
            refine s_look (look_extract rfl rfl rfl) ?_
            refine s_alloc zeTry_51 ?_
            intro g11 u11 hu11 hB11 hg11 hs11
            have lt_g3_g11 : g3 < g11 := by have := hB3.lt; omega
            have lt_g4_g11 : g4 < g11 := by have := hM4.lt; omega
            have lt_g5_g11 : g5 < g11 := by have := hB5.lt; omega
            have lt_g7_g11 : g7 < g11 := by have := hB7.lt; omega
            have ne_hO_g11 : (Value.ownBlock (ov)) ≠ some g11 := hO.ne_new (by omega)
            have ge_g11 : w.heap.size ≤ g11 := by have := hX.size; omega
            replace hX := hX.comp hu11
            replace hB3 := hB3.ext hu11
            replace hM4 := hM4.ext hu11
            replace hB5 := hB5.ext hu11
            replace hB7 := hB7.ext hu11
            replace hO := hO.ext hu11
            refine s_store szTry_51 rfl (by simp [ccell, gcell, itcell, rcell, Value.cells, Value.oneCell']) rfl rfl hB11 rfl ?_
            intro u12 hk12 hT12
            replace hT12 : Blk u12 g11 51 (rcell (nxAt c o) (nxBy o)) := hT12
            replace hX := hX.kp hk12 (by omega)
            replace hB3 := hB3.kp hk12 (by omega)
            replace hM4 := hM4.kp hk12 (by omega)
            replace hB5 := hB5.kp hk12 (by omega)
            replace hB7 := hB7.kp hk12 (by omega)
            replace hO := hO.kp hk12 ne_hO_g11
            clear hB11
            have hB11 := hT12
            refine s_look (look_assign rfl rfl) ?_
            refine s_look (look_assign rfl rfl) ?_
            refine s_nil ?_
            refine then_normal ?_
            refine wp_seq ?_
            refine wp_seq ?_
            refine region_s ?_
            refine q_look (look_move rfl rfl) ?_
            refine q_look (look_not rfl rfl) ?_
            refine q_nil ?_
            rintro _ rfl
            refine then_normal ?_
            refine cond_split rfl (fun hc74 => ?_) (fun hc74 => ?_)
            · obtain rfl := nxO_t hc74
              have hno := hA.no hb.1 hK hcb ho
              refine wp_seq ?_
              refine region_s ?_
              refine q_look (look_assign rfl rfl) ?_
              refine q_look (look_assign rfl rfl) ?_
              refine q_look (look_assign rfl rfl) ?_
              refine q_nil ?_
              rintro _ rfl
              refine then_normal ?_
              refine wp_ret ?_
              refine then_ret ?_
              refine inB_ret ?_
              refine then_ret ?_
              refine inB_ret ?_
              refine then_ret ?_
              exact res3 Try.results5 rfl rfl rfl ⟨_, [], _, _, rfl, hX, Own.nil _ _ _ _ _, by unfold PathS; rw [if_neg (fun h => h h0), if_neg (fun h => h hask), if_neg hbl]; exact .inr ⟨hno, rfl, rfl, rfl⟩⟩
            · obtain ⟨v, no, rfl⟩ := nxO_f hc74
              obtain ⟨kk, hkk, hst⟩ := hA.step hb.1 hK hmb hcb ho
              have hal := hA.len
              refine wp_skip ?_
              refine then_normal ?_
              refine wp_seq ?_
              refine wp_seq ?_
              obtain ⟨A1, c1, rfl, _⟩ := hO.sl hce_c
              refine region_s ?_
              refine q_look (look_move rfl rfl) ?_
              refine q_look (look_len_slice Try.underlying22 rfl rfl) ?_
              refine q_look (look_eql rfl rfl rfl rfl) ?_
              refine q_nil ?_
              rintro _ rfl
              refine then_normal ?_
              refine cond_split rfl (fun hc77 => ?_) (fun hc77 => ?_)
              · have hr1 : r1 = [] := by have := nn_t hc77; simp only [List.length_cons] at this; exact List.eq_nil_of_length_eq_zero (by omega)
                refine region_s ?_
                refine q_look (look_move rfl rfl) ?_
                refine q_look (look_assign rfl rfl) ?_
                refine q_nil ?_
                rintro _ rfl
                refine then_normal ?_
                refine wp_seq ?_
                refine wp_region_lit ?_
                refine s_look (look_loadN Try.underlying51 rfl szTry_51 rfl rfl rfl (eqc_n hB11)) ?_
                refine s_store szTry_51 rfl (by simp [ccell, gcell, itcell, rcell, Value.cells, Value.oneCell']) rfl rfl hB7 rfl ?_
                intro u13 hk13 hT13
                replace hT13 : Blk u13 g7 51 (rcell (cadd c v) v) := hT13
                replace hX := hX.kp hk13 (by omega)
                replace hB3 := hB3.kp hk13 (by omega)
                replace hM4 := hM4.kp hk13 (by omega)
                replace hB5 := hB5.kp hk13 (by omega)
                replace hB11 := hB11.kp hk13 (by omega)
                replace hO := hO.kp hk13 ne_hO_g7
                clear hB7
                have hB7 := hT13
                refine s_nil ?_
                refine then_normal ?_
                refine wp_region_lit ?_
                refine s_look (look_move rfl rfl) ?_
                refine s_look (look_fieldAddr Try.underlying51 rfl (fun _ _ => rfl) rfl rfl) ?_
                refine s_look (look_loadN Try.underlying26 rfl szTry_26 rfl rfl rfl (cs := ccell (cadd c v)) (eqn (Blk.sub hB7 rfl))) ?_
                refine s_buildSlice (parts := [(0, .tmp 82)]) (vs := [(0, .agg (ccell (cadd c v)).toArray)]) (cells := ccell (cadd c v)) Try.underlying22 szTry_26 zeTry_26 rfl rfl ⟨⟨_, rfl, rfl⟩, trivial⟩ rfl (by kernel_rfl) ?_
                intro g14 u14 hu14 hB14 hg14 hs14
                have lt_g3_g14 : g3 < g14 := by have := hB3.lt; omega
                have lt_g4_g14 : g4 < g14 := by have := hM4.lt; omega
                have lt_g5_g14 : g5 < g14 := by have := hB5.lt; omega
                have lt_g7_g14 : g7 < g14 := by have := hB7.lt; omega
                have lt_g11_g14 : g11 < g14 := by have := hB11.lt; omega
                have ne_hO_g14 : (Value.ownBlock (.slice A1 (a :: r1).length c1)) ≠ some g14 := hO.ne_new (by omega)
                have ge_g14 : w.heap.size ≤ g14 := by have := hX.size; omega
                replace hX := hX.comp hu14
                replace hB3 := hB3.ext hu14
                replace hM4 := hM4.ext hu14
                replace hB5 := hB5.ext hu14
                replace hB7 := hB7.ext hu14
                replace hB11 := hB11.ext hu14
                replace hO := hO.ext hu14
                have hsz15 := hX.size
                refine s_appendL (ce := ccell) (news := [cadd c v]) Try.underlying22 zsbTry_26 rfl rfl rfl hO rfl (Blk.src (x := cadd c v) rfl (by simp [ccell, Value.oneCell']) hB14) (by have := maxLen_is; simp only [List.length_cons, List.length_nil]; omega) (by simp only [List.length_cons, List.length_nil]; omega) (by omega) ?_
                intro v15 u15 hN15 hgr15 hat15
                replace hX := hX.grow hO (Nat.le_refl _) hgr15
                have hn_hB3 := hB3.grown hgr15 ne_hO_g3
                have hn_hM4 := hM4.grown hgr15 ne_hO_g4
                have hn_hB5 := hB5.grown hgr15 ne_hO_g5
                have hn_hB7 := hB7.grown hgr15 ne_hO_g7
                have hn_hB11 := hB11.grown hgr15 ne_hO_g11
                replace ne_hO_g3 := ne_app ne_hO_g3 hB3.lt hat15
                replace ne_hO_g4 := ne_app ne_hO_g4 hM4.lt hat15
                replace ne_hO_g5 := ne_app ne_hO_g5 hB5.lt hat15
                replace ne_hO_g7 := ne_app ne_hO_g7 hB7.lt hat15
                replace ne_hO_g11 := ne_app ne_hO_g11 hB11.lt hat15
                clear hB3
                have hB3 := hn_hB3
                clear hn_hB3
                clear hM4
                have hM4 := hn_hM4
                clear hn_hM4
                clear hB5
                have hB5 := hn_hB5
                clear hn_hB5
                clear hB7
                have hB7 := hn_hB7
                clear hn_hB7
                clear hB11
                have hB11 := hn_hB11
                clear hn_hB11
                clear hO
                have hO := hN15
                refine s_look (look_assign rfl rfl) ?_
                refine s_nil ?_
                refine inB_normal ?_
                exact loop_end ((cadd c v, v, r1 ++ [cadd c v], v15, no, kk)) (by simp only []; omega) ⟨rfl, rfl, rfl, rfl, rfl, rfl, trivial⟩ ⟨hX, hB5, hM4, hB3, hB7, hO, ne_hO_g5, ne_hO_g4, ne_hO_g3, ne_hO_g7, hst _ (fun h => rfl) (fun h => (h hr1).elim)⟩
              · have hr1 : r1 ≠ [] := by intro h; subst h; exact nn_f hc77 rfl
                refine wp_skip ?_
                refine then_normal ?_
                refine wp_seq ?_
                refine wp_region_lit ?_
                refine s_look (look_loadN Try.underlying51 rfl szTry_51 rfl rfl rfl (eqc_n hB11)) ?_
                refine s_store szTry_51 rfl (by simp [ccell, gcell, itcell, rcell, Value.cells, Value.oneCell']) rfl rfl hB7 rfl ?_
                intro u16 hk16 hT16
                replace hT16 : Blk u16 g7 51 (rcell (cadd c v) v) := hT16
                replace hX := hX.kp hk16 (by omega)
                replace hB3 := hB3.kp hk16 (by omega)
                replace hM4 := hM4.kp hk16 (by omega)
                replace hB5 := hB5.kp hk16 (by omega)
                replace hB11 := hB11.kp hk16 (by omega)
                replace hO := hO.kp hk16 ne_hO_g7
                clear hB7
                have hB7 := hT16
                refine s_nil ?_
                refine then_normal ?_
                refine wp_region_lit ?_
                refine s_look (look_move rfl rfl) ?_
                refine s_look (look_fieldAddr Try.underlying51 rfl (fun _ _ => rfl) rfl rfl) ?_
                refine s_look (look_loadN Try.underlying26 rfl szTry_26 rfl rfl rfl (cs := ccell (cadd c v)) (eqn (Blk.sub hB7 rfl))) ?_
                refine s_buildSlice (parts := [(0, .tmp 82)]) (vs := [(0, .agg (ccell (cadd c v)).toArray)]) (cells := ccell (cadd c v)) Try.underlying22 szTry_26 zeTry_26 rfl rfl ⟨⟨_, rfl, rfl⟩, trivial⟩ rfl (by kernel_rfl) ?_
                intro g17 u17 hu17 hB17 hg17 hs17
                have lt_g3_g17 : g3 < g17 := by have := hB3.lt; omega
                have lt_g4_g17 : g4 < g17 := by have := hM4.lt; omega
                have lt_g5_g17 : g5 < g17 := by have := hB5.lt; omega
                have lt_g7_g17 : g7 < g17 := by have := hB7.lt; omega
                have lt_g11_g17 : g11 < g17 := by have := hB11.lt; omega
                have ne_hO_g17 : (Value.ownBlock (.slice A1 (a :: r1).length c1)) ≠ some g17 := hO.ne_new (by omega)
                have ge_g17 : w.heap.size ≤ g17 := by have := hX.size; omega
                replace hX := hX.comp hu17
                replace hB3 := hB3.ext hu17
                replace hM4 := hM4.ext hu17
                replace hB5 := hB5.ext hu17
                replace hB7 := hB7.ext hu17
                replace hB11 := hB11.ext hu17
                replace hO := hO.ext hu17
                have hsz18 := hX.size
                refine s_appendL (ce := ccell) (news := [cadd c v]) Try.underlying22 zsbTry_26 rfl rfl rfl hO rfl (Blk.src (x := cadd c v) rfl (by simp [ccell, Value.oneCell']) hB17) (by have := maxLen_is; simp only [List.length_cons, List.length_nil]; omega) (by simp only [List.length_cons, List.length_nil]; omega) (by omega) ?_
                intro v18 u18 hN18 hgr18 hat18
                replace hX := hX.grow hO (Nat.le_refl _) hgr18
                have hn_hB3 := hB3.grown hgr18 ne_hO_g3
                have hn_hM4 := hM4.grown hgr18 ne_hO_g4
                have hn_hB5 := hB5.grown hgr18 ne_hO_g5
                have hn_hB7 := hB7.grown hgr18 ne_hO_g7
                have hn_hB11 := hB11.grown hgr18 ne_hO_g11
                replace ne_hO_g3 := ne_app ne_hO_g3 hB3.lt hat18
                replace ne_hO_g4 := ne_app ne_hO_g4 hM4.lt hat18
                replace ne_hO_g5 := ne_app ne_hO_g5 hB5.lt hat18
                replace ne_hO_g7 := ne_app ne_hO_g7 hB7.lt hat18
                replace ne_hO_g11 := ne_app ne_hO_g11 hB11.lt hat18
                clear hB3
                have hB3 := hn_hB3
                clear hn_hB3
                clear hM4
                have hM4 := hn_hM4
                clear hn_hM4
                clear hB5
                have hB5 := hn_hB5
                clear hn_hB5
                clear hB7
                have hB7 := hn_hB7
                clear hn_hB7
                clear hB11
                have hB11 := hn_hB11
                clear hn_hB11
                clear hO
                have hO := hN18
                refine s_look (look_assign rfl rfl) ?_
                refine s_nil ?_
                refine inB_normal ?_
                exact loop_end ((cadd c v, v, r1 ++ [cadd c v], v18, cost, kk)) (by simp only []; omega) ⟨rfl, rfl, rfl, rfl, rfl, rfl, trivial⟩ ⟨hX, hB5, hM4, hB3, hB7, hO, ne_hO_g5, ne_hO_g4, ne_hO_g3, ne_hO_g7, hst _ (fun h => (hr1 h).elim) (fun h => rfl)⟩
          · have hcb : c = b := nd_f hc65
            subst hcb
            obtain ⟨hd1, hd2⟩ := hA.done hb.1
            refine wp_exit ?_
            refine then_exit ?_
            refine then_exit ?_
            refine inB_exit_same ?_
            refine then_normal ?_
            refine wp_seq ?_
            refine region_s ?_
            refine q_look (look_move rfl rfl) ?_
            refine q_look (look_move rfl rfl) ?_
            refine q_look (look_assign rfl rfl) ?_
            refine q_look (look_assign rfl rfl) ?_
            refine q_look (look_assign rfl rfl) ?_
            refine q_nil ?_
            rintro _ rfl
            refine then_normal ?_
            refine wp_ret ?_
            exact res3 Try.results5 rfl rfl rfl ⟨_, _, _, _, rfl, hX, hO, by unfold PathS; rw [if_neg (fun h => h h0), if_neg (fun h => h hask), if_neg hbl]; exact .inl ⟨r1, rfl, hd1, hd2, rfl⟩⟩

end Go.Proofs.Ythddekipelbooaa
