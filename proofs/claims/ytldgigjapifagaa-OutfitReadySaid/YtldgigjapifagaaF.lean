/- The walks of chapter 47 (outfit), sixth part: sorted. -/
import Derived.Test.YtldgigjapifagaaE
namespace Go.Proofs.Ytldgigjapifagaa
open Go Go.RowKit Core
set_option linter.unusedVariables false
set_option linter.unusedSimpArgs false
attribute [local irreducible] wpQuiet wpList wpH wpT Code.wp Calls bodyPost act QM


theorem free_eq (ps : List Pk) (od : List Int) (p : Pk) {m : List (ByteArray × Bool)} (h : ∀ id, mget m id = if findP id ps < 0 then none else some (decide (findP id ps ∈ od))) : (p.after.any fun x => (mget m x).isSome && !((mget m x).getD false)) = p.after.any (openP ps od) := by
  congr 1
  funext x
  exact open_mm h x
theorem o_long {ps : List Pk} (h : 64 < ps.length) : oErr ps = 4 ∧ oList ps = [] := by unfold oErr oList; rw [if_pos h, if_pos h]; exact ⟨rfl, rfl⟩
theorem o_cyc {ps : List Pk} (h : ¬ 64 < ps.length) (hr : ordRun ps ps.length [] = none) : oErr ps = 20 ∧ oList ps = [] := by unfold oErr oList; rw [if_neg h, if_neg h, hr]; exact ⟨rfl, rfl⟩
theorem o_ok {ps : List Pk} {od : List Int} (h : ¬ 64 < ps.length) (hr : ordRun ps ps.length [] = some od) : oErr ps = 0 ∧ oList ps = od := by unfold oErr oList; rw [if_neg h, if_neg h, hr]; exact ⟨rfl, rfl⟩
theorem ne_own {g b : Nat} {n c : Nat} (h : g ≠ b) : Value.ownBlock (.slice (some ⟨g, 0, none⟩) n c) ≠ some b := by simp [Value.ownBlock, h]
theorem noLet {K : Act → World → Prop} : ¬ LetsOut (Exit.then K (fun _ _ _ => False)) := fun ⟨_, _, h⟩ => h
theorem pkF : PanicOk (fun (_ : Exit) (_ : Act) (_ : World) => False) := fun _ _ _ _ _ h => h

theorem sorted_any (h nd pt sm : Value) (pA : Option Addr) (ps : List Pk) (pc : Nat) (ne : Value) (w : World) (hD : DOk w pA ps) :
    Calls Try.prog 29 #[.agg #[h, nd, pt, sm, .slice pA ps.length pc, ne]] w fun e w' => ∃ v, e = .returned (.tuple #[v, .int .i64 (oErr ps)]) ∧ Ext w w' ∧ Core.Own icell 3 1 w.heap.size w' v (oList ps) := by
  refine calls_actM Try.func29 rfl Try.ntmps29 rfl rfl ?_
  show Code.wp _ _ _ (act 73 [(0, true, .agg #[h, nd, pt, sm, .slice pA ps.length pc, ne])] _) _
  have hX : Ext w w := Ext.rfl' w
  refine wp_seq ?_
  refine wp_region_lit ?_
  refine s_box rfl ?_
  intro g1 u1 hu1 hB1 hg1 hs1
  replace hB1 : Blk u1 g1 28 ([h, nd, pt, sm, .slice pA ps.length pc, ne]) := hB1
  have ge_g1 : w.heap.size ≤ g1 := by have := hX.size; omega
  replace hX := hX.comp hu1
  refine s_look (look_assign rfl rfl) ?_
  refine s_look (look_assign rfl rfl) ?_
  refine s_nil ?_
  refine then_normal ?_
  refine wp_seq ?_
  refine wp_seq ?_
  refine region_s ?_
  refine q_look (look_fieldAddr Try.underlying28 rfl (fun _ _ => rfl) rfl rfl) ?_
  refine q_look (look_load1 Try.underlying25 rfl rfl rfl (eqc (hB1.cell rfl))) ?_
  refine q_look (look_len_slice Try.underlying25 rfl rfl) ?_
  refine q_look (look_gtr rfl rfl rfl rfl) ?_
  refine q_nil ?_
  rintro _ rfl
  refine then_normal ?_
  refine cond_split rfl (fun hc15 => ?_) (fun hc15 => ?_)
  · have h64 : 64 < (ps.length : Int) := nn_t hc15
    refine wp_seq ?_
    refine region_s ?_
    refine q_look (look_assign rfl rfl) ?_
    refine q_look (look_assign rfl rfl) ?_
    refine q_nil ?_
    rintro _ rfl
    refine then_normal ?_
    refine wp_ret ?_
    refine then_ret ?_
    exact resM2 (Ds := []) Try.results29 rfl rfl (Defs.nil _) (fun W' hs => ⟨_, by rw [(o_long (by omega)).1], hs.ext hX (fun D h => by cases h), (Own.nil _ _ _ _ _).as (o_long (by omega)).2.symm⟩)
  · have h64 : ¬ (64 < (ps.length : Int)) := nn_f hc15
    refine wp_skip ?_
    refine then_normal ?_
    refine wp_seq ?_
    refine wp_region_lit ?_
    refine s_look (look_fieldAddr Try.underlying28 rfl (fun _ _ => rfl) rfl rfl) ?_
    refine s_look (look_load1 Try.underlying25 rfl rfl rfl (eqc (hB1.cell rfl))) ?_
    refine s_look (look_len_slice Try.underlying25 rfl rfl) ?_
    refine s_make (ce := bocell) (zx := false) (m := ps.length) Try.underlying57 zsbTry_4 rfl rfl rfl rfl rfl rfl (by omega) hD.len ?_
    intro g2 u2 hu2 hT hg2
    have ge_g2 : w.heap.size ≤ g2 := by have := hX.size; omega
    have lt_g1_g2 : g1 < g2 := by have := hB1.lt; omega
    replace hT := hT.weak hX.size
    replace hX := hX.comp hu2
    replace hB1 := hB1.ext hu2
    have ne_hT_g1 : Value.ownBlock (.slice (some ⟨g2, 0, none⟩) (ps.length) (ps.length)) ≠ some g1 := by simp [Value.ownBlock]; omega
    refine s_alloc zeTry_57 ?_
    intro g3 u3 hu3 hB3 hg3 hs3
    have lt_g1_g3 : g1 < g3 := by have := hB1.lt; omega
    have ne_hT_g3 : (Value.ownBlock (.slice (some ⟨g2, 0, none⟩) (ps.length) (ps.length))) ≠ some g3 := hT.ne_new (by omega)
    have ge_g3 : w.heap.size ≤ g3 := by have := hX.size; omega
    replace hX := hX.comp hu3
    replace hB1 := hB1.ext hu3
    replace hT := hT.ext hu3
    refine s_store1 szTry_57 rfl rfl rfl rfl hB3 rfl ?_
    intro u4 hk4 hT4
    replace hX := hX.kp hk4 (by omega)
    replace hB1 := hB1.kp hk4 (by omega)
    replace hT := hT.kp hk4 ne_hT_g3
    clear hB3
    have hB3 := hT4
    refine s_nil ?_
    rw [ndB_nil] at hT
    replace hB3 : Blk _ g3 57 [.slice (some ⟨g2, 0, none⟩) ps.length ps.length] := hB3
    refine then_normal ?_
    refine wp_seq ?_
    refine wp_region_lit ?_
    refine s_makeMap (kv := kS) ?_ rfl
    intro g5 u5 hu5 hM5 hg5 hs5
    have lt_g1_g5 : g1 < g5 := by have := hB1.lt; omega
    have lt_g3_g5 : g3 < g5 := by have := hB3.lt; omega
    have ne_hT_g5 : (Value.ownBlock (.slice (some ⟨g2, 0, none⟩) (ps.length) (ps.length))) ≠ some g5 := hT.ne_new (by omega)
    have ge_g5 : w.heap.size ≤ g5 := by have := hX.size; omega
    replace hX := hX.comp hu5
    replace hB1 := hB1.ext hu5
    replace hB3 := hB3.ext hu5
    replace hT := hT.ext hu5
    refine s_alloc zeTry_60 ?_
    intro g6 u6 hu6 hB6 hg6 hs6
    have lt_g1_g6 : g1 < g6 := by have := hB1.lt; omega
    have lt_g3_g6 : g3 < g6 := by have := hB3.lt; omega
    have lt_g5_g6 : g5 < g6 := by have := hM5.lt; omega
    have ne_hT_g6 : (Value.ownBlock (.slice (some ⟨g2, 0, none⟩) (ps.length) (ps.length))) ≠ some g6 := hT.ne_new (by omega)
    have ge_g6 : w.heap.size ≤ g6 := by have := hX.size; omega
    replace hX := hX.comp hu6
    replace hB1 := hB1.ext hu6
    replace hB3 := hB3.ext hu6
    replace hM5 := hM5.ext hu6
    replace hT := hT.ext hu6
    refine s_store1 szTry_60 rfl rfl rfl rfl hB6 rfl ?_
    intro u7 hk7 hT7
    replace hX := hX.kp hk7 (by omega)
    replace hB1 := hB1.kp hk7 (by omega)
    replace hB3 := hB3.kp hk7 (by omega)
    replace hM5 := hM5.kp hk7 (by omega)
    replace hT := hT.kp hk7 ne_hT_g6
    clear hB6
    have hB6 := hT7
    refine s_nil ?_
    replace hB6 : Blk _ g6 60 [.map (some g5)] := hB6
    refine then_normal ?_
    refine wp_seq ?_
    refine wp_seq ?_
    refine region_s ?_
    refine q_look (look_fieldAddr Try.underlying28 rfl (fun _ _ => rfl) rfl rfl) ?_
    refine q_look (look_load1 Try.underlying25 rfl rfl rfl (eqc (hB1.cell rfl))) ?_
    refine q_look (look_len_slice Try.underlying25 rfl rfl) ?_
    refine q_look (look_move rfl rfl) ?_
    refine q_nil ?_
    rintro _ rfl
    have hO := Own.nil icell 3 1 w.heap.size w
    refine then_normal ?_
    refine wp_block ?_
    refine loop_actD (fun (ls : Nat × List Int × Value × List (ByteArray × Bool) × List Nat) => [(1, .pointer (some ⟨g1, 0, none⟩)), (2, ls.2.2.1), (4, .pointer (some ⟨g3, 0, none⟩)), (5, .pointer (some ⟨g6, 0, none⟩)), (23, .int .i64 (ps.length : Int)), (24, .int .i64 (ls.1 : Int))]) (fun ls w' => (Ext w w') ∧ (Blk w' g1 28 [h, nd, pt, sm, .slice pA ps.length pc, ne]) ∧ (Core.Own bocell 4 1 w.heap.size w' (.slice (some ⟨g2, 0, none⟩) ps.length ps.length) (ndB ps.length ls.2.1)) ∧ (Blk w' g3 57 [.slice (some ⟨g2, 0, none⟩) ps.length ps.length]) ∧ (MapB kS w' g5 ls.2.2.2.1) ∧ (Blk w' g6 60 [.map (some g5)]) ∧ (Core.Own icell 3 1 w.heap.size w' ls.2.2.1 ls.2.1) ∧ (Value.ownBlock ls.2.2.1 ≠ some g1) ∧ (Value.ownBlock ls.2.2.1 ≠ some g3) ∧ (Value.ownBlock ls.2.2.1 ≠ some g5) ∧ (Value.ownBlock ls.2.2.1 ≠ some g6) ∧ (Dis ls.2.2.1 (.slice (some ⟨g2, 0, none⟩) ps.length ps.length)) ∧ (ls.1 ≤ ps.length) ∧ (ls.2.1.length = ls.1) ∧ (ordRun ps (ps.length - ls.1) ls.2.1 = ordRun ps ps.length []) ∧ (Defs w' ls.2.2.2.2) ∧ (∀ D ∈ ls.2.2.2.2, w.heap.size ≤ D)) (fun ls => ps.length - ls.1) ((0, [], .slice none 0 0, [], [])) (fun ls => ls.2.2.2.2) rfl ?_ ?_ ?_
    · exact ⟨rfl, rfl, rfl, rfl, rfl, rfl, trivial⟩
    · exact ⟨hX, hB1, hT, hB3, hM5, hB6, Own.nil _ _ _ _ _, (by simp [Value.ownBlock]), (by simp [Value.ownBlock]), (by simp [Value.ownBlock]), (by simp [Value.ownBlock]), (fun k hk => by cases hk), Nat.zero_le _, rfl, rfl, Defs.nil _, (fun D h => by cases h)⟩
    · rintro ⟨k, od, ov, m, Ds⟩ σ wr hF
      obtain ⟨hX, hB1, hT, hB3, hM5, hB6, hO, ne_hO_g1, ne_hO_g3, ne_hO_g5, ne_hO_g6, dis_hO_hT, hk, hod, hrun, hDs, hDb⟩ : (Ext w wr) ∧ (Blk wr g1 28 [h, nd, pt, sm, .slice pA ps.length pc, ne]) ∧ (Core.Own bocell 4 1 w.heap.size wr (.slice (some ⟨g2, 0, none⟩) ps.length ps.length) (ndB ps.length od)) ∧ (Blk wr g3 57 [.slice (some ⟨g2, 0, none⟩) ps.length ps.length]) ∧ (MapB kS wr g5 m) ∧ (Blk wr g6 60 [.map (some g5)]) ∧ (Core.Own icell 3 1 w.heap.size wr ov od) ∧ (Value.ownBlock ov ≠ some g1) ∧ (Value.ownBlock ov ≠ some g3) ∧ (Value.ownBlock ov ≠ some g5) ∧ (Value.ownBlock ov ≠ some g6) ∧ (Dis ov (.slice (some ⟨g2, 0, none⟩) ps.length ps.length)) ∧ (k ≤ ps.length) ∧ (od.length = k) ∧ (ordRun ps (ps.length - k) od = ordRun ps ps.length []) ∧ (Defs wr Ds) ∧ (∀ D ∈ Ds, w.heap.size ≤ D) := hF
      show Code.wp _ _ _ (act 73 [(1, true, .pointer (some ⟨g1, 0, none⟩)), (2, true, ov), (4, true, .pointer (some ⟨g3, 0, none⟩)), (5, true, .pointer (some ⟨g6, 0, none⟩)), (23, true, .int .i64 (ps.length : Int)), (24, true, .int .i64 (k : Int))] _) _
      refine wp_seq ?_
      refine region_s ?_
      refine q_look (look_lss rfl rfl rfl rfl) ?_
      refine q_nil ?_
      rintro _ rfl
      refine then_normal ?_
      refine wp_seq ?_
      refine cond_split rfl (fun hc25 => ?_) (fun hc25 => ?_)
      · have hlt : (k : Int) < (ps.length : Int) := nn_t hc25
        replace hlt : k < ps.length := by omega
        refine wp_skip ?_
        refine then_normal ?_
        refine wp_seq ?_
        refine wp_block ?_
        refine wp_seq ?_
        refine wp_region_lit ?_
        refine s_look (look_load1 Try.underlying60 rfl rfl rfl (eqc (hB6.cell rfl))) ?_
        refine s_clear (kv := kS) Try.underlying60 rfl hM5 ?_
        intro u8 hk8 hT8
        replace hDs := hDs.kp hk8 hM5.nd
        replace hX := hX.kp hk8 (by omega)
        replace hB1 := hB1.kp hk8 (by omega)
        replace hB3 := hB3.kp hk8 (by omega)
        replace hB6 := hB6.kp hk8 (by omega)
        replace hT := hT.kp hk8 ne_hT_g5
        replace hO := hO.kp hk8 ne_hO_g5
        clear hM5
        have hM5 := hT8
        refine s_nil ?_
        refine then_normal ?_
        refine wp_seq ?_
        refine wp_seq ?_
        refine wp_region_lit ?_
        refine s_look (look_fieldAddr Try.underlying28 rfl (fun _ _ => rfl) rfl rfl) ?_
        refine s_look (look_load1 Try.underlying25 rfl rfl rfl (eqc (hB1.cell rfl))) ?_
        refine s_call (vs := [_]) enTry_40 ⟨⟨_, rfl, rfl⟩, trivial⟩ (back_any ps pA pc _) ?_
        rintro _ u9 ⟨g9, rfl, hu9, hB9, hg9⟩
        refine ⟨_, rfl, ?_⟩
        have lt_g1_g9 : g1 < g9 := by have := hB1.lt; omega
        have lt_g3_g9 : g3 < g9 := by have := hB3.lt; omega
        have lt_g5_g9 : g5 < g9 := by have := hM5.lt; omega
        have lt_g6_g9 : g6 < g9 := by have := hB6.lt; omega
        have ne_hT_g9 : (Value.ownBlock (.slice (some ⟨g2, 0, none⟩) ps.length ps.length)) ≠ some g9 := hT.ne_new (by omega)
        have ne_hO_g9 : (Value.ownBlock (ov)) ≠ some g9 := hO.ne_new (by omega)
        have ge_g9 : w.heap.size ≤ g9 := by have := hX.size; omega
        replace hX := hX.comp hu9
        replace hB1 := hB1.ext hu9
        replace hB3 := hB3.ext hu9
        replace hM5 := hM5.ext hu9
        replace hB6 := hB6.ext hu9
        replace hT := hT.ext hu9
        replace hO := hO.ext hu9
        replace hDs := hDs.ext hu9
        refine s_nil ?_
        refine then_normal ?_
        refine wp_block ?_
        have hps0 : ∀ b o, pA = some ⟨b, o, none⟩ → ps ≠ [] → b < w.heap.size := fun b o e hne => by
          subst e
          rcases hD.sl with h | ⟨b', o', he, h2⟩
          · exact absurd h hne
          · obtain ⟨y, hy⟩ := get_lt (show 0 < ps.length by cases ps; exact absurd rfl hne; simp)
            cases he
            exact cell_lt (h2 0 y hy 0 _ rfl)
        have hAl : ∀ b o, pA = some ⟨b, o, none⟩ → b < (u9).heap.size ∧ b ≠ g5 := fun b o e => by
          have h1 := hps0 b o e (fun e => by subst e; simp at hlt)
          have h2 := hX.size
          omega
        refine wp_rangeFunc2 (kv := kS) (mb := g5) (bt := 48) (lb := #[.pointer (some ⟨g9, 0, none⟩)]) (v1 := fun x : Ix ps => .int .i64 (x.1 : Int)) (bc := fun x : Ix ps => pcell (ps[x.1]'x.2)) (s1 := 6) (s2 := 7) rfl enTry_47 (back_seq ps pA pc g9 g5 _ hB9 (hD.sl.ext hX) hD.len (by omega) hAl) (mmP ps od) hM5 ?_ ?_ ?_
        · intro lp x W K hK
          refine wpIn_seq ?_
          refine rin_lit (fun ⟨_, _, h⟩ => h) rfl ?_
          refine s_look (look_assign rfl rfl) ?_
          refine s_nil ?_
          refine then_normal ?_
          refine rin_lit noLet rfl ?_
          refine s_alloc zeTry_48 ?_
          intro g u hu hB hg hs
          refine s_store szTry_48 rfl (by simp [pcell, Value.cells, Value.oneCell']) rfl rfl hB rfl ?_
          intro u2 hk2 hT2
          refine s_nil ?_
          exact hK g u2 (hu.kp hk2 (by omega)) hT2 (by omega)
        · intro lp pre x g W hMu hMx hBp hneg
          have hX5 := hX.mut hMu (by omega)
          clear hX
          have hX := hX5
          replace hT := hT.mut hMu ne_hT_g5
          replace hB3 := hB3.mut hMu (by omega)
          replace hB6 := hB6.mut hMu (by omega)
          clear hM5
          have hM5 := hMx
          have hMw := Mut.rfl' g5 W
          obtain ⟨xi, hxi⟩ := x
          obtain ⟨y, hy⟩ : ∃ y, y = ps[xi] := ⟨_, rfl⟩
          replace hBp : Blk W g 48 (pcell y) := by rw [hy]; exact hBp
          refine wpIn_block ?_
          show Code.wpIn _ _ _ _ _ (act (ds := []) 73 ((7, true, .pointer (some ⟨g, 0, none⟩)) :: (6, true, .int .i64 (xi : Int)) :: _) _) _
          refine rin_h (fun W => Ext w W ∧ Blk W g3 57 [.slice (some ⟨g2, 0, none⟩) ps.length ps.length] ∧ Blk W g6 60 [.map (some g5)] ∧ Blk W g 48 (pcell y) ∧ Core.Own bocell 4 1 w.heap.size W (.slice (some ⟨g2, 0, none⟩) ps.length ps.length) (ndB ps.length od)) [(0, true), (1, true), (2, true), (3, true), (4, true), (5, true), (6, true), (7, false)] mixed (by kernel_rfl) rfl (by kernel_rfl) (by repeat (first | exact pk_body | exact (fun _ _ _ _ _ h => by cases h.1) | refine pk_then ?_ | refine pk_block ?_)) (fun ⟨_, _, h⟩ => by cases h.1) rfl ?_
          intro u10 hR10
          replace hX := hX.comp hR10
          replace hMw := hMw.comp hR10
          replace hB3 := hB3.ext hR10
          replace hM5 := hM5.ext hR10
          replace hB6 := hB6.ext hR10
          replace hBp := hBp.ext hR10
          replace hT := hT.ext hR10
          refine ⟨⟨hX, hB3, hB6, hBp, hT⟩, ?_⟩
          refine h_look rfl (look_load1 Try.underlying60 rfl rfl rfl (fun w' hS => (hS.2.2.1).cell rfl)) ?_
          refine h_look rfl (look_fieldAddr Try.underlying48 rfl (fun _ _ => rfl) rfl rfl) ?_
          refine h_look rfl (look_load1 Try.underlying9 rfl rfl rfl (fun w' hS => (hS.2.2.2.1).cell rfl)) ?_
          refine h_look rfl (look_load1 Try.underlying57 rfl rfl rfl (fun w' hS => (hS.2.1).cell rfl)) ?_
          refine h_look rfl (look_move rfl rfl) ?_
          refine h_look rfl (look_indexAddr _ Try.underlying57 szTry_4 rfl rfl rfl rfl rfl (by omega)) ?_
          refine h_look rfl (look_load1 Try.underlying4 rfl rfl rfl (fun w' hS => (hS.2.2.2.2.rd hce_bo xi _ (ndB_get hxi)) 0 _ rfl)) ?_
          refine h_seq rfl ?_ ⟨hX, hB3, hB6, hBp, hT⟩
          refine s_mapUpdate (a := y.id) (v := decide ((xi : Int) ∈ od)) klS Try.underlying60 (by rfl) (by rfl) (by rfl) hM5 ?_
          intro u11 hk11 hT11
          replace hX := hX.kp hk11 (by omega)
          replace hMw := hMw.kp hk11 (by omega)
          replace hB3 := hB3.kp hk11 (by omega)
          replace hB6 := hB6.kp hk11 (by omega)
          replace hBp := hBp.kp hk11 (by omega)
          replace hT := hT.kp hk11 ne_hT_g5
          clear hM5
          have hM5 := hT11
          refine s_nil ?_
          refine then_normal ?_
          refine ⟨⟨hX, hB3, hB6, hBp, hT⟩, ?_⟩
          refine h_nil ?_
          exact ⟨rfl, hMw, by rw [mmP_snoc]; simp only [← hy]; exact hM5⟩
        · intro D xs W hDg hS hMu hMx hdD
          subst hS
          have hDs0 := hDs
          have hX0 := hX
          have hDlt : ∀ E ∈ Ds, E ≠ D := fun E hE e => by have := hDs0.lt hE; omega
          replace hDs := hDs.mut hMu hM5.nd
          replace hX := hX.mut hMu (by omega)
          replace hB1 := hB1.mut hMu (by omega)
          replace hB3 := hB3.mut hMu (by omega)
          replace hB6 := hB6.mut hMu (by omega)
          replace hB9 := hB9.mut hMu (by omega)
          replace hT := hT.mut hMu ne_hT_g5
          replace hO := hO.mut hMu ne_hO_g5
          clear hM5
          have hM5 := hMx
          replace hDs := hDs.cons hdD hDlt
          replace hDb : ∀ E ∈ D :: Ds, w.heap.size ≤ E := fun E hE => by
            rcases List.mem_cons.1 hE with e | e
            · rw [e]; have := hX0.size; omega
            · exact hDb E e
          have hm := mm_all ps od
          refine inB_normal ?_
          refine then_normal ?_
          refine wp_seq ?_
          refine region_s ?_
          refine q_look (look_makeFunc (vs := [_]) ⟨⟨_, rfl, rfl⟩, trivial⟩) ?_
          refine q_look (look_assign rfl rfl) ?_
          refine q_nil ?_
          rintro _ rfl
          refine then_normal ?_
          refine wp_seq ?_
          refine region_s ?_
          refine q_look (look_assign rfl rfl) ?_
          refine q_nil ?_
          rintro _ rfl
          refine then_normal ?_
          refine seq_cut (ds := marks (D :: Ds)) (n := 73) (fun (nx : Int) => [(1, .pointer (some ⟨g1, 0, none⟩)), (2, ov), (4, .pointer (some ⟨g3, 0, none⟩)), (5, .pointer (some ⟨g6, 0, none⟩)), (23, .int .i64 (ps.length : Int)), (24, .int .i64 (k : Int)), (9, .int .i64 nx)]) (fun nx w' => (Ext w w') ∧ (Blk w' g1 28 [h, nd, pt, sm, .slice pA ps.length pc, ne]) ∧ (Core.Own bocell 4 1 w.heap.size w' (.slice (some ⟨g2, 0, none⟩) ps.length ps.length) (ndB ps.length od)) ∧ (Blk w' g3 57 [.slice (some ⟨g2, 0, none⟩) ps.length ps.length]) ∧ (MapB kS w' g5 (mmP ps od (bkl ps ps.length))) ∧ (Blk w' g6 60 [.map (some g5)]) ∧ (Core.Own icell 3 1 w.heap.size w' ov od) ∧ (Defs w' (D :: Ds)) ∧ (nx = nextI ps od)) ?_ ?_
          · refine wp_seq ?_
            refine region_s ?_
            refine q_look (look_fieldAddr Try.underlying28 rfl (fun _ _ => rfl) rfl rfl) ?_
            refine q_look (look_load1 Try.underlying25 rfl rfl rfl (eqc (hB1.cell rfl))) ?_
            refine q_look (look_len_slice Try.underlying25 rfl rfl) ?_
            refine q_look (look_move rfl rfl) ?_
            refine q_nil ?_
            rintro _ rfl
            refine then_normal ?_
            refine wp_block ?_
            refine loop_act (fun (i : Nat) => [(1, .pointer (some ⟨g1, 0, none⟩)), (2, ov), (4, .pointer (some ⟨g3, 0, none⟩)), (5, .pointer (some ⟨g6, 0, none⟩)), (23, .int .i64 (ps.length : Int)), (24, .int .i64 (k : Int)), (8, .func (.func 41) #[] #[.pointer (some ⟨g6, 0, none⟩)]), (9, .int .i64 (-1)), (41, .slice pA ps.length pc), (42, .int .i64 (ps.length : Int)), (43, .int .i64 (i : Int))]) (fun i w' => (Ext w w') ∧ (Blk w' g1 28 [h, nd, pt, sm, .slice pA ps.length pc, ne]) ∧ (Core.Own bocell 4 1 w.heap.size w' (.slice (some ⟨g2, 0, none⟩) ps.length ps.length) (ndB ps.length od)) ∧ (Blk w' g3 57 [.slice (some ⟨g2, 0, none⟩) ps.length ps.length]) ∧ (MapB kS w' g5 (mmP ps od (bkl ps ps.length))) ∧ (Blk w' g6 60 [.map (some g5)]) ∧ (Core.Own icell 3 1 w.heap.size w' ov od) ∧ (Defs w' (D :: Ds)) ∧ (i ≤ ps.length) ∧ (nxtG ps od (ps.drop i) (i : Int) = nextI ps od)) (fun i => ps.length - i) (0) ?_ ?_ ?_
            · exact ⟨rfl, rfl, rfl, rfl, rfl, rfl, rfl, rfl, rfl, rfl, rfl, trivial⟩
            · exact ⟨hX, hB1, hT, hB3, hM5, hB6, hO, hDs, Nat.zero_le _, rfl⟩
            · rintro i σ wr hF
              obtain ⟨hX, hB1, hT, hB3, hM5, hB6, hO, hDs, hi, hnx⟩ : (Ext w wr) ∧ (Blk wr g1 28 [h, nd, pt, sm, .slice pA ps.length pc, ne]) ∧ (Core.Own bocell 4 1 w.heap.size wr (.slice (some ⟨g2, 0, none⟩) ps.length ps.length) (ndB ps.length od)) ∧ (Blk wr g3 57 [.slice (some ⟨g2, 0, none⟩) ps.length ps.length]) ∧ (MapB kS wr g5 (mmP ps od (bkl ps ps.length))) ∧ (Blk wr g6 60 [.map (some g5)]) ∧ (Core.Own icell 3 1 w.heap.size wr ov od) ∧ (Defs wr (D :: Ds)) ∧ (i ≤ ps.length) ∧ (nxtG ps od (ps.drop i) (i : Int) = nextI ps od) := hF
              show Code.wp _ _ _ (act 73 [(1, true, .pointer (some ⟨g1, 0, none⟩)), (2, true, ov), (4, true, .pointer (some ⟨g3, 0, none⟩)), (5, true, .pointer (some ⟨g6, 0, none⟩)), (23, true, .int .i64 (ps.length : Int)), (24, true, .int .i64 (k : Int)), (8, true, .func (.func 41) #[] #[.pointer (some ⟨g6, 0, none⟩)]), (9, true, .int .i64 (-1)), (41, true, .slice pA ps.length pc), (42, true, .int .i64 (ps.length : Int)), (43, true, .int .i64 (i : Int))] _) _
              refine wp_seq ?_
              refine region_s ?_
              refine q_look (look_lss rfl rfl rfl rfl) ?_
              refine q_nil ?_
              rintro _ rfl
              refine then_normal ?_
              refine wp_seq ?_
              refine cond_split rfl (fun hc44 => ?_) (fun hc44 => ?_)
              · have hli : i < ps.length := by have := nn_t hc44; omega
                obtain ⟨p, hp⟩ := get_lt hli
                obtain ⟨b1, o1, rfl, _⟩ := (hD.sl.ext hX).at_ hli
                have hpo := hD.ok p (mem_get hp)
                refine wp_skip ?_
                refine then_normal ?_
                refine wp_seq ?_
                refine wp_block ?_
                refine wp_seq ?_
                refine wp_region_lit ?_
                refine s_look (look_move rfl rfl) ?_
                refine s_look (look_indexAddr _ Try.underlying25 szTry_48 rfl rfl rfl rfl rfl (by omega)) ?_
                refine s_look (look_loadN Try.underlying48 rfl szTry_48 rfl rfl rfl (cs := pcell p) (eqn ((hD.sl.ext hX).rd i p hp))) ?_
                refine s_alloc zeTry_48 ?_
                intro g12 u12 hu12 hB12 hg12 hs12
                have lt_g1_g12 : g1 < g12 := by have := hB1.lt; omega
                have lt_g3_g12 : g3 < g12 := by have := hB3.lt; omega
                have lt_g5_g12 : g5 < g12 := by have := hM5.lt; omega
                have lt_g6_g12 : g6 < g12 := by have := hB6.lt; omega
                have ne_hT_g12 : (Value.ownBlock (.slice (some ⟨g2, 0, none⟩) ps.length ps.length)) ≠ some g12 := hT.ne_new (by omega)
                have ne_hO_g12 : (Value.ownBlock (ov)) ≠ some g12 := hO.ne_new (by omega)
                have ge_g12 : w.heap.size ≤ g12 := by have := hX.size; omega
                replace hX := hX.comp hu12
                replace hB1 := hB1.ext hu12
                replace hB3 := hB3.ext hu12
                replace hM5 := hM5.ext hu12
                replace hB6 := hB6.ext hu12
                replace hT := hT.ext hu12
                replace hO := hO.ext hu12
                replace hDs := hDs.ext hu12
                refine s_look (look_assign rfl rfl) ?_
                refine s_store szTry_48 rfl (by simp [pcell, scell, Value.cells, Value.oneCell']) rfl rfl hB12 rfl ?_
                intro u13 hk13 hT13
                replace hT13 : Blk u13 g12 48 (pcell p) := hT13
                replace hDs := hDs.kp hk13 hB12.nd
                replace hX := hX.kp hk13 (by omega)
                replace hB1 := hB1.kp hk13 (by omega)
                replace hB3 := hB3.kp hk13 (by omega)
                replace hM5 := hM5.kp hk13 (by omega)
                replace hB6 := hB6.kp hk13 (by omega)
                replace hT := hT.kp hk13 ne_hT_g12
                replace hO := hO.kp hk13 ne_hO_g12
                clear hB12
                have hB12 := hT13
                refine s_nil ?_
                refine then_normal ?_
                refine wp_seq ?_
                refine region_q ?_
                refine q_look (look_load1 Try.underlying57 rfl rfl rfl (ext_cell (hB3.cell rfl))) ?_
                refine q_look (look_move rfl rfl) ?_
                refine q_look (look_indexAddr _ Try.underlying57 szTry_4 rfl rfl rfl rfl rfl (by omega)) ?_
                refine q_look (look_load1 Try.underlying4 rfl rfl rfl (ext_cell ((hT.rd hce_bo i _ (ndB_get hli)) 0 _ rfl))) ?_
                refine q_look (look_not rfl rfl) ?_
                refine q_look (look_move rfl rfl) ?_
                refine q_lookg rfl rfl rfl (fun hq => look_fieldAddr Try.underlying48 rfl (fun _ _ => rfl) rfl rfl) ?_
                refine q_lookg rfl rfl rfl (fun hq => look_load1 Try.underlying31 rfl rfl hq (ext_cell (hB12.cell rfl))) ?_
                refine q_lookg rfl rfl rfl (fun hq => look_move rfl rfl) ?_
                refine q_callg (vs := [_, _]) rfl rfl rfl enTry_36 (fun hq => ⟨⟨_, rfl, hq⟩, ⟨_, rfl, hq⟩, trivial⟩) (fun hq wc hw => cext hw (containsf_s p.after p.A p.cap 41 [.pointer (some ⟨g6, 0, none⟩)] (fun x => (mget (mmP ps od (bkl ps ps.length)) x).isSome && !((mget (mmP ps od (bkl ps ps.length)) x).getD false)) wc (hpo.1.ext (hX.comp hw)) hpo.2.1 enTry_41 (fun W e y hy => open1_any y g6 g5 _ W (hB6.ext (hw.comp e)) (hM5.ext (hw.comp e))))) ?_
                refine q_lookg rfl rfl rfl (fun hq => look_not rfl hq) ?_
                refine q_look (look_and rfl rfl rfl rfl) ?_
                refine q_nil ?_
                intro w1 hw1
                replace hX := hX.comp hw1
                replace hB1 := hB1.ext hw1
                replace hB3 := hB3.ext hw1
                replace hM5 := hM5.ext hw1
                replace hB6 := hB6.ext hw1
                replace hB12 := hB12.ext hw1
                replace hT := hT.ext hw1
                replace hO := hO.ext hw1
                replace hDs := hDs.ext hw1
                refine then_normal ?_
                refine cond_split rfl (fun hc59 => ?_) (fun hc59 => ?_)
                · have hq : ¬ (i : Int) ∈ od ∧ freeP ps od p = true := by rw [free_eq ps od p hm, Bool.and_eq_true] at hc59; exact ⟨nd_t hc59.1, hc59.2⟩
                  refine wp_seq ?_
                  refine region_s ?_
                  refine q_look (look_move rfl rfl) ?_
                  refine q_look (look_assign rfl rfl) ?_
                  refine q_nil ?_
                  rintro _ rfl
                  refine then_normal ?_
                  refine wp_exit ?_
                  refine inB_exit_other rfl ?_
                  refine then_exit ?_
                  refine then_exit ?_
                  refine inB_exit_same ?_
                  exact cut_end _ ⟨rfl, rfl, rfl, rfl, rfl, rfl, rfl, trivial⟩ ⟨hX, hB1, hT, hB3, hM5, hB6, hO, hDs, by rw [← hnx, drop_get hp, nxtG, if_pos hq]⟩
                · have hq : ¬ (¬ (i : Int) ∈ od ∧ freeP ps od p = true) := fun hh => by rw [free_eq ps od p hm, decide_eq_false hh.1] at hc59; have h2 := hh.2; unfold freeP at h2; rw [h2] at hc59; cases hc59
                  refine wp_skip ?_
                  refine inB_normal ?_
                  refine then_normal ?_
                  refine region_s ?_
                  refine q_look (look_add rfl rfl rfl rfl (by have := hD.len; have := maxLen_is; unfold I64; omega)) ?_
                  refine q_look (look_move rfl rfl) ?_
                  refine q_nil ?_
                  rintro _ rfl
                  exact loop_end (i + 1) (by omega) ⟨rfl, rfl, rfl, rfl, rfl, rfl, rfl, rfl, rfl, rfl, rfl, trivial⟩ ⟨hX, hB1, hT, hB3, hM5, hB6, hO, hDs, by omega, by rw [← hnx, drop_get hp, nxtG, if_neg hq]; rfl⟩
              · have hge : ¬ i < ps.length := by have := nn_f hc44; omega
                refine wp_exit ?_
                refine then_exit ?_
                refine then_exit ?_
                refine inB_exit_same ?_
                exact cut_end _ ⟨rfl, rfl, rfl, rfl, rfl, rfl, rfl, trivial⟩ ⟨hX, hB1, hT, hB3, hM5, hB6, hO, hDs, by rw [← hnx, List.drop_eq_nil_of_le (by omega)]; rfl⟩
          · rintro nx σ wr hF
            obtain ⟨hX, hB1, hT, hB3, hM5, hB6, hO, hDs, hnx⟩ : (Ext w wr) ∧ (Blk wr g1 28 [h, nd, pt, sm, .slice pA ps.length pc, ne]) ∧ (Core.Own bocell 4 1 w.heap.size wr (.slice (some ⟨g2, 0, none⟩) ps.length ps.length) (ndB ps.length od)) ∧ (Blk wr g3 57 [.slice (some ⟨g2, 0, none⟩) ps.length ps.length]) ∧ (MapB kS wr g5 (mmP ps od (bkl ps ps.length))) ∧ (Blk wr g6 60 [.map (some g5)]) ∧ (Core.Own icell 3 1 w.heap.size wr ov od) ∧ (Defs wr (D :: Ds)) ∧ (nx = nextI ps od) := hF
            show Code.wp _ _ _ (act 73 [(1, true, .pointer (some ⟨g1, 0, none⟩)), (2, true, ov), (4, true, .pointer (some ⟨g3, 0, none⟩)), (5, true, .pointer (some ⟨g6, 0, none⟩)), (23, true, .int .i64 (ps.length : Int)), (24, true, .int .i64 (k : Int)), (9, true, .int .i64 nx)] _) _
            refine wp_seq ?_
            refine wp_seq ?_
            refine region_s ?_
            refine q_look (look_move rfl rfl) ?_
            refine q_look (look_lss rfl rfl rfl rfl) ?_
            refine q_nil ?_
            rintro _ rfl
            refine then_normal ?_
            refine cond_split rfl (fun hc63 => ?_) (fun hc63 => ?_)
            · have hn0 : nx < 0 := nn_t hc63
              have hcyc : ordRun ps ps.length [] = none := by rw [← hrun, show ps.length - k = (ps.length - (k + 1)) + 1 by omega, ordRun, ← hnx, if_pos hn0]
              refine wp_seq ?_
              refine region_s ?_
              refine q_look (look_assign rfl rfl) ?_
              refine q_look (look_assign rfl rfl) ?_
              refine q_nil ?_
              rintro _ rfl
              refine then_normal ?_
              refine wp_ret ?_
              refine then_ret ?_
              refine inB_ret ?_
              refine then_ret ?_
              refine then_ret ?_
              refine inB_ret ?_
              refine then_ret ?_
              exact resM2 (Ds := D :: Ds) Try.results29 rfl rfl hDs (fun W' hs => ⟨_, by rw [(o_cyc (by omega) hcyc).1], hs.ext hX hDb, (Own.nil _ _ _ _ _).as (o_cyc (by omega) hcyc).2.symm⟩)
            · have hn0 : ¬ (nx < 0) := nn_f hc63
              have hnb := next_bd ps od
              rw [← hnx] at hnb
              have hnj : nx = ((nx.toNat : Nat) : Int) := by omega
              refine wp_skip ?_
              refine then_normal ?_
              refine wp_seq ?_
              refine wp_region_lit ?_
              refine s_look (look_load1 Try.underlying57 rfl rfl rfl (eqc (hB3.cell rfl))) ?_
              refine s_look (look_move rfl rfl) ?_
              refine s_look (look_indexAddr nx.toNat Try.underlying57 szTry_4 rfl rfl rfl rfl (by omega) (by omega)) ?_
              refine s_storeRow (ce := bocell) (kv := (fun b : Bool => Value.bool b)) (u := true) (j := nx.toNat) szTry_4 (fun _ => rfl) rfl rfl (by rfl) (by rfl) hT (by omega) (by rw [ndB_len]; omega) ?_
              intro u14 hk14 hT14
              replace hDs := hDs.kp hk14 (hT.nd (g := g2) rfl)
              replace hX := hX.kp hk14 (by omega)
              replace hB1 := hB1.kp hk14 (fun e => ne_hT_g1 (by rw [e]; rfl))
              replace hB3 := hB3.kp hk14 (fun e => ne_hT_g3 (by rw [e]; rfl))
              replace hM5 := hM5.kp hk14 (fun e => ne_hT_g5 (by rw [e]; rfl))
              replace hB6 := hB6.kp hk14 (fun e => ne_hT_g6 (by rw [e]; rfl))
              replace hO := hO.kp hk14 (fun e => dis_hO_hT g2 e rfl)
              clear hT
              have hT := hT14
              refine s_nil ?_
              refine then_normal ?_
              refine wp_region_lit ?_
              refine s_look (look_move rfl rfl) ?_
              refine s_look (look_move rfl rfl) ?_
              refine s_buildSlice (parts := [(0, .tmp 68)]) (vs := [(0, _)]) (cells := icell nx) Try.underlying35 szTry_3 zeTry_3 rfl rfl ⟨⟨_, rfl, rfl⟩, trivial⟩ rfl (by kernel_rfl) ?_
              intro g15 u15 hu15 hB15 hg15 hs15
              have lt_g1_g15 : g1 < g15 := by have := hB1.lt; omega
              have lt_g3_g15 : g3 < g15 := by have := hB3.lt; omega
              have lt_g5_g15 : g5 < g15 := by have := hM5.lt; omega
              have lt_g6_g15 : g6 < g15 := by have := hB6.lt; omega
              have ne_hT_g15 : (Value.ownBlock (.slice (some ⟨g2, 0, none⟩) ps.length ps.length)) ≠ some g15 := hT.ne_new (by omega)
              have ne_hO_g15 : (Value.ownBlock (ov)) ≠ some g15 := hO.ne_new (by omega)
              have ge_g15 : w.heap.size ≤ g15 := by have := hX.size; omega
              replace hX := hX.comp hu15
              replace hB1 := hB1.ext hu15
              replace hB3 := hB3.ext hu15
              replace hM5 := hM5.ext hu15
              replace hB6 := hB6.ext hu15
              replace hT := hT.ext hu15
              replace hO := hO.ext hu15
              replace hDs := hDs.ext hu15
              have hsz16 := hX.size
              refine s_appendL (ce := icell) (news := [nx]) Try.underlying35 zsbTry_3 rfl rfl rfl hO rfl (Blk.src (x := nx) rfl (by simp [icell, Value.oneCell']) hB15) (by simp only [List.length_cons, List.length_nil, hod]; rw [maxLen_is]; omega) (by simp only [List.length_cons, List.length_nil, hod]; omega) (by omega) ?_
              intro v16 u16 hN16 hgr16 hat16
              replace hDs := hDs.grown hgr16 (fun g e => hO.nd e)
              replace hX := hX.grow hO (Nat.le_refl _) hgr16
              have hn_hB1 := hB1.grown hgr16 ne_hO_g1
              have hn_hB3 := hB3.grown hgr16 ne_hO_g3
              have hn_hM5 := hM5.grown hgr16 ne_hO_g5
              have hn_hB6 := hB6.grown hgr16 ne_hO_g6
              replace ne_hO_g1 := ne_app ne_hO_g1 hB1.lt hat16
              replace ne_hO_g3 := ne_app ne_hO_g3 hB3.lt hat16
              replace ne_hO_g5 := ne_app ne_hO_g5 hM5.lt hat16
              replace ne_hO_g6 := ne_app ne_hO_g6 hB6.lt hat16
              clear hB1
              have hB1 := hn_hB1
              clear hn_hB1
              clear hB3
              have hB3 := hn_hB3
              clear hn_hB3
              clear hM5
              have hM5 := hn_hM5
              clear hn_hM5
              clear hB6
              have hB6 := hn_hB6
              clear hn_hB6
              have hn_hT := hT.grown hgr16 (Dis.ne dis_hO_hT)
              replace dis_hO_hT := Dis.app dis_hO_hT (fun k e => (hT.ge e).2) hat16
              clear hT
              have hT := hn_hT
              clear hn_hT
              clear hO
              have hO := hN16
              refine s_look (look_assign rfl rfl) ?_
              refine s_nil ?_
              refine inB_normal ?_
              refine then_normal ?_
              refine region_s ?_
              refine q_look (look_add rfl rfl rfl rfl (by have := hD.len; have := maxLen_is; unfold I64; omega)) ?_
              refine q_look (look_move rfl rfl) ?_
              refine q_nil ?_
              rintro _ rfl
              exact loop_endD ((k + 1, od ++ [nx], v16, mmP ps od (bkl ps ps.length), D :: Ds)) rfl (by simp only []; omega) ⟨rfl, rfl, rfl, rfl, rfl, rfl, trivial⟩ ⟨hX, hB1, (by rw [hnj, ← ndB_set (by omega)]; exact hT), hB3, hM5, hB6, hO, ne_hO_g1, ne_hO_g3, ne_hO_g5, ne_hO_g6, dis_hO_hT, by show k + 1 ≤ ps.length; omega, by show (od ++ [_]).length = k + 1; rw [List.length_append, hod]; rfl, by rw [← hrun, show ps.length - k = (ps.length - (k + 1)) + 1 by omega, ordRun, ← hnx, if_neg hn0], hDs, hDb⟩
      · have hlt : ¬ ((k : Int) < (ps.length : Int)) := nn_f hc25
        obtain rfl : k = ps.length := by omega
        rw [Nat.sub_self] at hrun
        refine wp_exit ?_
        refine then_exit ?_
        refine then_exit ?_
        refine inB_exit_same ?_
        refine then_normal ?_
        refine wp_seq ?_
        refine region_s ?_
        refine q_look (look_move rfl rfl) ?_
        refine q_look (look_assign rfl rfl) ?_
        refine q_look (look_assign rfl rfl) ?_
        refine q_nil ?_
        rintro _ rfl
        refine then_normal ?_
        refine wp_ret ?_
        exact resM2 Try.results29 rfl rfl hDs (fun W' hs => ⟨_, by rw [(o_ok (by omega) hrun.symm).1], hs.ext hX hDb, (hO.shut hDs hs).as (o_ok (by omega) hrun.symm).2.symm⟩)

end Go.Proofs.Ytldgigjapifagaa
