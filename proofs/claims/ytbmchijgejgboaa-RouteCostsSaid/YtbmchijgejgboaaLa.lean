/- The walks of chapter 44 (route): the laws RouteChecks, RouteCosts. -/
import Derived.Test.YtbmchijgejgboaaAw
namespace Go.Proofs.Ytbmchijgejgboaa
open Go Go.RowKit Core
set_option linter.unusedVariables false
set_option linter.unusedSimpArgs false
attribute [local irreducible] wpQuiet wpList wpH wpT Code.wp Calls bodyPost act

theorem checks_law (g : Gr) (l : List Cl) (A : Option Addr) (c : Nat) (w : World) (hG : GOk w g) (hA : Sl ccell 3 w A l) (hla : l.length ≤ maxLen) :
    Calls Try.prog 3 #[.agg (gcell g).toArray, .slice A l.length c] w fun e w' => e = .returned (.bool (true)) ∧ Ext w w' := by
  refine calls_act Try.func3 rfl Try.ntmps3 rfl rfl ?_
  show Code.wp _ _ _ (act 32 [(0, true, .agg (gcell g).toArray), (1, true, .slice A l.length c)] _) _
  have hX : Ext w w := Ext.rfl' w
  refine wp_seq ?_
  refine wp_region_lit ?_
  refine s_box rfl ?_
  intro g1 u1 hu1 hB1 hg1 hs1
  replace hB1 : Blk u1 g1 24 (gcell g) := hB1
  have ge_g1 : w.heap.size ≤ g1 := by have := hX.size; omega
  replace hX := hX.comp hu1
  refine s_look (look_assign rfl rfl) ?_
  refine s_nil ?_
  refine then_normal ?_
  refine wp_seq ?_
  refine wp_seq ?_
  refine region_s ?_
  refine q_look (look_fieldAddr Try.underlying24 rfl (fun _ _ => rfl) rfl rfl) ?_
  refine q_look (look_load1 Try.underlying22 rfl rfl rfl (eqc (hB1.cell rfl))) ?_
  refine q_look (look_len_slice Try.underlying22 rfl rfl) ?_
  refine q_look (look_gtr rfl rfl rfl rfl) ?_
  refine q_look (look_move rfl rfl) ?_
  refine q_lookg rfl rfl rfl (fun hq => look_move rfl rfl) ?_
  refine q_lookg rfl rfl rfl (fun hq => look_len_slice Try.underlying22 rfl hq) ?_
  refine q_lookg rfl rfl rfl (fun hq => look_gtr rfl hq rfl rfl) ?_
  refine q_look (look_or rfl rfl rfl rfl) ?_
  refine q_nil ?_
  rintro _ rfl
  refine then_normal ?_
  refine cond_split rfl (fun hc13 => ?_) (fun hc13 => ?_)
  · skip
    refine wp_seq ?_
    refine region_q ?_
    refine q_call (vs := []) enTry_10 trivial (fun wc hw => cext hw (awake_any wc)) ?_
    refine q_look (look_assign rfl rfl) ?_
    refine q_nil ?_
    intro w1 hw1
    replace hX := hX.comp hw1
    replace hB1 := hB1.ext hw1
    refine then_normal ?_
    refine wp_ret ?_
    refine then_ret ?_
    exact res1 Try.results3 rfl ⟨rfl, hX⟩
  · skip
    refine wp_skip ?_
    refine then_normal ?_
    refine wp_seq ?_
    refine region_qd mixed (by kernel_rfl) ?_
    refine q_look (look_loadN Try.underlying24 rfl szTry_24 rfl rfl rfl (ext_cell_n hB1)) ?_
    refine q_call (vs := [_]) enTry_11 ⟨⟨_, rfl, rfl⟩, trivial⟩ (fun wc hw => cext hw (checkgrid_any g wc (hG.ext (hX.comp hw)))) ?_
    refine q_look (look_loadN Try.underlying24 rfl szTry_24 rfl rfl rfl (ext_cell_n hB1)) ?_
    refine q_call (vs := [_]) enTry_12 ⟨⟨_, rfl, rfl⟩, trivial⟩ (fun wc hw => cext hw (refcheckgrid_any g wc (hG.ext (hX.comp hw)))) ?_
    refine q_look (look_eql rfl rfl rfl rfl) ?_
    refine q_look (look_move rfl rfl) ?_
    refine q_lookg rfl rfl rfl (fun hq => look_loadN Try.underlying24 rfl szTry_24 rfl rfl rfl (ext_cell_n hB1)) ?_
    refine q_lookg rfl rfl rfl (fun hq => look_move rfl rfl) ?_
    refine q_callg (vs := [_, _]) rfl rfl rfl enTry_13 (fun hq => ⟨⟨_, rfl, hq⟩, ⟨_, rfl, hq⟩, trivial⟩) (fun hq wc hw => cext hw (check_any g l A c wc (hG.ext (hX.comp hw)) (hA.ext (hX.comp hw)) hla)) ?_
    refine q_lookg rfl rfl rfl (fun hq => look_loadN Try.underlying24 rfl szTry_24 rfl rfl rfl (ext_cell_n hB1)) ?_
    refine q_lookg rfl rfl rfl (fun hq => look_move rfl rfl) ?_
    refine q_callg (vs := [_, _]) rfl rfl rfl enTry_14 (fun hq => ⟨⟨_, rfl, hq⟩, ⟨_, rfl, hq⟩, trivial⟩) (fun hq wc hw => cext hw (refcheck_any g l A c wc (hG.ext (hX.comp hw)) (hA.ext (hX.comp hw)) hla)) ?_
    refine q_lookg rfl rfl rfl (fun hq => look_eql rfl hq rfl hq) ?_
    refine q_look (look_and rfl rfl rfl rfl) ?_
    refine q_look (look_move rfl rfl) ?_
    refine q_callg (vs := []) rfl rfl rfl enTry_10 (fun hq => trivial) (fun hq wc hw => cext hw (awake_any wc)) ?_
    refine q_look (look_and rfl rfl rfl rfl) ?_
    refine q_look (look_assign rfl rfl) ?_
    refine q_nil ?_
    intro w2 hw2
    replace hX := hX.comp hw2
    replace hB1 := hB1.ext hw2
    refine then_normal ?_
    refine wp_ret ?_
    exact res1 Try.results3 rfl ⟨ret_bool (by simp), hX⟩

theorem costs_law (l : List Cl) (A : Option Addr) (c : Nat) (bend : Int) (w : World) (hA : Sl ccell 3 w A l) (hla : l.length ≤ maxLen) :
    Calls Try.prog 4 #[.slice A l.length c, .int .i64 bend] w fun e w' => e = .returned (.bool (true)) ∧ Ext w w' := by
  refine calls_act Try.func4 rfl Try.ntmps4 rfl rfl ?_
  show Code.wp _ _ _ (act 26 [(0, true, .slice A l.length c), (1, true, .int .i64 bend)] _) _
  have hX : Ext w w := Ext.rfl' w
  refine wp_seq ?_
  refine region_s ?_
  refine q_look (look_assign rfl rfl) ?_
  refine q_nil ?_
  rintro _ rfl
  refine then_normal ?_
  refine wp_seq ?_
  refine wp_seq ?_
  refine region_s ?_
  refine q_look (look_move rfl rfl) ?_
  refine q_look (look_len_slice Try.underlying22 rfl rfl) ?_
  refine q_look (look_gtr rfl rfl rfl rfl) ?_
  refine q_nil ?_
  rintro _ rfl
  refine then_normal ?_
  refine cond_split rfl (fun hc7 => ?_) (fun hc7 => ?_)
  · have hb : 200 < (l.length : Int) := nn_t hc7
    refine wp_seq ?_
    refine region_q ?_
    refine q_call (vs := []) enTry_10 trivial (fun wc hw => cext hw (awake_any wc)) ?_
    refine q_look (look_assign rfl rfl) ?_
    refine q_nil ?_
    intro w1 hw1
    replace hX := hX.comp hw1
    refine then_normal ?_
    refine wp_ret ?_
    refine then_ret ?_
    exact res1 Try.results4 rfl ⟨ret_bool (by simp), hX⟩
  · have hb : ¬ (200 < (l.length : Int)) := nn_f hc7
    refine wp_skip ?_
    refine then_normal ?_
    refine wp_seq ?_
    refine wp_region_lit ?_
    refine s_look (look_move rfl rfl) ?_
    refine s_look (look_move rfl rfl) ?_
    refine s_call (vs := [_, _]) enTry_15 ⟨⟨_, rfl, rfl⟩, ⟨_, rfl, rfl⟩, trivial⟩ (cost_any l A c bend _ (hA.ext hX) hla (by omega)) ?_
    rintro _ u1 ⟨rfl, hc1⟩
    refine ⟨_, rfl, ?_⟩
    replace hX := hX.comp hc1
    refine s_look (look_move rfl rfl) ?_
    refine s_look (look_move rfl rfl) ?_
    refine s_call (vs := [_, _]) enTry_16 ⟨⟨_, rfl, rfl⟩, ⟨_, rfl, rfl⟩, trivial⟩ (refcost_any l A c bend _ (hA.ext hX) hla (by omega)) ?_
    rintro _ u2 ⟨rfl, hc2⟩
    refine ⟨_, rfl, ?_⟩
    replace hX := hX.comp hc2
    refine s_look (look_eql rfl rfl rfl rfl) ?_
    refine s_look (look_move rfl rfl) ?_
    refine s_want rfl rfl rfl (by simp) ?_
    refine s_look (look_move rfl rfl) ?_
    refine s_want rfl rfl rfl (by simp) ?_
    refine s_call (vs := [_]) enTry_18 ⟨⟨_, rfl, rfl⟩, trivial⟩ (corners_any l A c _ (hA.ext hX) hla (by omega)) ?_
    rintro _ u3 ⟨v3, rfl, hc3, h1⟩
    refine ⟨_, rfl, ?_⟩
    replace h1 := h1.weak hX.size
    replace hX := hX.comp hc3
    obtain ⟨A1, c1, rfl, _, _, m1, _⟩ := h1.sl hce_c
    refine s_want rfl rfl rfl (by simp) ?_
    refine s_look (look_move rfl rfl) ?_
    refine s_want rfl rfl rfl (by simp) ?_
    refine s_call (vs := [_]) enTry_19 ⟨⟨_, rfl, rfl⟩, trivial⟩ (refcorners_any l A c _ (hA.ext hX) hla (by omega)) ?_
    rintro _ u4 ⟨v4, rfl, hc4, h2⟩
    refine ⟨_, rfl, ?_⟩
    have dis_h1_h2 := Own.dis_new h1 h2
    replace h2 := h2.weak hX.size
    replace hX := hX.comp hc4
    replace h1 := h1.ext hc4
    obtain ⟨A2, c2, rfl, _⟩ := h2.sl hce_c
    refine s_want rfl rfl rfl (by simp) ?_
    refine s_call (vs := [_, _]) enTry_17 ⟨⟨_, rfl, rfl⟩, ⟨_, rfl, rfl⟩, trivial⟩ (call_true (same_any (cornersP l) (cornersP l) A1 A2 c1 c2 _ (h1.slOf hce_c).1 (h2.slOf hce_c).1 (by have := (h1.slOf hce_c).2.2.1; omega)) (decide_eq_true rfl)) ?_
    rintro _ u5 ⟨rfl, hc5⟩
    refine ⟨_, rfl, ?_⟩
    replace hX := hX.comp hc5
    replace h1 := h1.ext hc5
    replace h2 := h2.ext hc5
    refine s_look (look_and2 rfl rfl rfl rfl) ?_
    refine s_look (look_move rfl rfl) ?_
    refine s_want rfl rfl rfl (by simp) ?_
    refine s_call (vs := []) enTry_10 trivial (awake_any _) ?_
    rintro _ u6 ⟨rfl, hc6⟩
    refine ⟨_, rfl, ?_⟩
    replace hX := hX.comp hc6
    replace h1 := h1.ext hc6
    replace h2 := h2.ext hc6
    refine s_look (look_and2 rfl rfl rfl rfl) ?_
    refine s_look (look_assign rfl rfl) ?_
    refine s_nil ?_
    refine then_normal ?_
    refine wp_ret ?_
    exact res1 Try.results4 rfl ⟨ret_bool (by simp), hX⟩

end Go.Proofs.Ytbmchijgejgboaa
