/- The walks of chapter 44 (route): the law RoutePaths. -/
import Derived.Test.YtbmchijgejgboaaRe
import Derived.Test.YtbmchijgejgboaaLb
namespace Go.Proofs.Ytbmchijgejgboaa
open Go Go.RowKit Core
set_option linter.unusedVariables false
set_option linter.unusedSimpArgs false
attribute [local irreducible] wpQuiet wpList wpH wpT Code.wp Calls bodyPost act

theorem paths_law (g : Gr) (t : It) (w : World) (hG : GOk w g) :
    Calls Try.prog 5 #[.agg (gcell g).toArray, .agg (itcell t).toArray] w fun e w' => e = .returned (.bool (true)) ∧ Ext w w' := by
  refine calls_act Try.func5 rfl Try.ntmps5 rfl rfl ?_
  show Code.wp _ _ _ (act 66 [(0, true, .agg (gcell g).toArray), (1, true, .agg (itcell t).toArray)] _) _
  have hX : Ext w w := Ext.rfl' w
  refine wp_seq ?_
  refine wp_region_lit ?_
  refine s_box rfl ?_
  intro g1 u1 hu1 hB1 hg1 hs1
  replace hB1 : Blk u1 g1 24 (gcell g) := hB1
  have ge_g1 : w.heap.size ≤ g1 := by have := hX.size; omega
  replace hX := hX.comp hu1
  refine s_box rfl ?_
  intro g2 u2 hu2 hB2 hg2 hs2
  replace hB2 : Blk u2 g2 37 (itcell t) := hB2
  have lt_g1_g2 : g1 < g2 := by have := hB1.lt; omega
  have ge_g2 : w.heap.size ≤ g2 := by have := hX.size; omega
  replace hX := hX.comp hu2
  replace hB1 := hB1.ext hu2
  refine s_look (look_assign rfl rfl) ?_
  refine s_nil ?_
  refine then_normal ?_
  refine wp_seq ?_
  refine wp_seq ?_
  refine region_q ?_
  refine q_look (look_fieldAddr Try.underlying24 rfl (fun _ _ => rfl) rfl rfl) ?_
  refine q_look (look_load1 Try.underlying22 rfl rfl rfl (ext_cell (hB1.cell rfl))) ?_
  refine q_look (look_len_slice Try.underlying22 rfl rfl) ?_
  refine q_look (look_gtr rfl rfl rfl rfl) ?_
  refine q_look (look_move rfl rfl) ?_
  refine q_lookg rfl rfl rfl (fun hq => look_loadN Try.underlying24 rfl szTry_24 rfl rfl rfl (ext_cell_n hB1)) ?_
  refine q_callg (vs := [_]) rfl rfl rfl enTry_12 (fun hq => ⟨⟨_, rfl, hq⟩, trivial⟩) (fun hq wc hw => cext hw (refcheckgrid_any g wc (hG.ext (hX.comp hw)))) ?_
  refine q_lookg rfl rfl rfl (fun hq => look_eql rfl hq rfl rfl) ?_
  refine q_lookg rfl rfl rfl (fun hq => look_move rfl hq) ?_
  refine q_lookg rfl rfl rfl (fun hq => look_loadN Try.underlying24 rfl szTry_24 rfl rfl rfl (ext_cell_n hB1)) ?_
  refine q_callg (vs := [_]) rfl rfl rfl enTry_20 (fun hq => ⟨⟨_, rfl, hq⟩, trivial⟩) (fun hq wc hw => cext hw (small_any g wc (hG.ext (hX.comp hw)))) ?_
  refine q_lookg rfl rfl rfl (fun hq => look_not rfl hq) ?_
  refine q_lookg rfl rfl rfl (fun hq => look_and rfl hq rfl hq) ?_
  refine q_look (look_or rfl rfl rfl rfl) ?_
  refine q_nil ?_
  intro w1 hw1
  replace hX := hX.comp hw1
  replace hB1 := hB1.ext hw1
  replace hB2 := hB2.ext hw1
  refine then_normal ?_
  refine cond_split rfl (fun hc24 => ?_) (fun hc24 => ?_)
  · skip
    refine wp_seq ?_
    refine region_q ?_
    refine q_call (vs := []) enTry_10 trivial (fun wc hw => cext hw (awake_any wc)) ?_
    refine q_look (look_assign rfl rfl) ?_
    refine q_nil ?_
    intro w2 hw2
    replace hX := hX.comp hw2
    replace hB1 := hB1.ext hw2
    replace hB2 := hB2.ext hw2
    refine then_normal ?_
    refine wp_ret ?_
    refine then_ret ?_
    exact res1 Try.results5 rfl ⟨ret_bool (by first | rfl | simp), hX⟩
  · skip
    refine wp_skip ?_
    refine then_normal ?_
    refine wp_seq ?_
    refine wp_region_lit ?_
    refine s_look (look_loadN Try.underlying24 rfl szTry_24 rfl rfl rfl (eqc_n hB1)) ?_
    refine s_look (look_fieldAddr Try.underlying37 rfl (fun _ _ => rfl) rfl rfl) ?_
    refine s_look (look_loadN Try.underlying35 rfl szTry_35 rfl rfl rfl (cs := ccell t.at_) (eqn (Blk.sub hB2 rfl))) ?_
    refine s_look (look_fieldAddr Try.underlying37 rfl (fun _ _ => rfl) rfl rfl) ?_
    refine s_look (look_loadN Try.underlying35 rfl szTry_35 rfl rfl rfl (cs := ccell t.by_) (eqn (Blk.sub hB2 rfl))) ?_
    refine s_look (look_fieldAddr Try.underlying37 rfl (fun _ _ => rfl) rfl rfl) ?_
    refine s_look (look_load1 Try.underlying3 rfl rfl rfl (eqc (hB2.cell rfl))) ?_
    refine s_call (vs := [_, _, _, _]) enTry_21 ⟨⟨_, rfl, rfl⟩, ⟨_, rfl, rfl⟩, ⟨_, rfl, rfl⟩, ⟨_, rfl, rfl⟩, trivial⟩ (path_any g t.at_ t.by_ t.left _ (hG.ext hX)) ?_
    rintro _ u3 ⟨v3, pshP, cohP, erhP, rfl, hc3, hP, pShP⟩
    refine ⟨_, rfl, ?_⟩
    have ne_hP_g1 : Value.ownBlock v3 ≠ some g1 := hP.ne_old hB1.lt
    have ne_hP_g2 : Value.ownBlock v3 ≠ some g2 := hP.ne_old hB2.lt
    replace hP := hP.weak hX.size
    replace hX := hX.comp hc3
    replace hB1 := hB1.ext hc3
    replace hB2 := hB2.ext hc3
    obtain ⟨AhP, chP, rfl, _⟩ := hP.sl hce_c
    refine s_look (look_move rfl rfl) ?_
    refine s_look (look_extract rfl rfl rfl) ?_
    refine s_look (look_extract rfl rfl rfl) ?_
    refine s_look (look_extract rfl rfl rfl) ?_
    refine s_look (look_assign rfl rfl) ?_
    refine s_look (look_assign rfl rfl) ?_
    refine s_look (look_assign rfl rfl) ?_
    refine s_nil ?_
    refine then_normal ?_
    refine wp_seq ?_
    refine wp_region_lit ?_
    refine s_look (look_loadN Try.underlying24 rfl szTry_24 rfl rfl rfl (eqc_n hB1)) ?_
    refine s_look (look_fieldAddr Try.underlying37 rfl (fun _ _ => rfl) rfl rfl) ?_
    refine s_look (look_loadN Try.underlying35 rfl szTry_35 rfl rfl rfl (cs := ccell t.at_) (eqn (Blk.sub hB2 rfl))) ?_
    refine s_look (look_fieldAddr Try.underlying37 rfl (fun _ _ => rfl) rfl rfl) ?_
    refine s_look (look_loadN Try.underlying35 rfl szTry_35 rfl rfl rfl (cs := ccell t.by_) (eqn (Blk.sub hB2 rfl))) ?_
    refine s_look (look_fieldAddr Try.underlying37 rfl (fun _ _ => rfl) rfl rfl) ?_
    refine s_look (look_load1 Try.underlying3 rfl rfl rfl (eqc (hB2.cell rfl))) ?_
    refine s_call (vs := [_, _, _, _]) enTry_22 ⟨⟨_, rfl, rfl⟩, ⟨_, rfl, rfl⟩, ⟨_, rfl, rfl⟩, ⟨_, rfl, rfl⟩, trivial⟩ (refpath_any g t.at_ t.by_ t.left _ (hG.ext hX)) ?_
    rintro _ u4 ⟨v4, pshQ, cohQ, erhQ, rfl, hc4, hQ, pShQ⟩
    refine ⟨_, rfl, ?_⟩
    have dis_hP_hQ := Own.dis_new hP hQ
    have ne_hQ_g1 : Value.ownBlock v4 ≠ some g1 := hQ.ne_old hB1.lt
    have ne_hQ_g2 : Value.ownBlock v4 ≠ some g2 := hQ.ne_old hB2.lt
    replace hQ := hQ.weak hX.size
    replace hX := hX.comp hc4
    replace hB1 := hB1.ext hc4
    replace hB2 := hB2.ext hc4
    replace hP := hP.ext hc4
    obtain ⟨AhQ, chQ, rfl, _⟩ := hQ.sl hce_c
    refine s_look (look_move rfl rfl) ?_
    refine s_look (look_extract rfl rfl rfl) ?_
    refine s_look (look_extract rfl rfl rfl) ?_
    refine s_look (look_extract rfl rfl rfl) ?_
    refine s_look (look_assign rfl rfl) ?_
    refine s_look (look_assign rfl rfl) ?_
    refine s_look (look_assign rfl rfl) ?_
    refine s_nil ?_
    obtain ⟨e1, e2, e3⟩ := pShP.uniq pShQ
    subst e1
    subst e2
    subst e3
    have hmx := Own.lenB hP
    refine then_normal ?_
    refine wp_seq ?_
    refine region_q ?_
    refine q_look (look_move rfl rfl) ?_
    refine q_look (look_move rfl rfl) ?_
    refine q_call (vs := [_, _]) enTry_17 ⟨⟨_, rfl, rfl⟩, ⟨_, rfl, rfl⟩, trivial⟩ (fun wc hw => cext hw (call_true' (same_any pshP pshP AhP AhQ chP chQ wc ((hP.slOf hce_c).1.ext hw) ((hQ.slOf hce_c).1.ext hw) hmx) (decide_eq_true rfl))) ?_
    refine q_look (look_move rfl rfl) ?_
    refine q_lookg rfl rfl rfl (fun hq => look_move rfl rfl) ?_
    refine q_lookg rfl rfl rfl (fun hq => look_move rfl rfl) ?_
    refine q_lookg rfl rfl rfl (fun hq => look_eql rfl hq rfl hq) ?_
    refine q_look (look_and rfl rfl rfl rfl) ?_
    refine q_look (look_move rfl rfl) ?_
    refine q_lookg rfl rfl rfl (fun hq => look_move rfl rfl) ?_
    refine q_lookg rfl rfl rfl (fun hq => look_move rfl rfl) ?_
    refine q_lookg rfl rfl rfl (fun hq => look_eql rfl hq rfl hq) ?_
    refine q_look (look_and rfl rfl rfl rfl) ?_
    refine q_look (look_move rfl rfl) ?_
    refine q_callg (vs := []) rfl rfl rfl enTry_10 (fun hq => trivial) (fun hq wc hw => cext hw (awake_any wc)) ?_
    refine q_look (look_and rfl rfl rfl rfl) ?_
    refine q_look (look_assign rfl rfl) ?_
    refine q_nil ?_
    intro w3 hw3
    replace hX := hX.comp hw3
    replace hB1 := hB1.ext hw3
    replace hB2 := hB2.ext hw3
    replace hP := hP.ext hw3
    replace hQ := hQ.ext hw3
    refine then_normal ?_
    refine wp_ret ?_
    exact res1 Try.results5 rfl ⟨ret_bool (by first | rfl | simp), hX⟩

end Go.Proofs.Ytbmchijgejgboaa
