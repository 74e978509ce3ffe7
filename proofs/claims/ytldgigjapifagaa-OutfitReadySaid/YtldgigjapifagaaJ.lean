/- The walks of chapter 47 (outfit), tenth part: OutfitOrders, OutfitAsks, OutfitSums. -/
import Derived.Test.YtldgigjapifagaaI
namespace Go.Proofs.Ytldgigjapifagaa
open Go Go.RowKit Core
set_option linter.unusedVariables false
set_option linter.unusedSimpArgs false
attribute [local irreducible] wpQuiet wpList wpH wpT Code.wp Calls bodyPost act

theorem orders_law (h nd pt sm : Value) (pA : Option Addr) (ps : List Pk) (pc : Nat) (ne : Value) (w : World) (hD : DOk w pA ps) :
    Calls Try.prog 3 #[.agg #[h, nd, pt, sm, .slice pA ps.length pc, ne]] w fun e w' => e = .returned (.bool (true)) ∧ Ext w w' := by
  refine calls_act Try.func3 rfl Try.ntmps3 rfl rfl ?_
  show Code.wp _ _ _ (act 56 [(0, true, .agg #[h, nd, pt, sm, .slice pA ps.length pc, ne])] _) _
  have hX : Ext w w := Ext.rfl' w
  refine wp_seq ?_
  refine wp_region_lit ?_
  refine s_box rfl ?_
  intro g1 u1 hu1 hB1 hg1 hs1
  replace hB1 : Blk u1 g1 28 ([h, nd, pt, sm, .slice pA ps.length pc, ne]) := hB1
  have ge_g1 : w.heap.size ≤ g1 := by have := hX.size; omega
  replace hX := hX.comp hu1
  refine s_look (look_assign rfl rfl) ?_
  refine s_nil ?_
  refine then_normal ?_
  refine wp_seq ?_
  refine wp_seq ?_
  refine region_q ?_
  refine q_look (look_loadN Try.underlying28 rfl szTry_28 rfl rfl rfl (ext_cell_n hB1)) ?_
  refine q_call (vs := [_, _]) enTry_10 ⟨⟨_, rfl, rfl⟩, ⟨_, rfl, rfl⟩, trivial⟩ (fun wc hw => cext hw (few_any h nd pt sm pA ps pc ne [] none 0 wc (hD.ext (hX.comp hw)) (show 0 ≤ maxLen by decide))) ?_
  refine q_look (look_not rfl rfl) ?_
  refine q_nil ?_
  intro w1 hw1
  replace hX := hX.comp hw1
  replace hB1 := hB1.ext hw1
  refine then_normal ?_
  refine cond_split rfl (fun hc13 => ?_) (fun hc13 => ?_)
  · skip
    refine wp_seq ?_
    refine region_q ?_
    refine q_call (vs := []) enTry_11 trivial (fun wc hw => cext hw (awake_any wc)) ?_
    refine q_look (look_assign rfl rfl) ?_
    refine q_nil ?_
    intro w2 hw2
    replace hX := hX.comp hw2
    replace hB1 := hB1.ext hw2
    refine then_normal ?_
    refine wp_ret ?_
    refine then_ret ?_
    exact res1 Try.results3 rfl ⟨rfl, hX⟩
  · have hF : fewP ps [] = true := by simpa using hc13
    obtain ⟨h70, h200, h30⟩ := few_spec hF
    have hps : ps.length ≤ 1000 := by omega
    refine wp_skip ?_
    refine then_normal ?_
    refine wp_seq ?_
    refine wp_region_lit ?_
    refine s_look (look_loadN Try.underlying28 rfl szTry_28 rfl rfl rfl (eqc_n hB1)) ?_
    refine s_call (vs := [_]) enTry_12 ⟨⟨_, rfl, rfl⟩, trivial⟩ (order_any h nd pt sm pA ps pc ne _ (hD.ext hX) hps) ?_
    rintro _ u2 ⟨v2, rfl, hc2, hA⟩
    refine ⟨_, rfl, ?_⟩
    have ne_hA_g1 : Value.ownBlock v2 ≠ some g1 := hA.ne_old hB1.lt
    replace hA := hA.weak hX.size
    replace hX := hX.comp hc2
    replace hB1 := hB1.ext hc2
    obtain ⟨A1, c1, rfl, hS_hA, hl_hA, hm_hA, _⟩ := hA.sl hce_s
    refine s_look (look_move rfl rfl) ?_
    refine s_look (look_extract rfl rfl rfl) ?_
    refine s_look (look_extract rfl rfl rfl) ?_
    refine s_look (look_assign rfl rfl) ?_
    refine s_look (look_assign rfl rfl) ?_
    refine s_nil ?_
    refine then_normal ?_
    refine wp_seq ?_
    refine wp_region_lit ?_
    refine s_look (look_loadN Try.underlying28 rfl szTry_28 rfl rfl rfl (eqc_n hB1)) ?_
    refine s_call (vs := [_]) enTry_13 ⟨⟨_, rfl, rfl⟩, trivial⟩ (reforders_any h nd pt sm pA ps pc ne _ (hD.ext hX) hps) ?_
    rintro _ u3 ⟨v3, rfl, hc3, hB⟩
    refine ⟨_, rfl, ?_⟩
    have dis_hA_hB := Own.dis_new hA hB
    have ne_hB_g1 : Value.ownBlock v3 ≠ some g1 := hB.ne_old hB1.lt
    replace hB := hB.weak hX.size
    replace hX := hX.comp hc3
    replace hB1 := hB1.ext hc3
    replace hA := hA.ext hc3
    obtain ⟨A2, c2, rfl, hS_hB, hl_hB, hm_hB, _⟩ := hB.sl hce_s
    refine s_look (look_move rfl rfl) ?_
    refine s_look (look_extract rfl rfl rfl) ?_
    refine s_look (look_extract rfl rfl rfl) ?_
    refine s_look (look_assign rfl rfl) ?_
    refine s_look (look_assign rfl rfl) ?_
    refine s_nil ?_
    refine then_normal ?_
    refine wp_seq ?_
    refine wp_region_lit ?_
    refine s_look (look_loadN Try.underlying28 rfl szTry_28 rfl rfl rfl (eqc_n hB1)) ?_
    refine s_call (vs := [_]) enTry_14 ⟨⟨_, rfl, rfl⟩, trivial⟩ (starts_any h nd pt sm pA ps pc ne _ (hD.ext hX) hps h30) ?_
    rintro _ u4 ⟨v4, rfl, hc4, hC⟩
    refine ⟨_, rfl, ?_⟩
    have dis_hA_hC := Own.dis_new hA hC
    have dis_hB_hC := Own.dis_new hB hC
    have ne_hC_g1 : Value.ownBlock v4 ≠ some g1 := hC.ne_old hB1.lt
    replace hC := hC.weak hX.size
    replace hX := hX.comp hc4
    replace hB1 := hB1.ext hc4
    replace hA := hA.ext hc4
    replace hB := hB.ext hc4
    obtain ⟨A3, c3, rfl, hS_hC, hl_hC, hm_hC, _⟩ := hC.sl hce_i
    refine s_look (look_move rfl rfl) ?_
    refine s_look (look_extract rfl rfl rfl) ?_
    refine s_look (look_extract rfl rfl rfl) ?_
    refine s_look (look_assign rfl rfl) ?_
    refine s_look (look_assign rfl rfl) ?_
    refine s_nil ?_
    refine then_normal ?_
    refine wp_seq ?_
    refine wp_region_lit ?_
    refine s_look (look_loadN Try.underlying28 rfl szTry_28 rfl rfl rfl (eqc_n hB1)) ?_
    refine s_call (vs := [_]) enTry_15 ⟨⟨_, rfl, rfl⟩, trivial⟩ (refstarts_any h nd pt sm pA ps pc ne _ (hD.ext hX) hps h30) ?_
    rintro _ u5 ⟨v5, rfl, hc5, hE⟩
    refine ⟨_, rfl, ?_⟩
    have dis_hA_hE := Own.dis_new hA hE
    have dis_hB_hE := Own.dis_new hB hE
    have dis_hC_hE := Own.dis_new hC hE
    have ne_hE_g1 : Value.ownBlock v5 ≠ some g1 := hE.ne_old hB1.lt
    replace hE := hE.weak hX.size
    replace hX := hX.comp hc5
    replace hB1 := hB1.ext hc5
    replace hA := hA.ext hc5
    replace hB := hB.ext hc5
    replace hC := hC.ext hc5
    obtain ⟨A4, c4, rfl, hS_hE, hl_hE, hm_hE, _⟩ := hE.sl hce_i
    refine s_look (look_move rfl rfl) ?_
    refine s_look (look_extract rfl rfl rfl) ?_
    refine s_look (look_extract rfl rfl rfl) ?_
    refine s_look (look_assign rfl rfl) ?_
    refine s_look (look_assign rfl rfl) ?_
    refine s_nil ?_
    refine then_normal ?_
    refine wp_seq ?_
    refine wp_region_lit ?_
    refine s_look (look_move rfl rfl) ?_
    refine s_look (look_move rfl rfl) ?_
    refine s_call (vs := [_, _]) enTry_16 ⟨⟨_, rfl, rfl⟩, ⟨_, rfl, rfl⟩, trivial⟩ (call_true (same_any (ordS ps) (ordS ps) A1 A2 c1 c2 _ (hA.slOf hce_s).1 (hB.slOf hce_s).1 (Nat.le_trans hl_hA hm_hA)) (decide_eq_true rfl)) ?_
    rintro _ u6 ⟨rfl, hc6⟩
    refine ⟨_, rfl, ?_⟩
    replace hX := hX.comp hc6
    replace hB1 := hB1.ext hc6
    replace hA := hA.ext hc6
    replace hB := hB.ext hc6
    replace hC := hC.ext hc6
    replace hE := hE.ext hc6
    refine s_look (look_move rfl rfl) ?_
    refine s_want rfl rfl rfl rfl ?_
    refine s_look (look_move rfl rfl) ?_
    refine s_want rfl rfl rfl rfl ?_
    refine s_look (look_move rfl rfl) ?_
    refine s_want rfl rfl rfl rfl ?_
    refine s_look (Look.as (look_eql rfl rfl rfl rfl) (v' := .bool true) (by rw [decide_eq_true rfl])) ?_
    refine s_look (look_and2 rfl rfl rfl rfl) ?_
    refine s_look (look_move rfl rfl) ?_
    refine s_want rfl rfl rfl rfl ?_
    refine s_look (look_move rfl rfl) ?_
    refine s_want rfl rfl rfl rfl ?_
    refine s_look (look_move rfl rfl) ?_
    refine s_want rfl rfl rfl rfl ?_
    refine s_call (vs := [_, _]) enTry_17 ⟨⟨_, rfl, rfl⟩, ⟨_, rfl, rfl⟩, trivial⟩ (call_true (sameints_any (startsP ps) (startsP ps) A3 A4 c3 c4 _ (hC.slOf hce_i).1 (hE.slOf hce_i).1 (Nat.le_trans hl_hC hm_hC)) (decide_eq_true rfl)) ?_
    rintro _ u7 ⟨rfl, hc7⟩
    refine ⟨_, rfl, ?_⟩
    replace hX := hX.comp hc7
    replace hB1 := hB1.ext hc7
    replace hA := hA.ext hc7
    replace hB := hB.ext hc7
    replace hC := hC.ext hc7
    replace hE := hE.ext hc7
    refine s_look (look_and2 rfl rfl rfl rfl) ?_
    refine s_look (look_move rfl rfl) ?_
    refine s_want rfl rfl rfl rfl ?_
    refine s_look (look_move rfl rfl) ?_
    refine s_want rfl rfl rfl rfl ?_
    refine s_look (look_move rfl rfl) ?_
    refine s_want rfl rfl rfl rfl ?_
    refine s_look (Look.as (look_eql rfl rfl rfl rfl) (v' := .bool true) (by rw [decide_eq_true rfl])) ?_
    refine s_look (look_and2 rfl rfl rfl rfl) ?_
    refine s_look (look_move rfl rfl) ?_
    refine s_want rfl rfl rfl rfl ?_
    refine s_call (vs := []) enTry_11 trivial (awake_any _) ?_
    rintro _ u8 ⟨rfl, hc8⟩
    refine ⟨_, rfl, ?_⟩
    replace hX := hX.comp hc8
    replace hB1 := hB1.ext hc8
    replace hA := hA.ext hc8
    replace hB := hB.ext hc8
    replace hC := hC.ext hc8
    replace hE := hE.ext hc8
    refine s_look (look_and2 rfl rfl rfl rfl) ?_
    refine s_look (look_assign rfl rfl) ?_
    refine s_nil ?_
    refine then_normal ?_
    refine wp_ret ?_
    exact res1 Try.results3 rfl ⟨ret_bool rfl, hX⟩

theorem asks_law (h nd pt sm : Value) (pA : Option Addr) (ps : List Pk) (pc : Nat) (ne : Value) (dn : List ByteArray) (dA : Option Addr) (dc : Nat) (id : ByteArray) (w : World) (hD : DOk w pA ps) (hN : Sl scell 1 w dA dn) (hnl : dn.length ≤ maxLen) :
    Calls Try.prog 4 #[.agg #[h, nd, pt, sm, .slice pA ps.length pc, ne], .slice dA dn.length dc, .string id] w fun e w' => e = .returned (.bool (true)) ∧ Ext w w' := by
  refine calls_act Try.func4 rfl Try.ntmps4 rfl rfl ?_
  show Code.wp _ _ _ (act 35 [(0, true, .agg #[h, nd, pt, sm, .slice pA ps.length pc, ne]), (1, true, .slice dA dn.length dc), (2, true, .string id)] _) _
  have hX : Ext w w := Ext.rfl' w
  refine wp_seq ?_
  refine wp_region_lit ?_
  refine s_box rfl ?_
  intro g1 u1 hu1 hB1 hg1 hs1
  replace hB1 : Blk u1 g1 28 ([h, nd, pt, sm, .slice pA ps.length pc, ne]) := hB1
  have ge_g1 : w.heap.size ≤ g1 := by have := hX.size; omega
  replace hX := hX.comp hu1
  replace hN := hN.ext hu1
  refine s_look (look_assign rfl rfl) ?_
  refine s_nil ?_
  refine then_normal ?_
  refine wp_seq ?_
  refine wp_seq ?_
  refine region_q ?_
  refine q_look (look_loadN Try.underlying28 rfl szTry_28 rfl rfl rfl (ext_cell_n hB1)) ?_
  refine q_look (look_move rfl rfl) ?_
  refine q_call (vs := [_, _]) enTry_10 ⟨⟨_, rfl, rfl⟩, ⟨_, rfl, rfl⟩, trivial⟩ (fun wc hw => cext hw (few_any h nd pt sm pA ps pc ne dn dA dc wc (hD.ext (hX.comp hw)) hnl)) ?_
  refine q_look (look_not rfl rfl) ?_
  refine q_nil ?_
  intro w1 hw1
  replace hX := hX.comp hw1
  replace hB1 := hB1.ext hw1
  replace hN := hN.ext hw1
  refine then_normal ?_
  refine cond_split rfl (fun hc10 => ?_) (fun hc10 => ?_)
  · skip
    refine wp_seq ?_
    refine region_q ?_
    refine q_call (vs := []) enTry_11 trivial (fun wc hw => cext hw (awake_any wc)) ?_
    refine q_look (look_assign rfl rfl) ?_
    refine q_nil ?_
    intro w2 hw2
    replace hX := hX.comp hw2
    replace hB1 := hB1.ext hw2
    replace hN := hN.ext hw2
    refine then_normal ?_
    refine wp_ret ?_
    refine then_ret ?_
    exact res1 Try.results4 rfl ⟨rfl, hX⟩
  · have hF : fewP ps dn = true := by simpa using hc10
    obtain ⟨h70, h200, h30⟩ := few_spec hF
    have hps : ps.length ≤ 1000 := by omega
    refine wp_skip ?_
    refine then_normal ?_
    refine wp_seq ?_
    refine region_h (fun W => Ext w W ∧ Blk W g1 28 ([h, nd, pt, sm, .slice pA ps.length pc, ne]) ∧ Sl scell 1 W dA dn) [(0, true), (1, true), (2, true), (4, true), (5, true), (6, true), (3, false), (7, false), (8, true), (9, true), (10, true), (11, true), (12, true), (14, true), (15, true), (16, true), (13, false), (17, false), (18, false), (19, true), (20, true), (21, false), (22, true), (23, true)] mixed (by kernel_rfl) rfl (by kernel_rfl) (by repeat (first | exact pk_body | refine pk_then ?_ | refine pk_block ?_))  ?_
    intro u2 hR2
    replace hX := hX.comp hR2
    replace hB1 := hB1.ext hR2
    replace hN := hN.ext hR2
    refine ⟨⟨hX, hB1, hN⟩, ?_⟩
    refine h_look rfl (look_loadN Try.underlying28 rfl szTry_28 rfl rfl rfl (fun w' hS j v hv => by rw [Nat.zero_add]; exact (hS.2.1).cell hv)) ?_
    refine h_look rfl (look_move rfl rfl) ?_
    refine h_look rfl (look_move rfl rfl) ?_
    refine h_look rfl (look_loadN Try.underlying28 rfl szTry_28 rfl rfl rfl (fun w' hS j v hv => by rw [Nat.zero_add]; exact (hS.2.1).cell hv)) ?_
    refine h_look rfl (look_move rfl rfl) ?_
    refine h_look rfl (look_move rfl rfl) ?_
    refine h_seq rfl ?_ ⟨hX, hB1, hN⟩
    refine s_call (vs := [_, _, _]) enTry_18 ⟨⟨_, rfl, rfl⟩, ⟨_, rfl, rfl⟩, ⟨_, rfl, rfl⟩, trivial⟩ (ready_any h nd pt sm pA ps pc ne dn dA dc id _ (hD.ext hX) hN hnl) ?_
    rintro _ u3 ⟨rfl, hc3⟩
    refine ⟨_, rfl, ?_⟩
    replace hX := hX.comp hc3
    replace hB1 := hB1.ext hc3
    replace hN := hN.ext hc3
    refine s_nil ?_
    refine then_normal ?_
    refine ⟨⟨hX, hB1, hN⟩, ?_⟩
    refine h_seq rfl ?_ ⟨hX, hB1, hN⟩
    refine s_call (vs := [_, _, _]) enTry_19 ⟨⟨_, rfl, rfl⟩, ⟨_, rfl, rfl⟩, ⟨_, rfl, rfl⟩, trivial⟩ (refready_any h nd pt sm pA ps pc ne dn dA dc id _ (hD.ext hX) hN hnl) ?_
    rintro _ u4 ⟨rfl, hc4⟩
    refine ⟨_, rfl, ?_⟩
    replace hX := hX.comp hc4
    replace hB1 := hB1.ext hc4
    replace hN := hN.ext hc4
    refine s_nil ?_
    refine then_normal ?_
    refine ⟨⟨hX, hB1, hN⟩, ?_⟩
    refine h_look rfl (Look.as (look_eql rfl rfl rfl rfl) (v' := .bool true) (by rw [decide_eq_true rfl])) ?_
    refine h_look rfl (look_move rfl rfl) ?_
    refine h_lookg rfl rfl rfl rfl (fun hq => look_loadN Try.underlying28 rfl szTry_28 rfl rfl rfl (fun w' hS j v hv => by rw [Nat.zero_add]; exact (hS.2.1).cell hv)) ?_
    refine h_lookg rfl rfl rfl rfl (fun hq => look_move rfl rfl) ?_
    refine h_lookg rfl rfl rfl rfl (fun hq => look_move rfl rfl) ?_
    refine h_lookg rfl rfl rfl rfl (fun hq => look_loadN Try.underlying28 rfl szTry_28 rfl rfl rfl (fun w' hS j v hv => by rw [Nat.zero_add]; exact (hS.2.1).cell hv)) ?_
    refine h_lookg rfl rfl rfl rfl (fun hq => look_move rfl rfl) ?_
    refine h_lookg rfl rfl rfl rfl (fun hq => look_move rfl rfl) ?_
    refine h_seq rfl ?_ ⟨hX, hB1, hN⟩
    refine s_want rfl rfl rfl rfl ?_
    refine s_call (vs := [_, _, _]) enTry_20 ⟨⟨_, rfl, rfl⟩, ⟨_, rfl, rfl⟩, ⟨_, rfl, rfl⟩, trivial⟩ (miss_any h nd pt sm pA ps pc ne dn dA dc id _ (hD.ext hX) hN hnl hps) ?_
    rintro _ u5 ⟨v5, rfl, hc5, hM⟩
    refine ⟨_, rfl, ?_⟩
    have ne_hM_g1 : Value.ownBlock v5 ≠ some g1 := hM.ne_old hB1.lt
    replace hM := hM.weak hX.size
    replace hX := hX.comp hc5
    replace hB1 := hB1.ext hc5
    replace hN := hN.ext hc5
    obtain ⟨A1, c1, rfl, hS_hM, hl_hM, hm_hM, _⟩ := hM.sl hce_s
    refine s_nil ?_
    refine then_normal ?_
    refine ⟨⟨hX, hB1, hN⟩, ?_⟩
    refine h_seq rfl ?_ ⟨hX, hB1, hN⟩
    refine s_want rfl rfl rfl rfl ?_
    refine s_call (vs := [_, _, _]) enTry_21 ⟨⟨_, rfl, rfl⟩, ⟨_, rfl, rfl⟩, ⟨_, rfl, rfl⟩, trivial⟩ (refmiss_any h nd pt sm pA ps pc ne dn dA dc id _ (hD.ext hX) hN hnl hps) ?_
    rintro _ u6 ⟨v6, rfl, hc6, hM2⟩
    refine ⟨_, rfl, ?_⟩
    have dis_hM_hM2 := Own.dis_new hM hM2
    have ne_hM2_g1 : Value.ownBlock v6 ≠ some g1 := hM2.ne_old hB1.lt
    replace hM2 := hM2.weak hX.size
    replace hX := hX.comp hc6
    replace hB1 := hB1.ext hc6
    replace hM := hM.ext hc6
    replace hN := hN.ext hc6
    obtain ⟨A2, c2, rfl, hS_hM2, hl_hM2, hm_hM2, _⟩ := hM2.sl hce_s
    refine s_nil ?_
    refine then_normal ?_
    refine ⟨⟨hX, hB1, hN⟩, ?_⟩
    refine h_seq rfl ?_ ⟨hX, hB1, hN⟩
    refine s_want rfl rfl rfl rfl ?_
    refine s_call (vs := [_, _]) enTry_16 ⟨⟨_, rfl, rfl⟩, ⟨_, rfl, rfl⟩, trivial⟩ (call_true (same_any (missP dn id ps) (missP dn id ps) A1 A2 c1 c2 _ (hM.slOf hce_s).1 (hM2.slOf hce_s).1 (Nat.le_trans hl_hM hm_hM)) (decide_eq_true rfl)) ?_
    rintro _ u7 ⟨rfl, hc7⟩
    refine ⟨_, rfl, ?_⟩
    replace hX := hX.comp hc7
    replace hB1 := hB1.ext hc7
    replace hM := hM.ext hc7
    replace hM2 := hM2.ext hc7
    replace hN := hN.ext hc7
    refine s_nil ?_
    refine then_normal ?_
    refine ⟨⟨hX, hB1, hN⟩, ?_⟩
    refine h_look rfl (look_and rfl rfl rfl rfl) ?_
    refine h_look rfl (look_move rfl rfl) ?_
    refine h_seq rfl ?_ ⟨hX, hB1, hN⟩
    refine s_want rfl rfl rfl rfl ?_
    refine s_call (vs := []) enTry_11 trivial (awake_any _) ?_
    rintro _ u8 ⟨rfl, hc8⟩
    refine ⟨_, rfl, ?_⟩
    replace hX := hX.comp hc8
    replace hB1 := hB1.ext hc8
    replace hM := hM.ext hc8
    replace hM2 := hM2.ext hc8
    replace hN := hN.ext hc8
    refine s_nil ?_
    refine then_normal ?_
    refine ⟨⟨hX, hB1, hN⟩, ?_⟩
    refine h_look rfl (look_and rfl rfl rfl rfl) ?_
    refine h_look rfl (look_assign rfl rfl) ?_
    refine h_nil ?_
    refine then_normal ?_
    refine wp_ret ?_
    exact res1 Try.results4 rfl ⟨ret_bool rfl, hX⟩

theorem sums_law (h nd pt sm : Value) (pA : Option Addr) (ps : List Pk) (pc : Nat) (ne : Value) (dn : List ByteArray) (dA : Option Addr) (dc : Nat) (bk : ByteArray) (w : World) (hD : DOk w pA ps) (hN : Sl scell 1 w dA dn) (hnl : dn.length ≤ maxLen) :
    Calls Try.prog 5 #[.agg #[h, nd, pt, sm, .slice pA ps.length pc, ne], .slice dA dn.length dc, .string bk] w fun e w' => e = .returned (.bool (true)) ∧ Ext w w' := by
  refine calls_act Try.func5 rfl Try.ntmps5 rfl rfl ?_
  show Code.wp _ _ _ (act 35 [(0, true, .agg #[h, nd, pt, sm, .slice pA ps.length pc, ne]), (1, true, .slice dA dn.length dc), (2, true, .string bk)] _) _
  have hX : Ext w w := Ext.rfl' w
  refine wp_seq ?_
  refine wp_region_lit ?_
  refine s_box rfl ?_
  intro g1 u1 hu1 hB1 hg1 hs1
  replace hB1 : Blk u1 g1 28 ([h, nd, pt, sm, .slice pA ps.length pc, ne]) := hB1
  have ge_g1 : w.heap.size ≤ g1 := by have := hX.size; omega
  replace hX := hX.comp hu1
  replace hN := hN.ext hu1
  refine s_look (look_assign rfl rfl) ?_
  refine s_nil ?_
  refine then_normal ?_
  refine wp_seq ?_
  refine wp_seq ?_
  refine region_q ?_
  refine q_look (look_loadN Try.underlying28 rfl szTry_28 rfl rfl rfl (ext_cell_n hB1)) ?_
  refine q_look (look_move rfl rfl) ?_
  refine q_call (vs := [_, _]) enTry_10 ⟨⟨_, rfl, rfl⟩, ⟨_, rfl, rfl⟩, trivial⟩ (fun wc hw => cext hw (few_any h nd pt sm pA ps pc ne dn dA dc wc (hD.ext (hX.comp hw)) hnl)) ?_
  refine q_look (look_not rfl rfl) ?_
  refine q_nil ?_
  intro w1 hw1
  replace hX := hX.comp hw1
  replace hB1 := hB1.ext hw1
  replace hN := hN.ext hw1
  refine then_normal ?_
  refine cond_split rfl (fun hc10 => ?_) (fun hc10 => ?_)
  · skip
    refine wp_seq ?_
    refine region_q ?_
    refine q_call (vs := []) enTry_11 trivial (fun wc hw => cext hw (awake_any wc)) ?_
    refine q_look (look_assign rfl rfl) ?_
    refine q_nil ?_
    intro w2 hw2
    replace hX := hX.comp hw2
    replace hB1 := hB1.ext hw2
    replace hN := hN.ext hw2
    refine then_normal ?_
    refine wp_ret ?_
    refine then_ret ?_
    exact res1 Try.results5 rfl ⟨rfl, hX⟩
  · have hF : fewP ps dn = true := by simpa using hc10
    obtain ⟨h70, h200, h30⟩ := few_spec hF
    have hps : ps.length ≤ 1000 := by omega
    refine wp_skip ?_
    refine then_normal ?_
    refine wp_seq ?_
    refine region_qd mixed (by kernel_rfl) ?_
    refine q_look (look_loadN Try.underlying28 rfl szTry_28 rfl rfl rfl (ext_cell_n hB1)) ?_
    refine q_look (look_move rfl rfl) ?_
    refine q_look (look_move rfl rfl) ?_
    refine q_call (vs := [_, _, _]) enTry_22 ⟨⟨_, rfl, rfl⟩, ⟨_, rfl, rfl⟩, ⟨_, rfl, rfl⟩, trivial⟩ (fun wc hw => cext hw (left_any h nd pt sm pA ps pc ne dn dA dc bk wc (hD.ext (hX.comp hw)) (hN.ext hw) hnl hps)) ?_
    refine q_look (look_loadN Try.underlying28 rfl szTry_28 rfl rfl rfl (ext_cell_n hB1)) ?_
    refine q_look (look_move rfl rfl) ?_
    refine q_look (look_move rfl rfl) ?_
    refine q_call (vs := [_, _, _]) enTry_23 ⟨⟨_, rfl, rfl⟩, ⟨_, rfl, rfl⟩, ⟨_, rfl, rfl⟩, trivial⟩ (fun wc hw => cext hw (refleft_any h nd pt sm pA ps pc ne dn dA dc bk wc (hD.ext (hX.comp hw)) (hN.ext hw) hnl hps)) ?_
    refine q_look (look_eql rfl rfl rfl rfl) ?_
    refine q_look (look_move rfl rfl) ?_
    refine q_lookg rfl rfl rfl (fun hq => look_loadN Try.underlying28 rfl szTry_28 rfl rfl rfl (ext_cell_n hB1)) ?_
    refine q_lookg rfl rfl rfl (fun hq => look_move rfl rfl) ?_
    refine q_lookg rfl rfl rfl (fun hq => look_move rfl rfl) ?_
    refine q_callg (vs := [_, _, _]) rfl rfl rfl enTry_24 (fun hq => ⟨⟨_, rfl, hq⟩, ⟨_, rfl, hq⟩, ⟨_, rfl, hq⟩, trivial⟩) (fun hq wc hw => cext hw (pct_any h nd pt sm pA ps pc ne dn dA dc bk wc (hD.ext (hX.comp hw)) (hN.ext hw) hnl hps)) ?_
    refine q_lookg rfl rfl rfl (fun hq => look_loadN Try.underlying28 rfl szTry_28 rfl rfl rfl (ext_cell_n hB1)) ?_
    refine q_lookg rfl rfl rfl (fun hq => look_move rfl rfl) ?_
    refine q_lookg rfl rfl rfl (fun hq => look_move rfl rfl) ?_
    refine q_callg (vs := [_, _, _]) rfl rfl rfl enTry_25 (fun hq => ⟨⟨_, rfl, hq⟩, ⟨_, rfl, hq⟩, ⟨_, rfl, hq⟩, trivial⟩) (fun hq wc hw => cext hw (refpct_any h nd pt sm pA ps pc ne dn dA dc bk wc (hD.ext (hX.comp hw)) (hN.ext hw) hnl hps)) ?_
    refine q_lookg rfl rfl rfl (fun hq => look_eql rfl hq rfl hq) ?_
    refine q_look (look_and rfl rfl rfl rfl) ?_
    refine q_look (look_move rfl rfl) ?_
    refine q_callg (vs := []) rfl rfl rfl enTry_11 (fun hq => trivial) (fun hq wc hw => cext hw (awake_any wc)) ?_
    refine q_look (look_and rfl rfl rfl rfl) ?_
    refine q_look (look_assign rfl rfl) ?_
    refine q_nil ?_
    intro w3 hw3
    replace hX := hX.comp hw3
    replace hB1 := hB1.ext hw3
    replace hN := hN.ext hw3
    refine then_normal ?_
    refine wp_ret ?_
    exact res1 Try.results5 rfl ⟨ret_bool (by simp), hX⟩

end Go.Proofs.Ytldgigjapifagaa
