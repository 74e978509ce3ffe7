/- The walks of chapter 35 (inspect), seventh part: laws. -/
import Derived.Test.YtobgfnlfbjodjaaF
namespace Go.Proofs.Ytobgfnlfbjodjaa
open Go Go.RowKit Core
set_option linter.unusedVariables false
set_option linter.unusedSimpArgs false
attribute [local irreducible] wpQuiet wpList wpH Code.wp Calls bodyPost act

theorem methods_law (k c : Int) (w : World)  :
    Calls Try.prog 3 #[.int .i64 k, .int .i64 c] w fun e w' => e = .returned (.bool (true)) ∧ Ext w w' := by
  refine calls_act Try.func3 rfl Try.ntmps3 rfl rfl ?_
  show Code.wp _ _ _ (act 15 [(0, true, .int .i64 k), (1, true, .int .i64 c)] _) _
  have hX : Ext w w := Ext.rfl' w
  refine wp_seq ?_
  refine region_s ?_
  refine q_look (look_assign rfl rfl) ?_
  refine q_nil ?_
  rintro _ rfl
  refine then_normal ?_
  refine wp_seq ?_
  refine wp_region_lit ?_
  refine s_look (look_move rfl rfl) ?_
  refine s_look (look_move rfl rfl) ?_
  refine s_call (vs := [_, _]) enTry_12 ⟨⟨_, rfl, rfl⟩, ⟨_, rfl, rfl⟩, trivial⟩ (methods_any k c _) ?_
  rintro _ u1 ⟨v1, rfl, hc1, hM⟩
  refine ⟨_, rfl, ?_⟩
  replace hM := hM.weak hX.size
  replace hX := hX.comp hc1
  obtain ⟨AM, cM, rfl, hSlhM, _, hmxhM, _⟩ := hM.sl hce_i
  refine s_look (look_move rfl rfl) ?_
  refine s_look (look_move rfl rfl) ?_
  refine s_call (vs := [_, _]) enTry_13 ⟨⟨_, rfl, rfl⟩, ⟨_, rfl, rfl⟩, trivial⟩ (refmethods_any k c _) ?_
  rintro _ u2 ⟨v2, rfl, hc2, hN⟩
  refine ⟨_, rfl, ?_⟩
  have dis_hM_hN := Own.dis_new hM hN
  replace hN := hN.weak hX.size
  replace hX := hX.comp hc2
  replace hM := hM.ext hc2
  obtain ⟨AN, cN, rfl, hSlhN, _, hmxhN, _⟩ := hN.sl hce_i
  refine s_call (vs := [_, _]) enTry_11 ⟨⟨_, rfl, rfl⟩, ⟨_, rfl, rfl⟩, trivial⟩ (call_true (sameints_any _ _ AM AN cM cN _ (hM.slOf hce_i).1 (hN.slOf hce_i).1 (by omega)) (by simp)) ?_
  rintro _ u3 ⟨rfl, hc3⟩
  refine ⟨_, rfl, ?_⟩
  replace hX := hX.comp hc3
  replace hM := hM.ext hc3
  replace hN := hN.ext hc3
  refine s_look (look_move rfl rfl) ?_
  refine s_want rfl rfl rfl rfl ?_
  refine s_call (vs := []) enTry_14 trivial (awake_any _) ?_
  rintro _ u4 ⟨rfl, hc4⟩
  refine ⟨_, rfl, ?_⟩
  replace hX := hX.comp hc4
  replace hM := hM.ext hc4
  replace hN := hN.ext hc4
  refine s_look (look_and2 rfl rfl rfl rfl) ?_
  refine s_look (look_assign rfl rfl) ?_
  refine s_nil ?_
  refine then_normal ?_
  refine wp_ret ?_
  exact res1 Try.results3 rfl ⟨rfl, hX⟩

set_option maxHeartbeats 1000000 in
theorem tasks_law (h nd pt : Value) (sA : Option Addr) (sl : List Sm) (sc : Nat) (pk ne : Value) (wA : Option Addr) (ws : List Wd) (wcap : Nat) (w : World) (hA : Sl smcell 6 w sA sl) (hB : Sl wdcell 8 w wA ws) (hW : WsOk w ws) :
    Calls Try.prog 4 #[.agg #[h, nd, pt, .slice sA sl.length sc, pk, ne], .slice wA ws.length wcap] w fun e w' => e = .returned (.bool (true)) ∧ Ext w w' := by
  refine calls_act Try.func4 rfl Try.ntmps4 rfl rfl ?_
  show Code.wp _ _ _ (act 27 [(0, true, .agg #[h, nd, pt, .slice sA sl.length sc, pk, ne]), (1, true, .slice wA ws.length wcap)] _) _
  have hX : Ext w w := Ext.rfl' w
  refine wp_seq ?_
  refine wp_region_lit ?_
  refine s_box rfl ?_
  intro g1 u1 hu1 hB1 hg1 hs1
  replace hB1 : Blk u1 g1 33 (dL h nd pt sA sl sc pk ne) := hB1
  have ge_g1 : w.heap.size ≤ g1 := by have := hX.size; omega
  replace hX := hX.comp hu1
  refine s_look (look_assign rfl rfl) ?_
  refine s_nil ?_
  refine then_normal ?_
  refine wp_seq ?_
  refine wp_seq ?_
  refine region_q ?_
  refine q_look (look_loadN Try.underlying33 rfl szTry_33 rfl rfl rfl (ext_cell_n hB1)) ?_
  refine q_look (look_move rfl rfl) ?_
  refine q_call (vs := [_, _]) enTry_15 ⟨⟨_, rfl, rfl⟩, ⟨_, rfl, rfl⟩, trivial⟩ (fun wc hw => cext hw (few_any h nd pt sA sl sc pk ne wA ws wcap wc (hB.ext (hX.comp hw)))) ?_
  refine q_look (look_not rfl rfl) ?_
  refine q_nil ?_
  intro w1 hw1
  replace hX := hX.comp hw1
  replace hB1 := hB1.ext hw1
  refine then_normal ?_
  refine cond_split rfl (fun hc8 => ?_) (fun hc8 => ?_)
  · skip
    refine wp_seq ?_
    refine region_q ?_
    refine q_call (vs := []) enTry_14 trivial (fun wc hw => cext hw (awake_any wc)) ?_
    refine q_look (look_assign rfl rfl) ?_
    refine q_nil ?_
    intro w2 hw2
    replace hX := hX.comp hw2
    replace hB1 := hB1.ext hw2
    refine then_normal ?_
    refine wp_ret ?_
    refine then_ret ?_
    exact res1 Try.results4 rfl ⟨rfl, hX⟩
  · have hf : fewP sl ws = true := by simpa using hc8
    simp only [fewP, Bool.and_eq_true, decide_eq_true_eq] at hf
    have hmx0 := maxLen_is
    refine wp_skip ?_
    refine then_normal ?_
    refine wp_seq ?_
    refine region_h (fun W => Ext w W ∧ Blk W g1 33 (dL h nd pt sA sl sc pk ne)) [(0, true), (2, true), (1, false), (3, false), (4, false), (5, true), (6, true), (7, true), (9, true), (10, true), (8, false), (11, false), (12, false), (13, true), (14, true), (15, false), (16, true), (17, true)] mixed (by kernel_rfl) rfl (by kernel_rfl) (by repeat (first | exact pk_body | refine pk_then ?_ | refine pk_block ?_)) ?_
    intro u2 hR2
    replace hX := hX.comp hR2
    replace hB1 := hB1.ext hR2
    refine ⟨⟨hX, hB1⟩, ?_⟩
    refine h_look rfl (look_loadN Try.underlying33 rfl szTry_33 rfl rfl rfl (fun w' hS j v hv => by rw [Nat.zero_add]; exact (hS.2).cell hv)) ?_
    refine h_look rfl (look_loadN Try.underlying33 rfl szTry_33 rfl rfl rfl (fun w' hS j v hv => by rw [Nat.zero_add]; exact (hS.2).cell hv)) ?_
    refine h_seq rfl ?_ ⟨hX, hB1⟩
    refine s_call (vs := [_]) enTry_17 ⟨⟨_, rfl, rfl⟩, trivial⟩ (tasks_any h nd pt sA sl sc pk ne _ (hA.ext hX) (by omega)) ?_
    rintro _ u3 ⟨v3, rfl, hc3, hM⟩
    refine ⟨_, rfl, ?_⟩
    have ne_hM_g1 : Value.ownBlock v3 ≠ some g1 := hM.ne_old hB1.lt
    replace hM := hM.weak hX.size
    replace hX := hX.comp hc3
    replace hB1 := hB1.ext hc3
    obtain ⟨AM, cM, rfl, hSlhM, _, hmxhM, _⟩ := hM.sl hce_t
    refine s_nil ?_
    refine then_normal ?_
    refine ⟨⟨hX, hB1⟩, ?_⟩
    refine h_seq rfl ?_ ⟨hX, hB1⟩
    refine s_call (vs := [_]) enTry_18 ⟨⟨_, rfl, rfl⟩, trivial⟩ (reftasks_any h nd pt sA sl sc pk ne _ (hA.ext hX) (by omega)) ?_
    rintro _ u4 ⟨v4, rfl, hc4, hN⟩
    refine ⟨_, rfl, ?_⟩
    have dis_hM_hN := Own.dis_new hM hN
    have ne_hN_g1 : Value.ownBlock v4 ≠ some g1 := hN.ne_old hB1.lt
    replace hN := hN.weak hX.size
    replace hX := hX.comp hc4
    replace hB1 := hB1.ext hc4
    replace hM := hM.ext hc4
    obtain ⟨AN, cN, rfl, hSlhN, _, hmxhN, _⟩ := hN.sl hce_t
    refine s_nil ?_
    refine then_normal ?_
    refine ⟨⟨hX, hB1⟩, ?_⟩
    refine h_seq rfl ?_ ⟨hX, hB1⟩
    refine s_call (vs := [_, _]) enTry_16 ⟨⟨_, rfl, rfl⟩, ⟨_, rfl, rfl⟩, trivial⟩ (call_true (sametasks_any _ _ AM AN cM cN _ (hM.slOf hce_t).1 (hN.slOf hce_t).1 (by omega)) (by simp)) ?_
    rintro _ u5 ⟨rfl, hc5⟩
    refine ⟨_, rfl, ?_⟩
    replace hX := hX.comp hc5
    replace hB1 := hB1.ext hc5
    replace hM := hM.ext hc5
    replace hN := hN.ext hc5
    refine s_nil ?_
    refine then_normal ?_
    refine ⟨⟨hX, hB1⟩, ?_⟩
    refine h_look rfl (look_move rfl rfl) ?_
    refine h_lookg rfl rfl rfl rfl (fun hq => look_loadN Try.underlying33 rfl szTry_33 rfl rfl rfl (fun w' hS j v hv => by rw [Nat.zero_add]; exact (hS.2).cell hv)) ?_
    refine h_lookg rfl rfl rfl rfl (fun hq => look_move rfl rfl) ?_
    refine h_lookg rfl rfl rfl rfl (fun hq => look_loadN Try.underlying33 rfl szTry_33 rfl rfl rfl (fun w' hS j v hv => by rw [Nat.zero_add]; exact (hS.2).cell hv)) ?_
    refine h_lookg rfl rfl rfl rfl (fun hq => look_move rfl rfl) ?_
    refine h_seq rfl ?_ ⟨hX, hB1⟩
    refine s_want rfl rfl rfl rfl ?_
    refine s_call (vs := [_, _]) enTry_19 ⟨⟨_, rfl, rfl⟩, ⟨_, rfl, rfl⟩, trivial⟩ (open_any h nd pt sA sl sc pk ne wA ws wcap _ (hA.ext hX) (by omega) (hB.ext hX) (hW.ext hX) (by omega)) ?_
    rintro _ u6 ⟨v6, rfl, hc6, hP⟩
    refine ⟨_, rfl, ?_⟩
    have dis_hM_hP := Own.dis_new hM hP
    have dis_hN_hP := Own.dis_new hN hP
    have ne_hP_g1 : Value.ownBlock v6 ≠ some g1 := hP.ne_old hB1.lt
    replace hP := hP.weak hX.size
    replace hX := hX.comp hc6
    replace hB1 := hB1.ext hc6
    replace hM := hM.ext hc6
    replace hN := hN.ext hc6
    obtain ⟨AP, cP, rfl, hSlhP, _, hmxhP, _⟩ := hP.sl hce_t
    refine s_nil ?_
    refine then_normal ?_
    refine ⟨⟨hX, hB1⟩, ?_⟩
    refine h_seq rfl ?_ ⟨hX, hB1⟩
    refine s_want rfl rfl rfl rfl ?_
    refine s_call (vs := [_, _]) enTry_20 ⟨⟨_, rfl, rfl⟩, ⟨_, rfl, rfl⟩, trivial⟩ (refopen_any h nd pt sA sl sc pk ne wA ws wcap _ (hA.ext hX) (by omega) (hB.ext hX) (hW.ext hX) (by omega)) ?_
    rintro _ u7 ⟨v7, rfl, hc7, hQ⟩
    refine ⟨_, rfl, ?_⟩
    have dis_hM_hQ := Own.dis_new hM hQ
    have dis_hN_hQ := Own.dis_new hN hQ
    have dis_hP_hQ := Own.dis_new hP hQ
    have ne_hQ_g1 : Value.ownBlock v7 ≠ some g1 := hQ.ne_old hB1.lt
    replace hQ := hQ.weak hX.size
    replace hX := hX.comp hc7
    replace hB1 := hB1.ext hc7
    replace hM := hM.ext hc7
    replace hN := hN.ext hc7
    replace hP := hP.ext hc7
    obtain ⟨AQ, cQ, rfl, hSlhQ, _, hmxhQ, _⟩ := hQ.sl hce_t
    refine s_nil ?_
    refine then_normal ?_
    refine ⟨⟨hX, hB1⟩, ?_⟩
    refine h_seq rfl ?_ ⟨hX, hB1⟩
    refine s_want rfl rfl rfl rfl ?_
    refine s_call (vs := [_, _]) enTry_16 ⟨⟨_, rfl, rfl⟩, ⟨_, rfl, rfl⟩, trivial⟩ (call_true (sametasks_any _ _ AP AQ cP cQ _ (hP.slOf hce_t).1 (hQ.slOf hce_t).1 (by omega)) (by simp)) ?_
    rintro _ u8 ⟨rfl, hc8⟩
    refine ⟨_, rfl, ?_⟩
    replace hX := hX.comp hc8
    replace hB1 := hB1.ext hc8
    replace hM := hM.ext hc8
    replace hN := hN.ext hc8
    replace hP := hP.ext hc8
    replace hQ := hQ.ext hc8
    refine s_nil ?_
    refine then_normal ?_
    refine ⟨⟨hX, hB1⟩, ?_⟩
    refine h_look rfl (look_and rfl rfl rfl rfl) ?_
    refine h_look rfl (look_move rfl rfl) ?_
    refine h_seq rfl ?_ ⟨hX, hB1⟩
    refine s_want rfl rfl rfl rfl ?_
    refine s_call (vs := []) enTry_14 trivial (awake_any _) ?_
    rintro _ u9 ⟨rfl, hc9⟩
    refine ⟨_, rfl, ?_⟩
    replace hX := hX.comp hc9
    replace hB1 := hB1.ext hc9
    replace hM := hM.ext hc9
    replace hN := hN.ext hc9
    replace hP := hP.ext hc9
    replace hQ := hQ.ext hc9
    refine s_nil ?_
    refine then_normal ?_
    refine ⟨⟨hX, hB1⟩, ?_⟩
    refine h_look rfl (look_and rfl rfl rfl rfl) ?_
    refine h_look rfl (look_assign rfl rfl) ?_
    refine h_nil ?_
    refine then_normal ?_
    refine wp_ret ?_
    exact res1 Try.results4 rfl ⟨rfl, hX⟩

theorem samples_law_a (l : List ByteArray) (A : Option Addr) (cap : Nat) (p : Int) (w : World) (hA : Sl scell 1 w A l) (hlen : ¬ 300 < l.length) :
    Calls Try.prog 5 #[.slice A l.length cap, .int .i64 p] w fun e w' => e = .returned (.bool (true)) ∧ Ext w w' := by
  refine calls_act Try.func5 rfl Try.ntmps5 rfl rfl ?_
  show Code.wp _ _ _ (act 20 [(0, true, .slice A l.length cap), (1, true, .int .i64 p)] _) _
  have hX : Ext w w := Ext.rfl' w
  refine wp_seq ?_
  refine region_s ?_
  refine q_look (look_assign rfl rfl) ?_
  refine q_nil ?_
  rintro _ rfl
  refine then_normal ?_
  refine wp_seq ?_
  refine wp_region_lit ?_
  refine s_look (look_move rfl rfl) ?_
  refine s_look (look_len_slice Try.underlying40 rfl rfl) ?_
  refine s_look (look_gtr rfl rfl rfl rfl) ?_
  refine s_look (look_move rfl rfl) ?_
  refine s_want rfl rfl rfl (decide_eq_false (by omega)) ?_
  refine s_look (look_move rfl rfl) ?_
  refine s_want rfl rfl rfl (decide_eq_false (by omega)) ?_
  refine s_look (look_move rfl rfl) ?_
  refine s_want rfl rfl rfl (decide_eq_false (by omega)) ?_
  refine s_call (vs := [_, _]) enTry_22 ⟨⟨_, rfl, rfl⟩, ⟨_, rfl, rfl⟩, trivial⟩ (sample_any l A cap p _ (hA.ext hX) (by omega)) ?_
  rintro _ u1 ⟨v1, rfl, hc1, hM⟩
  refine ⟨_, rfl, ?_⟩
  replace hM := hM.weak hX.size
  replace hX := hX.comp hc1
  obtain ⟨AM, cM, rfl, hSlhM, _, hmxhM, _⟩ := hM.sl hce_s
  refine s_want rfl rfl rfl (decide_eq_false (by omega)) ?_
  refine s_look (look_move rfl rfl) ?_
  refine s_want rfl rfl rfl (decide_eq_false (by omega)) ?_
  refine s_look (look_move rfl rfl) ?_
  refine s_want rfl rfl rfl (decide_eq_false (by omega)) ?_
  refine s_call (vs := [_, _]) enTry_23 ⟨⟨_, rfl, rfl⟩, ⟨_, rfl, rfl⟩, trivial⟩ (refsample_any l A cap p _ (hA.ext hX) (by omega)) ?_
  rintro _ u2 ⟨v2, rfl, hc2, hN⟩
  refine ⟨_, rfl, ?_⟩
  have dis_hM_hN := Own.dis_new hM hN
  replace hN := hN.weak hX.size
  replace hX := hX.comp hc2
  replace hM := hM.ext hc2
  obtain ⟨AN, cN, rfl, hSlhN, _, hmxhN, _⟩ := hN.sl hce_s
  refine s_want rfl rfl rfl (decide_eq_false (by omega)) ?_
  refine s_call (vs := [_, _]) enTry_21 ⟨⟨_, rfl, rfl⟩, ⟨_, rfl, rfl⟩, trivial⟩ (call_true (samestrs_any _ _ AM AN cM cN _ (hM.slOf hce_s).1 (hN.slOf hce_s).1 (by omega)) (by simp)) ?_
  rintro _ u3 ⟨rfl, hc3⟩
  refine ⟨_, rfl, ?_⟩
  replace hX := hX.comp hc3
  replace hM := hM.ext hc3
  replace hN := hN.ext hc3
  refine s_look (look_pick_f rfl rfl (decide_eq_false (by omega)) rfl rfl) ?_
  refine s_look (look_move rfl rfl) ?_
  refine s_want rfl rfl rfl rfl ?_
  refine s_call (vs := []) enTry_14 trivial (awake_any _) ?_
  rintro _ u4 ⟨rfl, hc4⟩
  refine ⟨_, rfl, ?_⟩
  replace hX := hX.comp hc4
  replace hM := hM.ext hc4
  replace hN := hN.ext hc4
  refine s_look (look_and2 rfl rfl rfl rfl) ?_
  refine s_look (look_assign rfl rfl) ?_
  refine s_nil ?_
  refine then_normal ?_
  refine wp_ret ?_
  exact res1 Try.results5 rfl ⟨rfl, hX⟩

theorem samples_law_b (l : List ByteArray) (A : Option Addr) (cap : Nat) (p : Int) (w : World) (hA : Sl scell 1 w A l) (hlen : 300 < l.length) :
    Calls Try.prog 5 #[.slice A l.length cap, .int .i64 p] w fun e w' => e = .returned (.bool (true)) ∧ Ext w w' := by
  refine calls_act Try.func5 rfl Try.ntmps5 rfl rfl ?_
  show Code.wp _ _ _ (act 20 [(0, true, .slice A l.length cap), (1, true, .int .i64 p)] _) _
  have hX : Ext w w := Ext.rfl' w
  refine wp_seq ?_
  refine region_s ?_
  refine q_look (look_assign rfl rfl) ?_
  refine q_nil ?_
  rintro _ rfl
  refine then_normal ?_
  refine wp_seq ?_
  refine wp_region_lit ?_
  refine s_look (look_move rfl rfl) ?_
  refine s_look (look_len_slice Try.underlying40 rfl rfl) ?_
  refine s_look (look_gtr rfl rfl rfl rfl) ?_
  refine s_look (look_move rfl rfl) ?_
  refine s_skip rfl rfl rfl (decide_eq_true (by omega)) ?_
  refine s_skip rfl rfl rfl (decide_eq_true (by omega)) ?_
  refine s_skip rfl rfl rfl (decide_eq_true (by omega)) ?_
  refine s_skip rfl rfl rfl (decide_eq_true (by omega)) ?_
  refine s_skip rfl rfl rfl (decide_eq_true (by omega)) ?_
  refine s_skip rfl rfl rfl (decide_eq_true (by omega)) ?_
  refine s_skip rfl rfl rfl (decide_eq_true (by omega)) ?_
  refine s_look (look_pick_t rfl rfl (decide_eq_true (by omega)) rfl rfl) ?_
  refine s_look (look_move rfl rfl) ?_
  refine s_want rfl rfl rfl rfl ?_
  refine s_call (vs := []) enTry_14 trivial (awake_any _) ?_
  rintro _ u1 ⟨rfl, hc1⟩
  refine ⟨_, rfl, ?_⟩
  replace hX := hX.comp hc1
  refine s_look (look_and2 rfl rfl rfl rfl) ?_
  refine s_look (look_assign rfl rfl) ?_
  refine s_nil ?_
  refine then_normal ?_
  refine wp_ret ?_
  exact res1 Try.results5 rfl ⟨rfl, hX⟩

theorem samples_law (l : List ByteArray) (A : Option Addr) (cap : Nat) (p : Int) (w : World) (hA : Sl scell 1 w A l) : Calls Try.prog 5 #[.slice A l.length cap, .int .i64 p] w fun e w' => e = .returned (.bool true) ∧ Ext w w' := by
  by_cases h : 300 < l.length
  · exact samples_law_b l A cap p w hA h
  · exact samples_law_a l A cap p w hA h

theorem extents_law (p f n : Int) (w : World)  :
    Calls Try.prog 6 #[.int .i64 p, .int .i64 f, .int .i64 n] w fun e w' => e = .returned (.bool (true)) ∧ Ext w w' := by
  refine calls_act Try.func6 rfl Try.ntmps6 rfl rfl ?_
  show Code.wp _ _ _ (act 19 [(0, true, .int .i64 p), (1, true, .int .i64 f), (2, true, .int .i64 n)] _) _
  have hX : Ext w w := Ext.rfl' w
  refine wp_seq ?_
  refine region_s ?_
  refine q_look (look_assign rfl rfl) ?_
  refine q_nil ?_
  rintro _ rfl
  refine then_normal ?_
  refine wp_seq ?_
  refine region_q ?_
  refine q_look (look_move rfl rfl) ?_
  refine q_look (look_move rfl rfl) ?_
  refine q_look (look_move rfl rfl) ?_
  refine q_call (vs := [_, _, _]) enTry_24 ⟨⟨_, rfl, rfl⟩, ⟨_, rfl, rfl⟩, ⟨_, rfl, rfl⟩, trivial⟩ (fun wc hw => cext hw (extent_any p f n wc)) ?_
  refine q_look (look_move rfl rfl) ?_
  refine q_look (look_move rfl rfl) ?_
  refine q_look (look_move rfl rfl) ?_
  refine q_call (vs := [_, _, _]) enTry_25 ⟨⟨_, rfl, rfl⟩, ⟨_, rfl, rfl⟩, ⟨_, rfl, rfl⟩, trivial⟩ (fun wc hw => cext hw (refextent_any p f n wc)) ?_
  refine q_look (look_eql rfl rfl rfl rfl) ?_
  refine q_look (look_move rfl rfl) ?_
  refine q_callg (vs := []) rfl rfl rfl enTry_14 (fun hq => trivial) (fun hq wc hw => cext hw (awake_any wc)) ?_
  refine q_look (look_and rfl rfl rfl rfl) ?_
  refine q_look (look_assign rfl rfl) ?_
  refine q_nil ?_
  intro w1 hw1
  replace hX := hX.comp hw1
  refine then_normal ?_
  refine wp_ret ?_
  exact res1 Try.results6 rfl ⟨ret_bool (by simp), hX⟩

end Go.Proofs.Ytobgfnlfbjodjaa
