/- The walks of chapter 35 (inspect), third part: tasks and what is open. -/
import Derived.Test.YtobgfnlfbjodjaaB
namespace Go.Proofs.Ytobgfnlfbjodjaa
open Go Go.RowKit Core
set_option linter.unusedVariables false
set_option linter.unusedSimpArgs false
attribute [local irreducible] wpQuiet wpList wpH Code.wp Calls bodyPost act

theorem tasks_any (h nd pt : Value) (sA : Option Addr) (sl : List Sm) (sc : Nat) (pk ne : Value) (w : World) (hA : Sl smcell 6 w sA sl) (hla : sl.length ≤ 1000) :
    Calls Try.prog 17 #[.agg #[h, nd, pt, .slice sA sl.length sc, pk, ne]] w fun e w' => ∃ v, e = .returned v ∧ Ext w w' ∧ Own tcell 52 2 w.heap.size w' v (tasksP sl) := by
  refine calls_act Try.func17 rfl Try.ntmps17 rfl rfl ?_
  show Code.wp _ _ _ (act 34 [(0, true, .agg #[h, nd, pt, .slice sA sl.length sc, pk, ne])] _) _
  have hX : Ext w w := Ext.rfl' w
  refine wp_seq ?_
  refine wp_region_lit ?_
  refine s_box rfl ?_
  intro g1 u1 hu1 hB1 hg1 hs1
  have ge_g1 : w.heap.size ≤ g1 := by have := hX.size; omega
  replace hX := hX.comp hu1
  refine s_look (look_assign rfl rfl) ?_
  refine s_nil ?_
  refine then_normal ?_
  refine wp_seq ?_
  refine wp_seq ?_
  refine region_s ?_
  refine q_look (look_fieldAddr Try.underlying33 rfl (fun _ _ => rfl) rfl rfl) ?_
  refine q_look (look_load1 Try.underlying29 rfl rfl rfl (eqc (hB1.cell rfl))) ?_
  refine q_look (look_len_slice Try.underlying29 rfl rfl) ?_
  refine q_look (look_move rfl rfl) ?_
  refine q_nil ?_
  rintro _ rfl
  have hO := Own.nil tcell 52 2 w.heap.size w
  refine then_normal ?_
  refine wp_block ?_
  refine loop_act (fun (ls : Nat × Value) => [(2, ls.2), (8, .slice sA sl.length sc), (9, .int .i64 (sl.length : Int)), (10, .int .i64 (ls.1 : Int))]) (fun ls w' => (Ext w w') ∧ (Own tcell 52 2 w.heap.size w' ls.2 (tasksP (sl.take ls.1))) ∧ (ls.1 ≤ sl.length)) (fun ls => sl.length - ls.1) ((0, .slice none 0 0)) ?_ ?_ ?_
  · exact ⟨rfl, rfl, rfl, rfl, trivial⟩
  · exact ⟨hX, (Own.nil _ _ _ _ _), Nat.zero_le _⟩
  · rintro ⟨k, v⟩ σ wr hF
    obtain ⟨hX, hO, hk⟩ : (Ext w wr) ∧ (Own tcell 52 2 w.heap.size wr v (tasksP (sl.take k))) ∧ (k ≤ sl.length) := hF
    have htl := tasks_len (sl.take k)
    rw [List.length_take] at htl
    show Code.wp _ _ _ (act 34 [(2, true, v), (8, true, .slice sA sl.length sc), (9, true, .int .i64 (sl.length : Int)), (10, true, .int .i64 (k : Int))] _) _
    refine wp_seq ?_
    refine region_s ?_
    refine q_look (look_lss rfl rfl rfl rfl) ?_
    refine q_nil ?_
    rintro _ rfl
    refine then_normal ?_
    refine wp_seq ?_
    refine cond_split rfl (fun hc11 => ?_) (fun hc11 => ?_)
    · have hlt : k < sl.length := by simp at hc11; omega
      obtain ⟨y, hy⟩ := get_lt hlt
      obtain ⟨b1, o1, rfl, _⟩ := (hA.ext hX).at_ hlt
      refine wp_skip ?_
      refine then_normal ?_
      refine wp_seq ?_
      refine wp_block ?_
      refine wp_seq ?_
      refine wp_region_lit ?_
      refine s_look (look_indexAddr _ Try.underlying29 szTry_47 rfl rfl rfl rfl rfl (by omega)) ?_
      refine s_look (look_loadN Try.underlying47 rfl szTry_47 rfl rfl rfl (cs := smcell y) (eqn ((hA.ext hX).rd k y hy))) ?_
      refine s_alloc zeTry_47 ?_
      intro g2 u2 hu2 hB2 hg2 hs2
      have ne_hO_g2 : (Value.ownBlock (v)) ≠ some g2 := hO.ne_new (by omega)
      have ge_g2 : w.heap.size ≤ g2 := by have := hX.size; omega
      replace hX := hX.comp hu2
      replace hO := hO.ext hu2
      refine s_store szTry_47 rfl (by simp [smcell, Value.cells, Value.oneCell']) rfl rfl hB2 rfl ?_
      intro u3 hk3 hT3
      replace hT3 : Blk u3 g2 47 ((smcell y)) := hT3
      replace hX := hX.kp hk3 (by omega)
      replace hO := hO.kp hk3 ne_hO_g2
      clear hB2
      have hB2 := hT3
      refine s_nil ?_
      refine then_normal ?_
      refine wp_seq ?_
      refine wp_region_lit ?_
      refine s_look (look_fieldAddr Try.underlying47 rfl (fun _ _ => rfl) rfl rfl) ?_
      refine s_look (look_load1 Try.underlying3 rfl rfl rfl (eqc (hB2.cell rfl))) ?_
      refine s_look (look_fieldAddr Try.underlying47 rfl (fun _ _ => rfl) rfl rfl) ?_
      refine s_look (look_load1 Try.underlying3 rfl rfl rfl (eqc (hB2.cell rfl))) ?_
      refine s_call (vs := [_, _]) enTry_12 ⟨⟨_, rfl, rfl⟩, ⟨_, rfl, rfl⟩, trivial⟩ (methods_any y.kind y.cls _) ?_
      rintro _ u4 ⟨v4, rfl, hc4, hM⟩
      refine ⟨_, rfl, ?_⟩
      have dis_hO_hM := Own.dis_new hO hM
      have ne_hM_g2 : Value.ownBlock v4 ≠ some g2 := hM.ne_old hB2.lt
      replace hM := hM.weak hX.size
      replace hX := hX.comp hc4
      replace hB2 := hB2.ext hc4
      replace hO := hO.ext hc4
      have hml := methods_len y.kind y.cls
      obtain ⟨Am, cm, rfl, _, _, _, _⟩ := hM.sl hce_i
      refine s_look (look_len_slice Try.underlying23 rfl rfl) ?_
      refine s_look (look_move rfl rfl) ?_
      refine s_nil ?_
      refine then_normal ?_
      refine wp_block ?_
      refine loop_act (fun (ls : Nat × Value) => [(8, .slice (some ⟨b1, o1, none⟩) sl.length sc), (9, .int .i64 (sl.length : Int)), (10, .int .i64 (k : Int)), (4, .pointer (some ⟨g2, 0, none⟩)), (18, .slice Am (methodsP y.kind y.cls).length cm), (19, .int .i64 ((methodsP y.kind y.cls).length : Int)), (20, .int .i64 (ls.1 : Int)), (2, ls.2)]) (fun ls w' => (Ext w w') ∧ (Blk w' g2 47 (smcell y)) ∧ (Own tcell 52 2 w.heap.size w' ls.2 (tasksP (sl.take k) ++ ((methodsP y.kind y.cls).take ls.1).map (mkT y))) ∧ (Own icell 3 1 w.heap.size w' (.slice Am (methodsP y.kind y.cls).length cm) (methodsP y.kind y.cls)) ∧ (Value.ownBlock ls.2 ≠ some g2) ∧ (Dis ls.2 (.slice Am (methodsP y.kind y.cls).length cm)) ∧ (ls.1 ≤ (methodsP y.kind y.cls).length)) (fun ls => (methodsP y.kind y.cls).length - ls.1) ((0, v)) ?_ ?_ ?_
      · exact ⟨rfl, rfl, rfl, rfl, rfl, rfl, rfl, rfl, trivial⟩
      · exact ⟨hX, hB2, hO.as (by simp), hM, ne_hO_g2, dis_hO_hM, Nat.zero_le _⟩
      · rintro ⟨j, u⟩ σ wr hF
        obtain ⟨hX, hB2, hO, hM, ne_hO_g2, dis_hO_hM, hj⟩ : (Ext w wr) ∧ (Blk wr g2 47 (smcell y)) ∧ (Own tcell 52 2 w.heap.size wr u (tasksP (sl.take k) ++ ((methodsP y.kind y.cls).take j).map (mkT y))) ∧ (Own icell 3 1 w.heap.size wr (.slice Am (methodsP y.kind y.cls).length cm) (methodsP y.kind y.cls)) ∧ (Value.ownBlock u ≠ some g2) ∧ (Dis u (.slice Am (methodsP y.kind y.cls).length cm)) ∧ (j ≤ (methodsP y.kind y.cls).length) := hF
        show Code.wp _ _ _ (act 34 [(8, true, .slice (some ⟨b1, o1, none⟩) sl.length sc), (9, true, .int .i64 (sl.length : Int)), (10, true, .int .i64 (k : Int)), (4, true, .pointer (some ⟨g2, 0, none⟩)), (18, true, .slice Am (methodsP y.kind y.cls).length cm), (19, true, .int .i64 ((methodsP y.kind y.cls).length : Int)), (20, true, .int .i64 (j : Int)), (2, true, u)] _) _
        refine wp_seq ?_
        refine region_s ?_
        refine q_look (look_lss rfl rfl rfl rfl) ?_
        refine q_nil ?_
        rintro _ rfl
        refine then_normal ?_
        refine wp_seq ?_
        refine cond_split rfl (fun hc21 => ?_) (fun hc21 => ?_)
        · have hlj : j < (methodsP y.kind y.cls).length := by simp at hc21; omega
          obtain ⟨m, hm⟩ := get_lt hlj
          obtain ⟨b2, o2, rfl, _⟩ := (hM.slOf hce_i).1.at_ hlj
          refine wp_skip ?_
          refine then_normal ?_
          refine wp_seq ?_
          refine wp_block ?_
          refine wp_seq ?_
          refine region_s ?_
          refine q_look (look_indexAddr _ Try.underlying23 szTry_3 rfl rfl rfl rfl rfl (by omega)) ?_
          refine q_look (look_load1 Try.underlying3 rfl rfl rfl (eqc ((hM.rd hce_i j m hm) 0 _ rfl))) ?_
          refine q_look (look_assign rfl rfl) ?_
          refine q_nil ?_
          rintro _ rfl
          refine then_normal ?_
          refine wp_region_lit ?_
          refine s_look (look_move rfl rfl) ?_
          refine s_look (look_fieldAddr Try.underlying47 rfl (fun _ _ => rfl) rfl rfl) ?_
          refine s_look (look_load1 Try.underlying9 rfl rfl rfl (eqc (hB2.cell rfl))) ?_
          refine s_look (look_move rfl rfl) ?_
          refine s_look (look_build (pl := [(0, 1), (1, 1)]) (parts := [(0, .tmp 26), (1, .tmp 27)]) (vs := [(0, _), (1, _)]) (cells := tcell (mkT y m)) Try.underlying52 zeTry_52 (by kernel_rfl) ⟨⟨_, rfl, rfl⟩, ⟨_, rfl, rfl⟩, trivial⟩ rfl (by kernel_rfl)) ?_
          refine s_buildSlice (parts := [(0, .tmp 28)]) (vs := [(0, _)]) (cells := tcell (mkT y m)) Try.underlying37 szTry_52 zeTry_52 rfl rfl ⟨⟨_, rfl, rfl⟩, trivial⟩ rfl (by kernel_rfl) ?_
          intro g5 u5 hu5 hB5 hg5 hs5
          have lt_g2_g5 : g2 < g5 := by have := hB2.lt; omega
          have ne_hO_g5 : (Value.ownBlock (u)) ≠ some g5 := hO.ne_new (by omega)
          have ne_hM_g5 : (Value.ownBlock (.slice (some ⟨b2, o2, none⟩) (methodsP y.kind y.cls).length cm)) ≠ some g5 := hM.ne_new (by omega)
          have ge_g5 : w.heap.size ≤ g5 := by have := hX.size; omega
          replace hX := hX.comp hu5
          replace hB2 := hB2.ext hu5
          replace hO := hO.ext hu5
          replace hM := hM.ext hu5
          have hsz6 := hX.size
          refine s_appendL (ce := tcell) (news := [mkT y m]) Try.underlying37 zsbTry_52 rfl rfl rfl hO rfl (Blk.src (x := mkT y m) rfl (by simp [tcell, Value.oneCell']) hB5) (by simp only [List.length_append, List.length_map, List.length_take, List.length_cons, List.length_nil]; rw [maxLen_is]; omega) (by simp only [List.length_append, List.length_map, List.length_take, List.length_cons, List.length_nil]; omega) (by omega) ?_
          intro v6 u6 hN6 hgr6 hat6
          replace hX := hX.grow hO (Nat.le_refl _) hgr6
          have hn_hB2 := hB2.grown hgr6 ne_hO_g2
          replace ne_hO_g2 := ne_app ne_hO_g2 hB2.lt hat6
          clear hB2
          have hB2 := hn_hB2
          clear hn_hB2
          have hn_hM := hM.grown hgr6 (Dis.ne dis_hO_hM)
          replace dis_hO_hM := Dis.app dis_hO_hM (fun k e => (hM.ge e).2) hat6
          clear hM
          have hM := hn_hM
          clear hn_hM
          clear hO
          have hO := hN6
          refine s_look (look_assign rfl rfl) ?_
          refine s_nil ?_
          refine inB_normal ?_
          refine then_normal ?_
          refine region_s ?_
          refine q_look (look_add rfl rfl rfl rfl (by unfold I64; omega)) ?_
          refine q_look (look_move rfl rfl) ?_
          refine q_nil ?_
          rintro _ rfl
          exact loop_end ((j + 1, v6)) (by simp only []; omega) ⟨rfl, rfl, rfl, rfl, rfl, rfl, rfl, rfl, trivial⟩ ⟨hX, hB2, hO.as (by rw [take_get hm]; simp [mkT]), hM, ne_hO_g2, dis_hO_hM, by show j + 1 ≤ (methodsP y.kind y.cls).length; omega⟩
        · have hgj : ¬ j < (methodsP y.kind y.cls).length := by simp at hc21; omega
          refine wp_exit ?_
          refine then_exit ?_
          refine then_exit ?_
          refine inB_exit_same ?_
          refine inB_normal ?_
          refine then_normal ?_
          refine region_s ?_
          refine q_look (look_add rfl rfl rfl rfl (by unfold I64; omega)) ?_
          refine q_look (look_move rfl rfl) ?_
          refine q_nil ?_
          rintro _ rfl
          exact loop_end ((k + 1, u)) (by simp only []; omega) ⟨rfl, rfl, rfl, rfl, trivial⟩ ⟨hX, hO.as (by show _ = tasksP (sl.take (k + 1)); rw [tasks_take hy, show (methodsP y.kind y.cls).take j = methodsP y.kind y.cls from List.take_of_length_le (by omega)]), by show k + 1 ≤ sl.length; omega⟩
    · have hge : ¬ k < sl.length := by simp at hc11; omega
      refine wp_exit ?_
      refine then_exit ?_
      refine then_exit ?_
      refine inB_exit_same ?_
      refine then_normal ?_
      refine wp_seq ?_
      refine region_s ?_
      refine q_look (look_move rfl rfl) ?_
      refine q_look (look_assign rfl rfl) ?_
      refine q_nil ?_
      rintro _ rfl
      refine then_normal ?_
      refine wp_ret ?_
      exact res1 Try.results17 rfl ⟨_, rfl, hX, hO.as (by rw [List.take_of_length_le (by omega)])⟩

theorem reftasks_any (h nd pt : Value) (sA : Option Addr) (sl : List Sm) (sc : Nat) (pk ne : Value) (w : World) (hA : Sl smcell 6 w sA sl) (hla : sl.length ≤ 1000) :
    Calls Try.prog 18 #[.agg #[h, nd, pt, .slice sA sl.length sc, pk, ne]] w fun e w' => ∃ v, e = .returned v ∧ Ext w w' ∧ Own tcell 52 2 w.heap.size w' v (tasksP sl) := by
  refine calls_act Try.func18 rfl Try.ntmps18 rfl rfl ?_
  show Code.wp _ _ _ (act 48 [(0, true, .agg #[h, nd, pt, .slice sA sl.length sc, pk, ne])] _) _
  have hX : Ext w w := Ext.rfl' w
  refine wp_seq ?_
  refine wp_region_lit ?_
  refine s_box rfl ?_
  intro g1 u1 hu1 hB1 hg1 hs1
  replace hB1 : Blk u1 g1 33 ([h, nd, pt, .slice sA sl.length sc, pk, ne]) := hB1
  have ge_g1 : w.heap.size ≤ g1 := by have := hX.size; omega
  replace hX := hX.comp hu1
  refine s_look (look_assign rfl rfl) ?_
  refine s_nil ?_
  refine then_normal ?_
  refine wp_seq ?_
  refine region_s ?_
  refine q_look (look_assign rfl rfl) ?_
  refine q_nil ?_
  rintro _ rfl
  have hO := Own.nil tcell 52 2 w.heap.size u1
  have ne_hO_g1 : Value.ownBlock (.slice none 0 0) ≠ some g1 := by simp [Value.ownBlock]
  refine then_normal ?_
  refine wp_seq ?_
  refine wp_seq ?_
  refine region_s ?_
  refine q_look (look_assign rfl rfl) ?_
  refine q_nil ?_
  rintro _ rfl
  refine then_normal ?_
  refine wp_block ?_
  refine loop_act (fun (ls : Nat × Value) => [(1, .pointer (some ⟨g1, 0, none⟩)), (3, ls.2), (4, .int .i64 (ls.1 : Int))]) (fun ls w' => (Ext w w') ∧ (Blk w' g1 33 [h, nd, pt, .slice sA sl.length sc, pk, ne]) ∧ (Own tcell 52 2 w.heap.size w' ls.2 (tasksP (sl.take ls.1))) ∧ (Value.ownBlock ls.2 ≠ some g1) ∧ (ls.1 ≤ sl.length)) (fun ls => sl.length - ls.1) ((0, .slice none 0 0)) ?_ ?_ ?_
  · exact ⟨rfl, rfl, rfl, trivial⟩
  · exact ⟨hX, hB1, hO, ne_hO_g1, Nat.zero_le _⟩
  · rintro ⟨k, v⟩ σ wr hF
    obtain ⟨hX, hB1, hO, ne_hO_g1, hk⟩ : (Ext w wr) ∧ (Blk wr g1 33 [h, nd, pt, .slice sA sl.length sc, pk, ne]) ∧ (Own tcell 52 2 w.heap.size wr v (tasksP (sl.take k))) ∧ (Value.ownBlock v ≠ some g1) ∧ (k ≤ sl.length) := hF
    have htl := tasks_len (sl.take k)
    rw [List.length_take] at htl
    show Code.wp _ _ _ (act 48 [(1, true, .pointer (some ⟨g1, 0, none⟩)), (3, true, v), (4, true, .int .i64 (k : Int))] _) _
    refine wp_seq ?_
    refine wp_seq ?_
    refine region_s ?_
    refine q_look (look_move rfl rfl) ?_
    refine q_look (look_fieldAddr Try.underlying33 rfl (fun _ _ => rfl) rfl rfl) ?_
    refine q_look (look_load1 Try.underlying29 rfl rfl rfl (eqc (hB1.cell rfl))) ?_
    refine q_look (look_len_slice Try.underlying29 rfl rfl) ?_
    refine q_look (look_lss rfl rfl rfl rfl) ?_
    refine q_nil ?_
    rintro _ rfl
    refine then_normal ?_
    refine cond_split rfl (fun hc11 => ?_) (fun hc11 => ?_)
    · have hlt : k < sl.length := by simp at hc11; omega
      obtain ⟨y, hy⟩ := get_lt hlt
      obtain ⟨b1, o1, rfl, _⟩ := (hA.ext hX).at_ hlt
      refine wp_skip ?_
      refine then_normal ?_
      refine wp_seq ?_
      refine wp_block ?_
      refine wp_seq ?_
      refine region_h (fun W => Ext w W ∧ Blk W g1 33 ([h, nd, pt, .slice (some ⟨b1, o1, none⟩) sl.length sc, pk, ne]) ∧ Own tcell 52 2 w.heap.size W (v) (tasksP (sl.take k))) [(0, true), (1, true), (2, true), (3, true), (4, true), (5, true), (6, true), (7, true), (8, true), (9, true), (10, true), (11, true), (12, false), (13, true)] mixed (by kernel_rfl) rfl (by kernel_rfl) (by repeat (first | exact pk_body | refine pk_then ?_ | refine pk_block ?_)) ?_
      intro u2 hR2
      replace hX := hX.comp hR2
      replace hB1 := hB1.ext hR2
      replace hO := hO.ext hR2
      refine ⟨⟨hX, hB1, hO⟩, ?_⟩
      refine h_look rfl (look_fieldAddr Try.underlying33 rfl (fun _ _ => rfl) rfl rfl) ?_
      refine h_look rfl (look_load1 Try.underlying29 rfl rfl rfl (fun w' hS => (hS.2.1).cell rfl)) ?_
      refine h_look rfl (look_move rfl rfl) ?_
      refine h_look rfl (look_indexAddr _ Try.underlying29 szTry_47 rfl rfl rfl rfl rfl (by omega)) ?_
      refine h_look rfl (look_fieldAddr Try.underlying47 rfl (fun _ _ => rfl) rfl rfl) ?_
      refine h_look rfl (look_load1 Try.underlying3 rfl rfl rfl (fun w' hS => ((hA.ext hS.1).rd k y hy) _ _ rfl)) ?_
      refine h_look rfl (look_fieldAddr Try.underlying33 rfl (fun _ _ => rfl) rfl rfl) ?_
      refine h_look rfl (look_load1 Try.underlying29 rfl rfl rfl (fun w' hS => (hS.2.1).cell rfl)) ?_
      refine h_look rfl (look_move rfl rfl) ?_
      refine h_look rfl (look_indexAddr _ Try.underlying29 szTry_47 rfl rfl rfl rfl rfl (by omega)) ?_
      refine h_look rfl (look_fieldAddr Try.underlying47 rfl (fun _ _ => rfl) rfl rfl) ?_
      refine h_look rfl (look_load1 Try.underlying3 rfl rfl rfl (fun w' hS => ((hA.ext hS.1).rd k y hy) _ _ rfl)) ?_
      refine h_seq rfl ?_ ⟨hX, hB1, hO⟩
      refine s_call (vs := [_, _]) enTry_13 ⟨⟨_, rfl, rfl⟩, ⟨_, rfl, rfl⟩, trivial⟩ (refmethods_any y.kind y.cls _) ?_
      rintro _ u3 ⟨v3, rfl, hc3, hM⟩
      refine ⟨_, rfl, ?_⟩
      have dis_hO_hM := Own.dis_new hO hM
      have ne_hM_g1 : Value.ownBlock v3 ≠ some g1 := hM.ne_old hB1.lt
      replace hM := hM.weak hX.size
      replace hX := hX.comp hc3
      replace hB1 := hB1.ext hc3
      replace hO := hO.ext hc3
      have hml := methods_len y.kind y.cls
      obtain ⟨Am, cm, rfl, _, _, _, _⟩ := hM.sl hce_i
      refine s_nil ?_
      refine then_normal ?_
      refine ⟨⟨hX, hB1, hO⟩, ?_⟩
      refine h_look rfl (look_assign rfl rfl) ?_
      refine h_nil ?_
      refine then_normal ?_
      refine wp_seq ?_
      refine region_s ?_
      refine q_look (look_assign rfl rfl) ?_
      refine q_nil ?_
      rintro _ rfl
      refine then_normal ?_
      refine wp_block ?_
      refine loop_act (fun (ls : Nat × Value) => [(1, .pointer (some ⟨g1, 0, none⟩)), (4, .int .i64 (k : Int)), (5, .slice Am (methodsP y.kind y.cls).length cm), (6, .int .i64 (ls.1 : Int)), (3, ls.2)]) (fun ls w' => (Ext w w') ∧ (Blk w' g1 33 [h, nd, pt, .slice (some ⟨b1, o1, none⟩) sl.length sc, pk, ne]) ∧ (Own tcell 52 2 w.heap.size w' ls.2 (tasksP (sl.take k) ++ ((methodsP y.kind y.cls).take ls.1).map (mkT y))) ∧ (Own icell 3 1 w.heap.size w' (.slice Am (methodsP y.kind y.cls).length cm) (methodsP y.kind y.cls)) ∧ (Value.ownBlock ls.2 ≠ some g1) ∧ (Dis ls.2 (.slice Am (methodsP y.kind y.cls).length cm)) ∧ (ls.1 ≤ (methodsP y.kind y.cls).length)) (fun ls => (methodsP y.kind y.cls).length - ls.1) ((0, v)) ?_ ?_ ?_
      · exact ⟨rfl, rfl, rfl, rfl, rfl, trivial⟩
      · exact ⟨hX, hB1, hO.as (by simp), hM, ne_hO_g1, dis_hO_hM, Nat.zero_le _⟩
      · rintro ⟨j, u⟩ σ wr hF
        obtain ⟨hX, hB1, hO, hM, ne_hO_g1, dis_hO_hM, hj⟩ : (Ext w wr) ∧ (Blk wr g1 33 [h, nd, pt, .slice (some ⟨b1, o1, none⟩) sl.length sc, pk, ne]) ∧ (Own tcell 52 2 w.heap.size wr u (tasksP (sl.take k) ++ ((methodsP y.kind y.cls).take j).map (mkT y))) ∧ (Own icell 3 1 w.heap.size wr (.slice Am (methodsP y.kind y.cls).length cm) (methodsP y.kind y.cls)) ∧ (Value.ownBlock u ≠ some g1) ∧ (Dis u (.slice Am (methodsP y.kind y.cls).length cm)) ∧ (j ≤ (methodsP y.kind y.cls).length) := hF
        show Code.wp _ _ _ (act 48 [(1, true, .pointer (some ⟨g1, 0, none⟩)), (4, true, .int .i64 (k : Int)), (5, true, .slice Am (methodsP y.kind y.cls).length cm), (6, true, .int .i64 (j : Int)), (3, true, u)] _) _
        refine wp_seq ?_
        refine wp_seq ?_
        refine region_s ?_
        refine q_look (look_move rfl rfl) ?_
        refine q_look (look_move rfl rfl) ?_
        refine q_look (look_len_slice Try.underlying23 rfl rfl) ?_
        refine q_look (look_lss rfl rfl rfl rfl) ?_
        refine q_nil ?_
        rintro _ rfl
        refine then_normal ?_
        refine cond_split rfl (fun hc30 => ?_) (fun hc30 => ?_)
        · have hlj : j < (methodsP y.kind y.cls).length := by simp at hc30; omega
          obtain ⟨m, hm⟩ := get_lt hlj
          obtain ⟨b2, o2, rfl, _⟩ := (hM.slOf hce_i).1.at_ hlj
          refine wp_skip ?_
          refine then_normal ?_
          refine wp_seq ?_
          refine wp_block ?_
          refine region_h (fun W => Ext w W ∧ Blk W g1 33 ([h, nd, pt, .slice (some ⟨b1, o1, none⟩) sl.length sc, pk, ne]) ∧ Own icell 3 1 w.heap.size W (.slice (some ⟨b2, o2, none⟩) (methodsP y.kind y.cls).length cm) (methodsP y.kind y.cls)) [(0, true), (1, true), (2, true), (3, true), (4, true), (5, true), (6, true), (7, true), (8, true), (9, true), (10, true), (11, true), (12, false), (13, false), (14, true)] mixed (by kernel_rfl) rfl (by kernel_rfl) (by repeat (first | exact pk_body | refine pk_then ?_ | refine pk_block ?_)) ?_
          intro u4 hR4
          replace hX := hX.comp hR4
          replace hB1 := hB1.ext hR4
          replace hO := hO.ext hR4
          replace hM := hM.ext hR4
          refine ⟨⟨hX, hB1, hM⟩, ?_⟩
          refine h_look rfl (look_move rfl rfl) ?_
          refine h_look rfl (look_fieldAddr Try.underlying33 rfl (fun _ _ => rfl) rfl rfl) ?_
          refine h_look rfl (look_load1 Try.underlying29 rfl rfl rfl (fun w' hS => (hS.2.1).cell rfl)) ?_
          refine h_look rfl (look_move rfl rfl) ?_
          refine h_look rfl (look_indexAddr _ Try.underlying29 szTry_47 rfl rfl rfl rfl rfl (by omega)) ?_
          refine h_look rfl (look_fieldAddr Try.underlying47 rfl (fun _ _ => rfl) rfl rfl) ?_
          refine h_look rfl (look_load1 Try.underlying9 rfl rfl rfl (fun w' hS => ((hA.ext hS.1).rd k y hy) _ _ rfl)) ?_
          refine h_look rfl (look_move rfl rfl) ?_
          refine h_look rfl (look_move rfl rfl) ?_
          refine h_look rfl (look_indexAddr _ Try.underlying23 szTry_3 rfl rfl rfl rfl rfl (by omega)) ?_
          refine h_look rfl (look_load1 Try.underlying3 rfl rfl rfl (fun w' hS => (hS.2.2.rd hce_i j m hm) 0 _ rfl)) ?_
          refine h_look rfl (look_build (pl := [(0, 1), (1, 1)]) (parts := [(0, .tmp 39), (1, .tmp 43)]) (vs := [(0, _), (1, _)]) (cells := tcell (mkT y m)) Try.underlying52 zeTry_52 (by kernel_rfl) ⟨⟨_, rfl, rfl⟩, ⟨_, rfl, rfl⟩, trivial⟩ rfl (by kernel_rfl)) ?_
          refine h_seq rfl ?_ ⟨hX, hB1, hM⟩
          refine s_buildSlice (parts := [(0, .tmp 44)]) (vs := [(0, _)]) (cells := tcell (mkT y m)) Try.underlying37 szTry_52 zeTry_52 rfl rfl ⟨⟨_, rfl, rfl⟩, trivial⟩ rfl (by kernel_rfl) ?_
          intro g5 u5 hu5 hB5 hg5 hs5
          have lt_g1_g5 : g1 < g5 := by have := hB1.lt; omega
          have ne_hO_g5 : (Value.ownBlock (u)) ≠ some g5 := hO.ne_new (by omega)
          have ne_hM_g5 : (Value.ownBlock (.slice (some ⟨b2, o2, none⟩) (methodsP y.kind y.cls).length cm)) ≠ some g5 := hM.ne_new (by omega)
          have ge_g5 : w.heap.size ≤ g5 := by have := hX.size; omega
          replace hX := hX.comp hu5
          replace hB1 := hB1.ext hu5
          replace hO := hO.ext hu5
          replace hM := hM.ext hu5
          refine s_nil ?_
          refine then_normal ?_
          refine ⟨⟨hX, hB1, hM⟩, ?_⟩
          refine h_seq rfl ?_ ⟨hX, hB1, hM⟩
          have hsz6 := hX.size
          refine s_appendL (ce := tcell) (news := [mkT y m]) Try.underlying37 zsbTry_52 rfl rfl rfl hO rfl (Blk.src (x := mkT y m) rfl (by simp [tcell, Value.oneCell']) hB5) (by simp only [List.length_append, List.length_map, List.length_take, List.length_cons, List.length_nil]; rw [maxLen_is]; omega) (by simp only [List.length_append, List.length_map, List.length_take, List.length_cons, List.length_nil]; omega) (by omega) ?_
          intro v6 u6 hN6 hgr6 hat6
          replace hX := hX.grow hO (Nat.le_refl _) hgr6
          have hn_hB1 := hB1.grown hgr6 ne_hO_g1
          replace ne_hO_g1 := ne_app ne_hO_g1 hB1.lt hat6
          clear hB1
          have hB1 := hn_hB1
          clear hn_hB1
          have hn_hM := hM.grown hgr6 (Dis.ne dis_hO_hM)
          replace dis_hO_hM := Dis.app dis_hO_hM (fun k e => (hM.ge e).2) hat6
          clear hM
          have hM := hn_hM
          clear hn_hM
          clear hO
          have hO := hN6
          refine s_nil ?_
          refine then_normal ?_
          refine ⟨⟨hX, hB1, hM⟩, ?_⟩
          refine h_look rfl (look_assign rfl rfl) ?_
          refine h_nil ?_
          refine inB_normal ?_
          refine then_normal ?_
          refine region_s ?_
          refine q_look (look_move rfl rfl) ?_
          refine q_look (look_add rfl rfl rfl rfl (by unfold I64; omega)) ?_
          refine q_look (look_assign rfl rfl) ?_
          refine q_nil ?_
          rintro _ rfl
          exact loop_end ((j + 1, v6)) (by simp only []; omega) ⟨rfl, rfl, rfl, rfl, rfl, trivial⟩ ⟨hX, hB1, hO.as (by rw [take_get hm]; simp [mkT]), hM, ne_hO_g1, dis_hO_hM, by show j + 1 ≤ (methodsP y.kind y.cls).length; omega⟩
        · have hgj : ¬ j < (methodsP y.kind y.cls).length := by simp at hc30; omega
          refine wp_exit ?_
          refine then_exit ?_
          refine then_exit ?_
          refine inB_exit_same ?_
          refine inB_normal ?_
          refine then_normal ?_
          refine region_s ?_
          refine q_look (look_move rfl rfl) ?_
          refine q_look (look_add rfl rfl rfl rfl (by unfold I64; omega)) ?_
          refine q_look (look_assign rfl rfl) ?_
          refine q_nil ?_
          rintro _ rfl
          exact loop_end ((k + 1, u)) (by simp only []; omega) ⟨rfl, rfl, rfl, trivial⟩ ⟨hX, hB1, hO.as (by show _ = tasksP (sl.take (k + 1)); rw [tasks_take hy, show (methodsP y.kind y.cls).take j = methodsP y.kind y.cls from List.take_of_length_le (by omega)]), ne_hO_g1, by show k + 1 ≤ sl.length; omega⟩
    · have hge : ¬ k < sl.length := by simp at hc11; omega
      refine wp_exit ?_
      refine then_exit ?_
      refine then_exit ?_
      refine inB_exit_same ?_
      refine then_normal ?_
      refine wp_seq ?_
      refine region_s ?_
      refine q_look (look_move rfl rfl) ?_
      refine q_look (look_assign rfl rfl) ?_
      refine q_nil ?_
      rintro _ rfl
      refine then_normal ?_
      refine wp_ret ?_
      exact res1 Try.results18 rfl ⟨_, rfl, hX, hO.as (by rw [List.take_of_length_le (by omega)])⟩

end Go.Proofs.Ytobgfnlfbjodjaa
