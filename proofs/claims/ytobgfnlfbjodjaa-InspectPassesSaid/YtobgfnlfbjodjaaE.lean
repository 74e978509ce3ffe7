/- The walks of chapter 35 (inspect), fifth part: what is open; few. -/
import Derived.Test.YtobgfnlfbjodjaaD
namespace Go.Proofs.Ytobgfnlfbjodjaa
open Go Go.RowKit Core
set_option linter.unusedVariables false
set_option linter.unusedSimpArgs false
attribute [local irreducible] wpQuiet wpList wpH Code.wp Calls bodyPost act


def dL (h nd pt : Value) (sA : Option Addr) (sl : List Sm) (sc : Nat) (pk ne : Value) : List Value := [h, nd, pt, .slice sA sl.length sc, pk, ne]

theorem open_any (h nd pt : Value) (sA : Option Addr) (sl : List Sm) (sc : Nat) (pk ne : Value) (wA : Option Addr) (ws : List Wd) (wcap : Nat) (w : World) (hA : Sl smcell 6 w sA sl) (hla : sl.length ≤ 1000) (hB : Sl wdcell 8 w wA ws) (hW : WsOk w ws) (hlw : ws.length ≤ maxLen) :
    Calls Try.prog 19 #[.agg #[h, nd, pt, .slice sA sl.length sc, pk, ne], .slice wA ws.length wcap] w fun e w' => ∃ v, e = .returned v ∧ Ext w w' ∧ Own tcell 52 2 w.heap.size w' v (openP sl ws) := by
  refine calls_act Try.func19 rfl Try.ntmps19 rfl rfl ?_
  show Code.wp _ _ _ (act 26 [(0, true, .agg #[h, nd, pt, .slice sA sl.length sc, pk, ne]), (1, true, .slice wA ws.length wcap)] _) _
  have hX : Ext w w := Ext.rfl' w
  refine wp_seq ?_
  refine wp_region_lit ?_
  refine s_box rfl ?_
  intro g1 u1 hu1 hB1 hg1 hs1
  replace hB1 : Blk u1 g1 33 (dL h nd pt sA sl sc pk ne) := hB1
  have ge_g1 : w.heap.size ≤ g1 := by have := hX.size; omega
  replace hX := hX.comp hu1
  refine s_look (look_assign rfl rfl) ?_
  refine s_nil ?_
  refine then_normal ?_
  refine wp_seq ?_
  refine wp_seq ?_
  refine wp_region_lit ?_
  refine s_look (look_loadN Try.underlying33 rfl szTry_33 rfl rfl rfl (eqc_n hB1)) ?_
  refine s_call (vs := [_]) enTry_17 ⟨⟨_, rfl, rfl⟩, trivial⟩ (tasks_any h nd pt sA sl sc pk ne _ (hA.ext hX) hla) ?_
  rintro _ u2 ⟨v2, rfl, hc2, hT⟩
  refine ⟨_, rfl, ?_⟩
  have ne_hT_g1 : Value.ownBlock v2 ≠ some g1 := hT.ne_old hB1.lt
  replace hT := hT.weak hX.size
  replace hX := hX.comp hc2
  replace hB1 := hB1.ext hc2
  have htl := tasks_len sl
  obtain ⟨At, ct, rfl, _, _, _, _⟩ := hT.sl hce_t
  have hO := Own.nil tcell 52 2 w.heap.size u2
  have dis_hO_hT : Dis (.slice none 0 0) (.slice At (tasksP sl).length ct) := fun k h => by simp [Value.ownBlock] at h
  refine s_look (look_len_slice Try.underlying37 rfl rfl) ?_
  refine s_look (look_move rfl rfl) ?_
  refine s_nil ?_
  refine then_normal ?_
  refine wp_block ?_
  refine loop_act (fun (ls : Nat × Value) => [(1, .slice wA ws.length wcap), (4, ls.2), (9, .slice At (tasksP sl).length ct), (10, .int .i64 ((tasksP sl).length : Int)), (11, .int .i64 (ls.1 : Int))]) (fun ls w' => (Ext w w') ∧ (Own tcell 52 2 w.heap.size w' ls.2 (((tasksP sl).take ls.1).filter fun t => !passedP ws t)) ∧ (Own tcell 52 2 w.heap.size w' (.slice At (tasksP sl).length ct) (tasksP sl)) ∧ (Dis ls.2 (.slice At (tasksP sl).length ct)) ∧ (ls.1 ≤ (tasksP sl).length)) (fun ls => (tasksP sl).length - ls.1) ((0, .slice none 0 0)) ?_ ?_ ?_
  · exact ⟨rfl, rfl, rfl, rfl, rfl, trivial⟩
  · exact ⟨hX, hO, hT, dis_hO_hT, Nat.zero_le _⟩
  · rintro ⟨k, v⟩ σ wr hF
    obtain ⟨hX, hO, hT, dis_hO_hT, hk⟩ : (Ext w wr) ∧ (Own tcell 52 2 w.heap.size wr v (((tasksP sl).take k).filter fun t => !passedP ws t)) ∧ (Own tcell 52 2 w.heap.size wr (.slice At (tasksP sl).length ct) (tasksP sl)) ∧ (Dis v (.slice At (tasksP sl).length ct)) ∧ (k ≤ (tasksP sl).length) := hF
    show Code.wp _ _ _ (act 26 [(1, true, .slice wA ws.length wcap), (4, true, v), (9, true, .slice At (tasksP sl).length ct), (10, true, .int .i64 ((tasksP sl).length : Int)), (11, true, .int .i64 (k : Int))] _) _
    refine wp_seq ?_
    refine region_s ?_
    refine q_look (look_lss rfl rfl rfl rfl) ?_
    refine q_nil ?_
    rintro _ rfl
    refine then_normal ?_
    refine wp_seq ?_
    refine cond_split rfl (fun hc12 => ?_) (fun hc12 => ?_)
    · have hlt : k < (tasksP sl).length := by simp at hc12; omega
      obtain ⟨y, hy⟩ := get_lt hlt
      obtain ⟨b1, o1, rfl, _⟩ := (hT.slOf hce_t).1.at_ hlt
      refine wp_skip ?_
      refine then_normal ?_
      refine wp_seq ?_
      refine wp_block ?_
      refine wp_seq ?_
      refine wp_region_lit ?_
      refine s_look (look_indexAddr _ Try.underlying37 szTry_52 rfl rfl rfl rfl rfl (by omega)) ?_
      refine s_look (look_loadN Try.underlying52 rfl szTry_52 rfl rfl rfl (cs := tcell y) (eqn (hT.rd hce_t k y hy))) ?_
      refine s_alloc zeTry_52 ?_
      intro g3 u3 hu3 hB3 hg3 hs3
      have ne_hT_g3 : (Value.ownBlock (.slice (some ⟨b1, o1, none⟩) (tasksP sl).length ct)) ≠ some g3 := hT.ne_new (by omega)
      have ne_hO_g3 : (Value.ownBlock (v)) ≠ some g3 := hO.ne_new (by omega)
      have ge_g3 : w.heap.size ≤ g3 := by have := hX.size; omega
      replace hX := hX.comp hu3
      replace hT := hT.ext hu3
      replace hO := hO.ext hu3
      refine s_store szTry_52 rfl (by simp [tcell, icell, scell, Value.cells, Value.oneCell']) rfl rfl hB3 rfl ?_
      intro u4 hk4 hT4
      replace hT4 : Blk u4 g3 52 ((tcell y)) := hT4
      replace hX := hX.kp hk4 (by omega)
      replace hT := hT.kp hk4 ne_hT_g3
      replace hO := hO.kp hk4 ne_hO_g3
      clear hB3
      have hB3 := hT4
      refine s_nil ?_
      refine then_normal ?_
      refine wp_seq ?_
      refine region_s ?_
      refine q_look (look_makeFunc (vs := [_]) ⟨⟨_, rfl, rfl⟩, trivial⟩) ?_
      refine q_look (look_assign rfl rfl) ?_
      refine q_nil ?_
      rintro _ rfl
      refine then_normal ?_
      refine wp_seq ?_
      refine region_q ?_
      refine q_look (look_move rfl rfl) ?_
      refine q_look (look_move rfl rfl) ?_
      refine q_call (vs := [_, _]) enTry_29 ⟨⟨_, rfl, rfl⟩, ⟨_, rfl, rfl⟩, trivial⟩ (fun wc hw => cext hw (cf_any ws wA wcap y g3 wc (hB.ext (hX.comp hw)) (hW.ext (hX.comp hw)) hlw (hB3.ext hw))) ?_
      refine q_look (look_not rfl rfl) ?_
      refine q_nil ?_
      intro w1 hw1
      replace hX := hX.comp hw1
      replace hB3 := hB3.ext hw1
      replace hT := hT.ext hw1
      replace hO := hO.ext hw1
      refine then_normal ?_
      refine cond_split rfl (fun hc19 => ?_) (fun hc19 => ?_)
      · have hp : passedP ws y = false := by simpa using hc19
        refine wp_region_lit ?_
        refine s_look (look_move rfl rfl) ?_
        refine s_look (look_loadN Try.underlying52 rfl szTry_52 rfl rfl rfl (eqc_n hB3)) ?_
        refine s_buildSlice (parts := [(0, .tmp 21)]) (vs := [(0, _)]) (cells := tcell y) Try.underlying37 szTry_52 zeTry_52 rfl rfl ⟨⟨_, rfl, rfl⟩, trivial⟩ rfl (by kernel_rfl) ?_
        intro g5 u5 hu5 hB5 hg5 hs5
        have lt_g3_g5 : g3 < g5 := by have := hB3.lt; omega
        have ne_hT_g5 : (Value.ownBlock (.slice (some ⟨b1, o1, none⟩) (tasksP sl).length ct)) ≠ some g5 := hT.ne_new (by omega)
        have ne_hO_g5 : (Value.ownBlock (v)) ≠ some g5 := hO.ne_new (by omega)
        have ge_g5 : w.heap.size ≤ g5 := by have := hX.size; omega
        replace hX := hX.comp hu5
        replace hB3 := hB3.ext hu5
        replace hT := hT.ext hu5
        replace hO := hO.ext hu5
        have hsz6 := hX.size
        refine s_appendL (ce := tcell) (news := [y]) Try.underlying37 zsbTry_52 rfl rfl rfl hO rfl (Blk.src (x := y) rfl (by simp [tcell, Value.oneCell']) hB5) (by have := List.length_filter_le (fun t => !passedP ws t) ((tasksP sl).take k); have h2 := List.length_take_le k (tasksP sl); simp only [List.length_cons, List.length_nil]; rw [maxLen_is]; omega) (by have := List.length_filter_le (fun t => !passedP ws t) ((tasksP sl).take k); have h2 := List.length_take_le k (tasksP sl); simp only [List.length_cons, List.length_nil]; omega) (by omega) ?_
        intro v6 u6 hN6 hgr6 hat6
        replace hX := hX.grow hO (Nat.le_refl _) hgr6
        have hn_hB3 := hB3.grown hgr6 ne_hO_g3
        replace ne_hO_g3 := ne_app ne_hO_g3 hB3.lt hat6
        clear hB3
        have hB3 := hn_hB3
        clear hn_hB3
        have hn_hT := hT.grown hgr6 (Dis.ne dis_hO_hT)
        replace dis_hO_hT := Dis.app dis_hO_hT (fun k e => (hT.ge e).2) hat6
        clear hT
        have hT := hn_hT
        clear hn_hT
        clear hO
        have hO := hN6
        refine s_look (look_assign rfl rfl) ?_
        refine s_nil ?_
        refine inB_normal ?_
        refine then_normal ?_
        refine region_s ?_
        refine q_look (look_add rfl rfl rfl rfl (by unfold I64; omega)) ?_
        refine q_look (look_move rfl rfl) ?_
        refine q_nil ?_
        rintro _ rfl
        exact loop_end ((k + 1, v6)) (by simp only []; omega) ⟨rfl, rfl, rfl, rfl, rfl, trivial⟩ ⟨hX, hO.as (by show _ = ((tasksP sl).take (k + 1)).filter _; rw [filter_take hy]; simp [hp]), hT, dis_hO_hT, by show k + 1 ≤ (tasksP sl).length; omega⟩
      · have hp : passedP ws y = true := by simpa using hc19
        refine wp_skip ?_
        refine inB_normal ?_
        refine then_normal ?_
        refine region_s ?_
        refine q_look (look_add rfl rfl rfl rfl (by unfold I64; omega)) ?_
        refine q_look (look_move rfl rfl) ?_
        refine q_nil ?_
        rintro _ rfl
        exact loop_end ((k + 1, v)) (by simp only []; omega) ⟨rfl, rfl, rfl, rfl, rfl, trivial⟩ ⟨hX, hO.as (by show _ = ((tasksP sl).take (k + 1)).filter _; rw [filter_take hy]; simp [hp]), hT, dis_hO_hT, by show k + 1 ≤ (tasksP sl).length; omega⟩
    · have hge : ¬ k < (tasksP sl).length := by simp at hc12; omega
      refine wp_exit ?_
      refine then_exit ?_
      refine then_exit ?_
      refine inB_exit_same ?_
      refine then_normal ?_
      refine wp_seq ?_
      refine region_s ?_
      refine q_look (look_move rfl rfl) ?_
      refine q_look (look_assign rfl rfl) ?_
      refine q_nil ?_
      rintro _ rfl
      refine then_normal ?_
      refine wp_ret ?_
      exact res1 Try.results19 rfl ⟨_, rfl, hX, hO.as (by rw [List.take_of_length_le (by omega)]; rfl)⟩

theorem refopen_any (h nd pt : Value) (sA : Option Addr) (sl : List Sm) (sc : Nat) (pk ne : Value) (wA : Option Addr) (ws : List Wd) (wcap : Nat) (w : World) (hA : Sl smcell 6 w sA sl) (hla : sl.length ≤ 1000) (hB : Sl wdcell 8 w wA ws) (hW : WsOk w ws) (hlw : ws.length ≤ maxLen) :
    Calls Try.prog 20 #[.agg #[h, nd, pt, .slice sA sl.length sc, pk, ne], .slice wA ws.length wcap] w fun e w' => ∃ v, e = .returned v ∧ Ext w w' ∧ Own tcell 52 2 w.heap.size w' v (openP sl ws) := by
  refine calls_act Try.func20 rfl Try.ntmps20 rfl rfl ?_
  show Code.wp _ _ _ (act 31 [(0, true, .agg #[h, nd, pt, .slice sA sl.length sc, pk, ne]), (1, true, .slice wA ws.length wcap)] _) _
  have hX : Ext w w := Ext.rfl' w
  refine wp_seq ?_
  refine wp_region_lit ?_
  refine s_box rfl ?_
  intro g1 u1 hu1 hB1 hg1 hs1
  replace hB1 : Blk u1 g1 33 (dL h nd pt sA sl sc pk ne) := hB1
  have ge_g1 : w.heap.size ≤ g1 := by have := hX.size; omega
  replace hX := hX.comp hu1
  refine s_look (look_assign rfl rfl) ?_
  refine s_nil ?_
  refine then_normal ?_
  refine wp_seq ?_
  refine region_s ?_
  refine q_look (look_assign rfl rfl) ?_
  refine q_nil ?_
  rintro _ rfl
  refine then_normal ?_
  refine wp_seq ?_
  refine wp_region_lit ?_
  refine s_look (look_loadN Try.underlying33 rfl szTry_33 rfl rfl rfl (eqc_n hB1)) ?_
  refine s_call (vs := [_]) enTry_18 ⟨⟨_, rfl, rfl⟩, trivial⟩ (reftasks_any h nd pt sA sl sc pk ne _ (hA.ext hX) hla) ?_
  rintro _ u2 ⟨v2, rfl, hc2, hT⟩
  refine ⟨_, rfl, ?_⟩
  have ne_hT_g1 : Value.ownBlock v2 ≠ some g1 := hT.ne_old hB1.lt
  replace hT := hT.weak hX.size
  replace hX := hX.comp hc2
  replace hB1 := hB1.ext hc2
  have htl := tasks_len sl
  obtain ⟨At, ct, rfl, _, _, _, _⟩ := hT.sl hce_t
  have hO := Own.nil tcell 52 2 w.heap.size u2
  have dis_hO_hT : Dis (.slice none 0 0) (.slice At (tasksP sl).length ct) := fun k h => by simp [Value.ownBlock] at h
  refine s_look (look_assign rfl rfl) ?_
  refine s_nil ?_
  refine then_normal ?_
  refine wp_seq ?_
  refine wp_seq ?_
  refine region_s ?_
  refine q_look (look_assign rfl rfl) ?_
  refine q_nil ?_
  rintro _ rfl
  refine then_normal ?_
  refine wp_block ?_
  refine loop_act (fun (ls : Nat × Value) => [(1, .slice wA ws.length wcap), (5, ls.2), (6, .slice At (tasksP sl).length ct), (7, .int .i64 (ls.1 : Int))]) (fun ls w' => (Ext w w') ∧ (Own tcell 52 2 w.heap.size w' ls.2 (((tasksP sl).take ls.1).filter fun t => !passedP ws t)) ∧ (Own tcell 52 2 w.heap.size w' (.slice At (tasksP sl).length ct) (tasksP sl)) ∧ (Dis ls.2 (.slice At (tasksP sl).length ct)) ∧ (ls.1 ≤ (tasksP sl).length)) (fun ls => (tasksP sl).length - ls.1) ((0, .slice none 0 0)) ?_ ?_ ?_
  · exact ⟨rfl, rfl, rfl, rfl, trivial⟩
  · exact ⟨hX, hO, hT, dis_hO_hT, Nat.zero_le _⟩
  · rintro ⟨k, v⟩ σ wr hF
    obtain ⟨hX, hO, hT, dis_hO_hT, hk⟩ : (Ext w wr) ∧ (Own tcell 52 2 w.heap.size wr v (((tasksP sl).take k).filter fun t => !passedP ws t)) ∧ (Own tcell 52 2 w.heap.size wr (.slice At (tasksP sl).length ct) (tasksP sl)) ∧ (Dis v (.slice At (tasksP sl).length ct)) ∧ (k ≤ (tasksP sl).length) := hF
    show Code.wp _ _ _ (act 31 [(1, true, .slice wA ws.length wcap), (5, true, v), (6, true, .slice At (tasksP sl).length ct), (7, true, .int .i64 (k : Int))] _) _
    refine wp_seq ?_
    refine wp_seq ?_
    refine region_s ?_
    refine q_look (look_move rfl rfl) ?_
    refine q_look (look_move rfl rfl) ?_
    refine q_look (look_len_slice Try.underlying37 rfl rfl) ?_
    refine q_look (look_lss rfl rfl rfl rfl) ?_
    refine q_nil ?_
    rintro _ rfl
    refine then_normal ?_
    refine cond_split rfl (fun hc13 => ?_) (fun hc13 => ?_)
    · have hlt : k < (tasksP sl).length := by simp at hc13; omega
      obtain ⟨y, hy⟩ := get_lt hlt
      obtain ⟨b1, o1, rfl, _⟩ := (hT.slOf hce_t).1.at_ hlt
      refine wp_skip ?_
      refine then_normal ?_
      refine wp_seq ?_
      refine wp_block ?_
      refine wp_seq ?_
      refine region_q ?_
      refine q_look (look_move rfl rfl) ?_
      refine q_look (look_move rfl rfl) ?_
      refine q_look (look_move rfl rfl) ?_
      refine q_look (look_indexAddr _ Try.underlying37 szTry_52 rfl rfl rfl rfl rfl (by omega)) ?_
      refine q_look (look_loadN Try.underlying52 rfl szTry_52 rfl rfl rfl (cs := tcell y) (extn (hT.rd hce_t k y hy))) ?_
      refine q_call (vs := [_, _]) enTry_30 ⟨⟨_, rfl, rfl⟩, ⟨_, rfl, rfl⟩, trivial⟩ (fun wc hw => cext hw (passed_any ws wA wcap y wc (hB.ext (hX.comp hw)) (hW.ext (hX.comp hw)) hlw)) ?_
      refine q_look (look_not rfl rfl) ?_
      refine q_nil ?_
      intro w1 hw1
      replace hX := hX.comp hw1
      replace hT := hT.ext hw1
      replace hO := hO.ext hw1
      refine then_normal ?_
      refine cond_split rfl (fun hc22 => ?_) (fun hc22 => ?_)
      · have hp : passedP ws y = false := by simpa using hc22
        refine wp_region_lit ?_
        refine s_look (look_move rfl rfl) ?_
        refine s_look (look_move rfl rfl) ?_
        refine s_look (look_move rfl rfl) ?_
        refine s_look (look_indexAddr _ Try.underlying37 szTry_52 rfl rfl rfl rfl rfl (by omega)) ?_
        refine s_look (look_loadN Try.underlying52 rfl szTry_52 rfl rfl rfl (cs := tcell y) (eqn (hT.rd hce_t k y hy))) ?_
        refine s_buildSlice (parts := [(0, .tmp 27)]) (vs := [(0, _)]) (cells := tcell y) Try.underlying37 szTry_52 zeTry_52 rfl rfl ⟨⟨_, rfl, rfl⟩, trivial⟩ rfl (by kernel_rfl) ?_
        intro g3 u3 hu3 hB3 hg3 hs3
        have ne_hT_g3 : (Value.ownBlock (.slice (some ⟨b1, o1, none⟩) (tasksP sl).length ct)) ≠ some g3 := hT.ne_new (by omega)
        have ne_hO_g3 : (Value.ownBlock (v)) ≠ some g3 := hO.ne_new (by omega)
        have ge_g3 : w.heap.size ≤ g3 := by have := hX.size; omega
        replace hX := hX.comp hu3
        replace hT := hT.ext hu3
        replace hO := hO.ext hu3
        have hsz4 := hX.size
        refine s_appendL (ce := tcell) (news := [y]) Try.underlying37 zsbTry_52 rfl rfl rfl hO rfl (Blk.src (x := y) rfl (by simp [tcell, Value.oneCell']) hB3) (by have := List.length_filter_le (fun t => !passedP ws t) ((tasksP sl).take k); have h2 := List.length_take_le k (tasksP sl); simp only [List.length_cons, List.length_nil]; rw [maxLen_is]; omega) (by have := List.length_filter_le (fun t => !passedP ws t) ((tasksP sl).take k); have h2 := List.length_take_le k (tasksP sl); simp only [List.length_cons, List.length_nil]; omega) (by omega) ?_
        intro v4 u4 hN4 hgr4 hat4
        replace hX := hX.grow hO (Nat.le_refl _) hgr4
        have hn_hT := hT.grown hgr4 (Dis.ne dis_hO_hT)
        replace dis_hO_hT := Dis.app dis_hO_hT (fun k e => (hT.ge e).2) hat4
        clear hT
        have hT := hn_hT
        clear hn_hT
        clear hO
        have hO := hN4
        refine s_look (look_assign rfl rfl) ?_
        refine s_nil ?_
        refine inB_normal ?_
        refine then_normal ?_
        refine region_s ?_
        refine q_look (look_move rfl rfl) ?_
        refine q_look (look_add rfl rfl rfl rfl (by unfold I64; omega)) ?_
        refine q_look (look_assign rfl rfl) ?_
        refine q_nil ?_
        rintro _ rfl
        exact loop_end ((k + 1, v4)) (by simp only []; omega) ⟨rfl, rfl, rfl, rfl, trivial⟩ ⟨hX, hO.as (by show _ = ((tasksP sl).take (k + 1)).filter _; rw [filter_take hy]; simp [hp]), hT, dis_hO_hT, by show k + 1 ≤ (tasksP sl).length; omega⟩
      · have hp : passedP ws y = true := by simpa using hc22
        refine wp_skip ?_
        refine inB_normal ?_
        refine then_normal ?_
        refine region_s ?_
        refine q_look (look_move rfl rfl) ?_
        refine q_look (look_add rfl rfl rfl rfl (by unfold I64; omega)) ?_
        refine q_look (look_assign rfl rfl) ?_
        refine q_nil ?_
        rintro _ rfl
        exact loop_end ((k + 1, v)) (by simp only []; omega) ⟨rfl, rfl, rfl, rfl, trivial⟩ ⟨hX, hO.as (by show _ = ((tasksP sl).take (k + 1)).filter _; rw [filter_take hy]; simp [hp]), hT, dis_hO_hT, by show k + 1 ≤ (tasksP sl).length; omega⟩
    · have hge : ¬ k < (tasksP sl).length := by simp at hc13; omega
      refine wp_exit ?_
      refine then_exit ?_
      refine then_exit ?_
      refine inB_exit_same ?_
      refine then_normal ?_
      refine wp_seq ?_
      refine region_s ?_
      refine q_look (look_move rfl rfl) ?_
      refine q_look (look_assign rfl rfl) ?_
      refine q_nil ?_
      rintro _ rfl
      refine then_normal ?_
      refine wp_ret ?_
      exact res1 Try.results20 rfl ⟨_, rfl, hX, hO.as (by rw [List.take_of_length_le (by omega)]; rfl)⟩

theorem few_any (h nd pt : Value) (sA : Option Addr) (sl : List Sm) (sc : Nat) (pk ne : Value) (wA : Option Addr) (ws : List Wd) (wcap : Nat) (w : World) (hB : Sl wdcell 8 w wA ws) :
    Calls Try.prog 15 #[.agg #[h, nd, pt, .slice sA sl.length sc, pk, ne], .slice wA ws.length wcap] w fun e w' => e = .returned (.bool (fewP sl ws)) ∧ Ext w w' := by
  refine calls_act Try.func15 rfl Try.ntmps15 rfl rfl ?_
  show Code.wp _ _ _ (act 28 [(0, true, .agg #[h, nd, pt, .slice sA sl.length sc, pk, ne]), (1, true, .slice wA ws.length wcap)] _) _
  have hX : Ext w w := Ext.rfl' w
  refine wp_seq ?_
  refine wp_region_lit ?_
  refine s_box rfl ?_
  intro g1 u1 hu1 hB1 hg1 hs1
  replace hB1 : Blk u1 g1 33 (dL h nd pt sA sl sc pk ne) := hB1
  have ge_g1 : w.heap.size ≤ g1 := by have := hX.size; omega
  replace hX := hX.comp hu1
  refine s_look (look_assign rfl rfl) ?_
  refine s_nil ?_
  refine then_normal ?_
  refine wp_seq ?_
  refine wp_seq ?_
  refine region_s ?_
  refine q_look (look_fieldAddr Try.underlying33 rfl (fun _ _ => rfl) rfl rfl) ?_
  refine q_look (look_load1 Try.underlying29 rfl rfl rfl (eqc (hB1.cell rfl))) ?_
  refine q_look (look_len_slice Try.underlying29 rfl rfl) ?_
  refine q_look (look_gtr rfl rfl rfl rfl) ?_
  refine q_look (look_move rfl rfl) ?_
  refine q_lookg rfl rfl rfl (fun hq => look_move rfl rfl) ?_
  refine q_lookg rfl rfl rfl (fun hq => look_len_slice Try.underlying34 rfl hq) ?_
  refine q_lookg rfl rfl rfl (fun hq => look_gtr rfl hq rfl rfl) ?_
  refine q_look (look_or rfl rfl rfl rfl) ?_
  refine q_nil ?_
  rintro _ rfl
  refine then_normal ?_
  refine cond_split rfl (fun hc14 => ?_) (fun hc14 => ?_)
  · have hbad : ¬ (sl.length ≤ 60 ∧ ws.length ≤ 60) := by simp at hc14; omega
    refine wp_seq ?_
    refine region_s ?_
    refine q_look (look_assign rfl rfl) ?_
    refine q_nil ?_
    rintro _ rfl
    refine then_normal ?_
    refine wp_ret ?_
    refine then_ret ?_
    exact res1 Try.results15 rfl ⟨ret_bool (by rw [eq_comm, Bool.eq_false_iff]; intro h; simp only [fewP, Bool.and_eq_true, decide_eq_true_eq] at h; exact hbad ⟨h.1, h.2.1⟩), hX⟩
  · have hok : sl.length ≤ 60 ∧ ws.length ≤ 60 := by simp at hc14; omega
    refine wp_skip ?_
    refine then_normal ?_
    refine wp_seq ?_
    refine wp_seq ?_
    refine region_s ?_
    refine q_look (look_assign rfl rfl) ?_
    refine q_nil ?_
    rintro _ rfl
    refine then_normal ?_
    refine wp_block ?_
    refine loop_act (fun (k : Nat) => [(1, .slice wA ws.length wcap), (5, .int .i64 (k : Int))]) (fun k w' => (Ext w w') ∧ (k ≤ ws.length) ∧ (∀ x ∈ ws.take k, x.pl.length ≤ 20)) (fun k => ws.length - k) (0) ?_ ?_ ?_
    · exact ⟨rfl, rfl, trivial⟩
    · exact ⟨hX, Nat.zero_le _, by simp⟩
    · rintro k σ wr hF
      obtain ⟨hX, hk, hs⟩ : (Ext w wr) ∧ (k ≤ ws.length) ∧ (∀ x ∈ ws.take k, x.pl.length ≤ 20) := hF
      show Code.wp _ _ _ (act 28 [(1, true, .slice wA ws.length wcap), (5, true, .int .i64 (k : Int))] _) _
      refine wp_seq ?_
      refine wp_seq ?_
      refine region_s ?_
      refine q_look (look_move rfl rfl) ?_
      refine q_look (look_move rfl rfl) ?_
      refine q_look (look_len_slice Try.underlying34 rfl rfl) ?_
      refine q_look (look_lss rfl rfl rfl rfl) ?_
      refine q_nil ?_
      rintro _ rfl
      refine then_normal ?_
      refine cond_split rfl (fun hc18 => ?_) (fun hc18 => ?_)
      · have hlt : k < ws.length := by simp at hc18; omega
        obtain ⟨y, hy⟩ := get_lt hlt
        obtain ⟨b1, o1, rfl, _⟩ := (hB.ext hX).at_ hlt
        refine wp_skip ?_
        refine then_normal ?_
        refine wp_seq ?_
        refine wp_block ?_
        refine wp_seq ?_
        refine region_s ?_
        refine q_look (look_move rfl rfl) ?_
        refine q_look (look_move rfl rfl) ?_
        refine q_look (look_indexAddr _ Try.underlying34 szTry_49 rfl rfl rfl rfl rfl (by omega)) ?_
        refine q_look (look_fieldAddr Try.underlying49 rfl (fun _ _ => rfl) rfl rfl) ?_
        refine q_look (look_load1 Try.underlying23 rfl rfl rfl (eqc (((hB.ext hX).rd k y hy) _ _ rfl))) ?_
        refine q_look (look_len_slice Try.underlying23 rfl rfl) ?_
        refine q_look (look_gtr rfl rfl rfl rfl) ?_
        refine q_nil ?_
        rintro _ rfl
        refine then_normal ?_
        refine cond_split rfl (fun hc27 => ?_) (fun hc27 => ?_)
        · have h20 : ¬ y.pl.length ≤ 20 := by simp at hc27; omega
          refine wp_seq ?_
          refine region_s ?_
          refine q_look (look_assign rfl rfl) ?_
          refine q_nil ?_
          rintro _ rfl
          refine then_normal ?_
          refine wp_ret ?_
          refine inB_ret ?_
          refine then_ret ?_
          refine then_ret ?_
          refine inB_ret ?_
          refine then_ret ?_
          exact res1 Try.results15 rfl ⟨ret_bool (by rw [eq_comm, Bool.eq_false_iff]; intro h; simp only [fewP, Bool.and_eq_true, decide_eq_true_eq, List.all_eq_true] at h; exact h20 (h.2.2 y (List.mem_of_getElem? hy))), hX⟩
        · have h20 : y.pl.length ≤ 20 := by simp at hc27; omega
          refine wp_skip ?_
          refine inB_normal ?_
          refine then_normal ?_
          refine region_s ?_
          refine q_look (look_move rfl rfl) ?_
          refine q_look (look_add rfl rfl rfl rfl (by unfold I64; omega)) ?_
          refine q_look (look_assign rfl rfl) ?_
          refine q_nil ?_
          rintro _ rfl
          exact loop_end (k + 1) (by omega) ⟨rfl, rfl, trivial⟩ ⟨hX, by omega, by rw [take_get hy]; intro q hq; rcases List.mem_append.1 hq with hq | hq; exact hs q hq; rw [List.mem_singleton.1 hq]; exact h20⟩
      · have hge : ¬ k < ws.length := by simp at hc18; omega
        refine wp_exit ?_
        refine then_exit ?_
        refine then_exit ?_
        refine inB_exit_same ?_
        refine then_normal ?_
        refine wp_seq ?_
        refine region_s ?_
        refine q_look (look_assign rfl rfl) ?_
        refine q_nil ?_
        rintro _ rfl
        refine then_normal ?_
        refine wp_ret ?_
        exact res1 Try.results15 rfl ⟨ret_bool (by rw [eq_comm]; simp only [fewP, Bool.and_eq_true, decide_eq_true_eq, List.all_eq_true]; exact ⟨hok.1, hok.2, fun x hx => hs x (by rw [List.take_of_length_le (by omega)]; exact hx)⟩), hX⟩

end Go.Proofs.Ytobgfnlfbjodjaa
