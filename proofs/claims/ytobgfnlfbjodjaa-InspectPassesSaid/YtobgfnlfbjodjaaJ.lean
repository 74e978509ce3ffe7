/- The walks of chapter 35 (inspect), tenth part: one more method is passed. -/
import Derived.Test.YtobgfnlfbjodjaaG
import Derived.Test.YtobgfnlfbjodjaaFork
namespace Go.Proofs.Ytobgfnlfbjodjaa
open Go Go.RowKit Core
set_option linter.unusedVariables false
set_option linter.unusedSimpArgs false
attribute [local irreducible] wpQuiet wpList wpH wpT Code.wp Calls bodyPost act


theorem passes_eq (sl : List Sm) (ws : List Wd) (x : Tk) (y : Wd) (h1 : y.seam = x.seam) (h2 : y.pl = [x.m]) : openP sl (ws ++ [y]) = (openP sl ws).filter fun t => !decide (t = x) := by
  unfold openP
  rw [List.filter_filter]
  congr 1
  funext t
  have e : passedP (ws ++ [y]) t = (passedP ws t || decide (t = x)) := by
    unfold passedP
    rw [List.any_append]
    congr 1
    rw [Bool.eq_iff_iff]
    simp only [List.any_cons, List.any_nil, Bool.or_false, Bool.and_eq_true, decide_eq_true_eq, h1, h2, List.mem_singleton]
    cases t; cases x; simp [eq_comm]
  rw [e, Bool.not_or, Bool.and_comm]
theorem oneW (x : Wd) : ∀ u ∈ wdcell x, u.oneCell' = true := by simp [wdcell, Value.oneCell']
def nwOf (x : Tk) (g : Nat) : Wd := ⟨x.seam, 0, 0, ⟨#[]⟩, ⟨#[]⟩, 0, 0, some ⟨g, 0, none⟩, [x.m], 1⟩
theorem ws_add {w : World} {ws : List Wd} {x : Tk} {g : Nat} {t : TypeId} (h : WsOk w ws) (hB : Blk w g t ([x.m].flatMap icell)) : WsOk w (ws ++ [nwOf x g]) := by
  intro y hy
  rcases List.mem_append.1 hy with hy | hy
  · exact h y hy
  · rw [List.mem_singleton.1 hy]; exact ⟨Blk.sl hce_i hB, show 1 ≤ maxLen by decide⟩

set_option maxHeartbeats 2000000 in
theorem passes_law (h nd pt : Value) (sA : Option Addr) (sl : List Sm) (sc : Nat) (pk ne : Value) (wA : Option Addr) (ws : List Wd) (wcap : Nat) (x : Tk) (w : World) (hA : Sl smcell 6 w sA sl) (hB : Sl wdcell 8 w wA ws) (hW : WsOk w ws) (hnw : wA = none → wcap = 0) :
    Calls Try.prog 8 #[.agg #[h, nd, pt, .slice sA sl.length sc, pk, ne], .slice wA ws.length wcap, .agg #[.string x.seam, .int .i64 x.m]] w fun e w' => e = .returned (.bool (true)) ∧ Ext w w' := by
  refine calls_act Try.func8 rfl Try.ntmps8 rfl rfl ?_
  show Code.wp _ _ _ (act 62 [(0, true, .agg #[h, nd, pt, .slice sA sl.length sc, pk, ne]), (1, true, .slice wA ws.length wcap), (2, true, .agg #[.string x.seam, .int .i64 x.m])] _) _
  have hX : Ext w w := Ext.rfl' w
  refine wp_seq ?_
  refine wp_region_lit ?_
  refine s_box rfl ?_
  intro g1 u1 hu1 hB1 hg1 hs1
  replace hB1 : Blk u1 g1 33 (dL h nd pt sA sl sc pk ne) := hB1
  have ge_g1 : w.heap.size ≤ g1 := by have := hX.size; omega
  replace hX := hX.comp hu1
  refine s_box rfl ?_
  intro g2 u2 hu2 hB2 hg2 hs2
  replace hB2 : Blk u2 g2 52 (tcell x) := hB2
  have lt_g1_g2 : g1 < g2 := by have := hB1.lt; omega
  have ge_g2 : w.heap.size ≤ g2 := by have := hX.size; omega
  replace hX := hX.comp hu2
  replace hB1 := hB1.ext hu2
  refine s_look (look_assign rfl rfl) ?_
  refine s_nil ?_
  refine then_normal ?_
  refine wp_seq ?_
  refine wp_seq ?_
  refine region_q ?_
  refine q_look (look_loadN Try.underlying33 rfl szTry_33 rfl rfl rfl (ext_cell_n hB1)) ?_
  refine q_look (look_move rfl rfl) ?_
  refine q_call (vs := [_, _]) enTry_15 ⟨⟨_, rfl, rfl⟩, ⟨_, rfl, rfl⟩, trivial⟩ (fun wc hw => cext hw (few_any h nd pt sA sl sc pk ne wA ws wcap wc (hB.ext (hX.comp hw)))) ?_
  refine q_look (look_not rfl rfl) ?_
  refine q_look (look_move rfl rfl) ?_
  refine q_lookg rfl rfl rfl (fun hq => look_move rfl rfl) ?_
  refine q_lookg rfl rfl rfl (fun hq => look_len_slice Try.underlying34 rfl hq) ?_
  refine q_lookg rfl rfl rfl (fun hq => look_gtr rfl hq rfl rfl) ?_
  refine q_look (look_or rfl rfl rfl rfl) ?_
  refine q_nil ?_
  intro w1 hw1
  replace hX := hX.comp hw1
  replace hB1 := hB1.ext hw1
  replace hB2 := hB2.ext hw1
  refine then_normal ?_
  refine cond_split rfl (fun hc19 => ?_) (fun hc19 => ?_)
  · skip
    refine wp_seq ?_
    refine region_q ?_
    refine q_call (vs := []) enTry_14 trivial (fun wc hw => cext hw (awake_any wc)) ?_
    refine q_look (look_assign rfl rfl) ?_
    refine q_nil ?_
    intro w2 hw2
    replace hX := hX.comp hw2
    replace hB1 := hB1.ext hw2
    replace hB2 := hB2.ext hw2
    refine then_normal ?_
    refine wp_ret ?_
    refine then_ret ?_
    exact res1 Try.results8 rfl ⟨rfl, hX⟩
  · rw [Bool.or_eq_false_iff] at hc19
    have hf : fewP sl ws = true := by simpa using hc19.1
    have hw59 : ws.length ≤ 59 := by have := of_decide_eq_false hc19.2; omega
    simp only [fewP, Bool.and_eq_true, decide_eq_true_eq] at hf
    have hmx0 := maxLen_is
    have htl := tasks_len sl
    have hol : (openP sl ws).length ≤ (tasksP sl).length := List.length_filter_le _ _
    refine wp_skip ?_
    refine then_normal ?_
    refine wp_seq ?_
    refine wp_region_lit ?_
    refine s_look (look_loadN Try.underlying33 rfl szTry_33 rfl rfl rfl (eqc_n hB1)) ?_
    refine s_look (look_move rfl rfl) ?_
    refine s_call (vs := [_, _]) enTry_19 ⟨⟨_, rfl, rfl⟩, ⟨_, rfl, rfl⟩, trivial⟩ (open_any h nd pt sA sl sc pk ne wA ws wcap _ (hA.ext hX) (by omega) (hB.ext hX) (hW.ext hX) (by omega)) ?_
    rintro _ u3 ⟨v3, rfl, hc3, hP⟩
    refine ⟨_, rfl, ?_⟩
    have ne_hP_g1 : Value.ownBlock v3 ≠ some g1 := hP.ne_old hB1.lt
    have ne_hP_g2 : Value.ownBlock v3 ≠ some g2 := hP.ne_old hB2.lt
    replace hP := hP.weak hX.size
    replace hX := hX.comp hc3
    replace hB1 := hB1.ext hc3
    replace hB2 := hB2.ext hc3
    obtain ⟨AP, cP, rfl, hSlhP, _, hmxhP, _⟩ := hP.sl hce_t
    refine s_look (look_assign rfl rfl) ?_
    refine s_nil ?_
    refine then_normal ?_
    refine seq_cut (n := 62) (fun (z : Option Addr × Nat) => [(5, .pointer (some ⟨g2, 0, none⟩)), (7, .slice AP (openP sl ws).length cP), (8, .slice z.1 ((openP sl ws).filter fun t => !decide (t = x)).length z.2)]) (fun z w' => Ext w w' ∧ Blk w' g2 52 (tcell x) ∧ Own tcell 52 2 w.heap.size w' (.slice AP (openP sl ws).length cP) (openP sl ws) ∧ Own tcell 52 2 w.heap.size w' (.slice z.1 ((openP sl ws).filter fun t => !decide (t = x)).length z.2) ((openP sl ws).filter fun t => !decide (t = x))) ?_ ?_
    · refine region_t (fun W => Ext w W ∧ Blk W g1 33 (dL h nd pt sA sl sc pk ne) ∧ Blk W g2 52 (tcell x) ∧ Own tcell 52 2 w.heap.size W (.slice AP (openP sl ws).length cP) (openP sl ws)) (.eager 0 (.eager 2 (.eager 4 (.eager 5 (.eager 6 (.eager 7 (.fork 1 8 (.fork 3 8 (.alone 8 (.eager 9 (.alone 10 (.alone 11 (.alone 12 (.eager 13 .nil)))))) (.eager 9 (.fork 3 10 (.alone 10 (.alone 11 (.alone 12 (.eager 13 .nil)))) (.alone 3 (.alone 11 (.alone 12 (.eager 13 .nil))))))) (.eager 9 (.fork 1 10 (.fork 3 10 (.alone 10 (.alone 11 (.alone 12 (.eager 13 .nil)))) (.alone 3 (.alone 11 (.alone 12 (.eager 13 .nil))))) (.alone 1 (.alone 3 (.alone 11 (.alone 12 (.eager 13 .nil)))))))))))))) mixed (by kernel_rfl) rfl (by kernel_rfl) (by repeat (first | exact pk_body | refine pk_then ?_ | refine pk_block ?_)) ?_
      intro u4 hR4
      replace hX := hX.comp hR4
      replace hB1 := hB1.ext hR4
      replace hB2 := hB2.ext hR4
      replace hP := hP.ext hR4
      refine ⟨⟨hX, hB1, hB2, hP⟩, ?_⟩
      refine t_look rfl (look_loadN Try.underlying33 rfl szTry_33 rfl rfl rfl (fun w' hS j v hv => by rw [Nat.zero_add]; exact (hS.2.1).cell hv)) ?_
      refine t_look rfl (look_move rfl rfl) ?_
      refine t_look rfl (look_fieldAddr Try.underlying52 rfl (fun _ _ => rfl) rfl rfl) ?_
      refine t_look rfl (look_load1 Try.underlying9 rfl rfl rfl (fun w' hS => (hS.2.2.1).cell rfl)) ?_
      refine t_look rfl (look_fieldAddr Try.underlying52 rfl (fun _ _ => rfl) rfl rfl) ?_
      refine t_look rfl (look_load1 Try.underlying3 rfl rfl rfl (fun w' hS => (hS.2.2.1).cell rfl)) ?_
      refine t_fork rfl rfl ?_ ?_
      · refine s_buildSlice0 Try.underlying34 szTry_49 ?_
        intro g5 u5 hu5 hB5 hg5 hs5
        have lt_g1_g5 : g1 < g5 := by have := hB1.lt; omega
        have lt_g2_g5 : g2 < g5 := by have := hB2.lt; omega
        have ne_hP_g5 : (Value.ownBlock (.slice AP (openP sl ws).length cP)) ≠ some g5 := hP.ne_new (by omega)
        have ge_g5 : w.heap.size ≤ g5 := by have := hX.size; omega
        replace hX := hX.comp hu5
        replace hB1 := hB1.ext hu5
        replace hB2 := hB2.ext hu5
        replace hP := hP.ext hu5
        have hO := Own.lit (base := w.heap.size) (l := ([] : List Wd)) (ce := wdcell) (size := 8) hB5 rfl rfl rfl ge_g5 (by decide)
        have dis_hO_hP : Dis (.slice (some ⟨g5, 0, none⟩) 0 0) (.slice AP (openP sl ws).length cP) := fun k hk e => by rw [show k = g5 from (Option.some.inj hk).symm] at e; exact ne_hP_g5 e
        have ne_hO_g1 : Value.ownBlock (.slice (some ⟨g5, 0, none⟩) 0 0) ≠ some g1 := by simp [Value.ownBlock]; omega
        have ne_hO_g2 : Value.ownBlock (.slice (some ⟨g5, 0, none⟩) 0 0) ≠ some g2 := by simp [Value.ownBlock]; omega
        refine s_nil ?_
        refine then_normal ?_
        refine ⟨⟨hX, hB1, hB2, hP⟩, ?_⟩
        refine t_fork rfl rfl ?_ ?_
        · have hsz6 := hX.size
          refine s_appendL (ce := wdcell) (news := ws) Try.underlying34 zsbTry_49 rfl rfl rfl hO rfl (Sl.src hce_w oneW (hB.ext hX) hnw) (by simp only [List.length_nil]; omega) (by simp only [List.length_nil]; omega) (by omega) ?_
          intro v6 u6 hN6 hgr6 hat6
          replace hX := hX.grow hO (Nat.le_refl _) hgr6
          have hn_hB1 := hB1.grown hgr6 ne_hO_g1
          have hn_hB2 := hB2.grown hgr6 ne_hO_g2
          replace ne_hO_g1 := ne_app ne_hO_g1 hB1.lt hat6
          replace ne_hO_g2 := ne_app ne_hO_g2 hB2.lt hat6
          clear hB1
          have hB1 := hn_hB1
          clear hn_hB1
          clear hB2
          have hB2 := hn_hB2
          clear hn_hB2
          have hn_hP := hP.grown hgr6 (Dis.ne dis_hO_hP)
          replace dis_hO_hP := Dis.app dis_hO_hP (fun k e => (hP.ge e).2) hat6
          clear hP
          have hP := hn_hP
          clear hn_hP
          clear hO
          have hO : Own wdcell 49 8 w.heap.size u6 v6 ws := (by simpa using hN6)
          refine s_nil ?_
          refine then_normal ?_
          refine ⟨⟨hX, hB1, hB2, hP⟩, ?_⟩
          refine t_seq rfl ?_
          refine s_buildSlice (parts := [(0, .tmp 31)]) (vs := [(0, _)]) (cells := [x.m].flatMap icell) Try.underlying23 szTry_3 zeTry_3 rfl rfl ⟨⟨_, rfl, rfl⟩, trivial⟩ rfl (by kernel_rfl) ?_
          intro g7 u7 hu7 hB7 hg7 hs7
          have lt_g1_g7 : g1 < g7 := by have := hB1.lt; omega
          have lt_g2_g7 : g2 < g7 := by have := hB2.lt; omega
          have ne_hP_g7 : (Value.ownBlock (.slice AP (openP sl ws).length cP)) ≠ some g7 := hP.ne_new (by omega)
          have ne_hO_g7 : (Value.ownBlock v6) ≠ some g7 := hO.ne_new (by omega)
          have ge_g7 : w.heap.size ≤ g7 := by have := hX.size; omega
          replace hX := hX.comp hu7
          replace hB1 := hB1.ext hu7
          replace hB2 := hB2.ext hu7
          replace hP := hP.ext hu7
          replace hO := hO.ext hu7
          refine s_nil ?_
          refine then_normal ?_
          refine ⟨⟨hX, hB1, hB2, hP⟩, ?_⟩
          refine t_look rfl (look_build (pl := [(0, 1), (1, 1), (2, 1), (3, 1), (4, 1), (5, 1), (6, 1), (7, 1)]) (parts := [(0, .tmp 29), (7, .tmp 32)]) (vs := [(0, _), (7, _)]) (cells := [.string x.seam, .int .i64 0, .int .i64 0, .string ⟨#[]⟩, .string ⟨#[]⟩, .int .i64 0, .int .i64 0, .slice (some ⟨g7, 0, none⟩) 1 1]) Try.underlying49 zeTry_49 (by kernel_rfl) ⟨⟨_, rfl, rfl⟩, ⟨_, rfl, rfl⟩, trivial⟩ rfl (by kernel_rfl)) ?_
          refine t_seq rfl ?_
          refine s_buildSlice (parts := [(0, .tmp 33)]) (vs := [(0, _)]) (cells := [.string x.seam, .int .i64 0, .int .i64 0, .string ⟨#[]⟩, .string ⟨#[]⟩, .int .i64 0, .int .i64 0, .slice (some ⟨g7, 0, none⟩) 1 1]) Try.underlying34 szTry_49 zeTry_49 rfl rfl ⟨⟨_, rfl, rfl⟩, trivial⟩ rfl (by kernel_rfl) ?_
          intro g8 u8 hu8 hB8 hg8 hs8
          have lt_g1_g8 : g1 < g8 := by have := hB1.lt; omega
          have lt_g2_g8 : g2 < g8 := by have := hB2.lt; omega
          have lt_g7_g8 : g7 < g8 := by have := hB7.lt; omega
          have ne_hP_g8 : (Value.ownBlock (.slice AP (openP sl ws).length cP)) ≠ some g8 := hP.ne_new (by omega)
          have ne_hO_g8 : (Value.ownBlock v6) ≠ some g8 := hO.ne_new (by omega)
          have ge_g8 : w.heap.size ≤ g8 := by have := hX.size; omega
          replace hX := hX.comp hu8
          replace hB1 := hB1.ext hu8
          replace hB2 := hB2.ext hu8
          replace hB7 := hB7.ext hu8
          replace hP := hP.ext hu8
          replace hO := hO.ext hu8
          refine s_nil ?_
          refine then_normal ?_
          refine ⟨⟨hX, hB1, hB2, hP⟩, ?_⟩
          refine t_seq rfl ?_
          have hsz9 := hX.size
          refine s_appendL (ce := wdcell) (news := [nwOf x g7]) Try.underlying34 zsbTry_49 rfl rfl rfl hO rfl (Blk.src (x := nwOf x g7) rfl (oneW _) hB8) (by simp only [List.length_cons, List.length_nil]; omega) (by simp only [List.length_cons, List.length_nil]; omega) (by omega) ?_
          intro v9 u9 hN9 hgr9 hat9
          replace hX := hX.grow hO (Nat.le_refl _) hgr9
          have hn_hB1 := hB1.grown hgr9 ne_hO_g1
          have hn_hB2 := hB2.grown hgr9 ne_hO_g2
          have hn_hB7 := hB7.grown hgr9 ne_hO_g7
          have hn_hB8 := hB8.grown hgr9 ne_hO_g8
          replace ne_hO_g1 := ne_app ne_hO_g1 hB1.lt hat9
          replace ne_hO_g2 := ne_app ne_hO_g2 hB2.lt hat9
          replace ne_hO_g7 := ne_app ne_hO_g7 hB7.lt hat9
          replace ne_hO_g8 := ne_app ne_hO_g8 hB8.lt hat9
          clear hB1
          have hB1 := hn_hB1
          clear hn_hB1
          clear hB2
          have hB2 := hn_hB2
          clear hn_hB2
          clear hB7
          have hB7 := hn_hB7
          clear hn_hB7
          clear hB8
          have hB8 := hn_hB8
          clear hn_hB8
          have hn_hP := hP.grown hgr9 (Dis.ne dis_hO_hP)
          replace dis_hO_hP := Dis.app dis_hO_hP (fun k e => (hP.ge e).2) hat9
          clear hP
          have hP := hn_hP
          clear hn_hP
          clear hO
          have hO : Own wdcell 49 8 w.heap.size u9 v9 (ws ++ [nwOf x g7]) := (by simpa using hN9)
          obtain ⟨AO, cO, rfl, _, _, _, _⟩ := hO.sl hce_w
          refine s_nil ?_
          refine then_normal ?_
          refine ⟨⟨hX, hB1, hB2, hP⟩, ?_⟩
          refine t_seq rfl ?_
          refine s_call (vs := [_, _]) enTry_19 ⟨⟨_, rfl, rfl⟩, ⟨_, rfl, rfl⟩, trivial⟩ (open_any h nd pt sA sl sc pk ne AO (ws ++ [nwOf x g7]) cO _ (hA.ext hX) (by omega) (hO.slOf hce_w).1 (ws_add (hW.ext hX) hB7) (by simp only [List.length_append, List.length_cons, List.length_nil]; omega)) ?_
          rintro _ u10 ⟨v10, rfl, hc10, hQ⟩
          refine ⟨_, rfl, ?_⟩
          have dis_hP_hQ := Own.dis_new hP hQ
          have dis_hO_hQ := Own.dis_new hO hQ
          have ne_hQ_g1 : Value.ownBlock v10 ≠ some g1 := hQ.ne_old hB1.lt
          have ne_hQ_g2 : Value.ownBlock v10 ≠ some g2 := hQ.ne_old hB2.lt
          have ne_hQ_g7 : Value.ownBlock v10 ≠ some g7 := hQ.ne_old hB7.lt
          have ne_hQ_g8 : Value.ownBlock v10 ≠ some g8 := hQ.ne_old hB8.lt
          replace hQ := hQ.weak hX.size
          replace hX := hX.comp hc10
          replace hB1 := hB1.ext hc10
          replace hB2 := hB2.ext hc10
          replace hB7 := hB7.ext hc10
          replace hB8 := hB8.ext hc10
          replace hP := hP.ext hc10
          replace hO := hO.ext hc10
          replace hQ := hQ.as (passes_eq sl ws x _ rfl rfl)
          obtain ⟨AQ, cQ, rfl, _, _, _, _⟩ := hQ.sl hce_t
          refine s_nil ?_
          refine then_normal ?_
          refine ⟨⟨hX, hB1, hB2, hP⟩, ?_⟩
          refine t_look rfl (look_assign rfl rfl) ?_
          refine t_nil ?_
          exact cut_end (AQ, cQ) ⟨rfl, rfl, rfl, trivial⟩ ⟨hX, hB2, hP, hQ⟩
        · refine s_buildSlice (parts := [(0, .tmp 31)]) (vs := [(0, _)]) (cells := [x.m].flatMap icell) Try.underlying23 szTry_3 zeTry_3 rfl rfl ⟨⟨_, rfl, rfl⟩, trivial⟩ rfl (by kernel_rfl) ?_
          intro g11 u11 hu11 hB11 hg11 hs11
          have lt_g1_g11 : g1 < g11 := by have := hB1.lt; omega
          have lt_g2_g11 : g2 < g11 := by have := hB2.lt; omega
          have ne_hP_g11 : (Value.ownBlock (.slice AP (openP sl ws).length cP)) ≠ some g11 := hP.ne_new (by omega)
          have ne_hO_g11 : (Value.ownBlock (.slice (some ⟨g5, 0, none⟩) 0 0)) ≠ some g11 := hO.ne_new (by omega)
          have ge_g11 : w.heap.size ≤ g11 := by have := hX.size; omega
          replace hX := hX.comp hu11
          replace hB1 := hB1.ext hu11
          replace hB2 := hB2.ext hu11
          replace hP := hP.ext hu11
          replace hO := hO.ext hu11
          refine s_nil ?_
          refine then_normal ?_
          refine ⟨⟨hX, hB1, hB2, hP⟩, ?_⟩
          refine t_look rfl (look_build (pl := [(0, 1), (1, 1), (2, 1), (3, 1), (4, 1), (5, 1), (6, 1), (7, 1)]) (parts := [(0, .tmp 29), (7, .tmp 32)]) (vs := [(0, _), (7, _)]) (cells := [.string x.seam, .int .i64 0, .int .i64 0, .string ⟨#[]⟩, .string ⟨#[]⟩, .int .i64 0, .int .i64 0, .slice (some ⟨g11, 0, none⟩) 1 1]) Try.underlying49 zeTry_49 (by kernel_rfl) ⟨⟨_, rfl, rfl⟩, ⟨_, rfl, rfl⟩, trivial⟩ rfl (by kernel_rfl)) ?_
          refine t_fork rfl rfl ?_ ?_
          · have hsz12 := hX.size
            refine s_appendL (ce := wdcell) (news := ws) Try.underlying34 zsbTry_49 rfl rfl rfl hO rfl (Sl.src hce_w oneW (hB.ext hX) hnw) (by simp only [List.length_nil]; omega) (by simp only [List.length_nil]; omega) (by omega) ?_
            intro v12 u12 hN12 hgr12 hat12
            replace hX := hX.grow hO (Nat.le_refl _) hgr12
            have hn_hB1 := hB1.grown hgr12 ne_hO_g1
            have hn_hB2 := hB2.grown hgr12 ne_hO_g2
            have hn_hB11 := hB11.grown hgr12 ne_hO_g11
            replace ne_hO_g1 := ne_app ne_hO_g1 hB1.lt hat12
            replace ne_hO_g2 := ne_app ne_hO_g2 hB2.lt hat12
            replace ne_hO_g11 := ne_app ne_hO_g11 hB11.lt hat12
            clear hB1
            have hB1 := hn_hB1
            clear hn_hB1
            clear hB2
            have hB2 := hn_hB2
            clear hn_hB2
            clear hB11
            have hB11 := hn_hB11
            clear hn_hB11
            have hn_hP := hP.grown hgr12 (Dis.ne dis_hO_hP)
            replace dis_hO_hP := Dis.app dis_hO_hP (fun k e => (hP.ge e).2) hat12
            clear hP
            have hP := hn_hP
            clear hn_hP
            clear hO
            have hO : Own wdcell 49 8 w.heap.size u12 v12 ws := (by simpa using hN12)
            refine s_nil ?_
            refine then_normal ?_
            refine ⟨⟨hX, hB1, hB2, hP⟩, ?_⟩
            refine t_seq rfl ?_
            refine s_buildSlice (parts := [(0, .tmp 33)]) (vs := [(0, _)]) (cells := [.string x.seam, .int .i64 0, .int .i64 0, .string ⟨#[]⟩, .string ⟨#[]⟩, .int .i64 0, .int .i64 0, .slice (some ⟨g11, 0, none⟩) 1 1]) Try.underlying34 szTry_49 zeTry_49 rfl rfl ⟨⟨_, rfl, rfl⟩, trivial⟩ rfl (by kernel_rfl) ?_
            intro g13 u13 hu13 hB13 hg13 hs13
            have lt_g1_g13 : g1 < g13 := by have := hB1.lt; omega
            have lt_g2_g13 : g2 < g13 := by have := hB2.lt; omega
            have lt_g11_g13 : g11 < g13 := by have := hB11.lt; omega
            have ne_hP_g13 : (Value.ownBlock (.slice AP (openP sl ws).length cP)) ≠ some g13 := hP.ne_new (by omega)
            have ne_hO_g13 : (Value.ownBlock v12) ≠ some g13 := hO.ne_new (by omega)
            have ge_g13 : w.heap.size ≤ g13 := by have := hX.size; omega
            replace hX := hX.comp hu13
            replace hB1 := hB1.ext hu13
            replace hB2 := hB2.ext hu13
            replace hB11 := hB11.ext hu13
            replace hP := hP.ext hu13
            replace hO := hO.ext hu13
            refine s_nil ?_
            refine then_normal ?_
            refine ⟨⟨hX, hB1, hB2, hP⟩, ?_⟩
            refine t_seq rfl ?_
            have hsz14 := hX.size
            refine s_appendL (ce := wdcell) (news := [nwOf x g11]) Try.underlying34 zsbTry_49 rfl rfl rfl hO rfl (Blk.src (x := nwOf x g11) rfl (oneW _) hB13) (by simp only [List.length_cons, List.length_nil]; omega) (by simp only [List.length_cons, List.length_nil]; omega) (by omega) ?_
            intro v14 u14 hN14 hgr14 hat14
            replace hX := hX.grow hO (Nat.le_refl _) hgr14
            have hn_hB1 := hB1.grown hgr14 ne_hO_g1
            have hn_hB2 := hB2.grown hgr14 ne_hO_g2
            have hn_hB11 := hB11.grown hgr14 ne_hO_g11
            have hn_hB13 := hB13.grown hgr14 ne_hO_g13
            replace ne_hO_g1 := ne_app ne_hO_g1 hB1.lt hat14
            replace ne_hO_g2 := ne_app ne_hO_g2 hB2.lt hat14
            replace ne_hO_g11 := ne_app ne_hO_g11 hB11.lt hat14
            replace ne_hO_g13 := ne_app ne_hO_g13 hB13.lt hat14
            clear hB1
            have hB1 := hn_hB1
            clear hn_hB1
            clear hB2
            have hB2 := hn_hB2
            clear hn_hB2
            clear hB11
            have hB11 := hn_hB11
            clear hn_hB11
            clear hB13
            have hB13 := hn_hB13
            clear hn_hB13
            have hn_hP := hP.grown hgr14 (Dis.ne dis_hO_hP)
            replace dis_hO_hP := Dis.app dis_hO_hP (fun k e => (hP.ge e).2) hat14
            clear hP
            have hP := hn_hP
            clear hn_hP
            clear hO
            have hO : Own wdcell 49 8 w.heap.size u14 v14 (ws ++ [nwOf x g11]) := (by simpa using hN14)
            obtain ⟨AO, cO, rfl, _, _, _, _⟩ := hO.sl hce_w
            refine s_nil ?_
            refine then_normal ?_
            refine ⟨⟨hX, hB1, hB2, hP⟩, ?_⟩
            refine t_seq rfl ?_
            refine s_call (vs := [_, _]) enTry_19 ⟨⟨_, rfl, rfl⟩, ⟨_, rfl, rfl⟩, trivial⟩ (open_any h nd pt sA sl sc pk ne AO (ws ++ [nwOf x g11]) cO _ (hA.ext hX) (by omega) (hO.slOf hce_w).1 (ws_add (hW.ext hX) hB11) (by simp only [List.length_append, List.length_cons, List.length_nil]; omega)) ?_
            rintro _ u15 ⟨v15, rfl, hc15, hQ⟩
            refine ⟨_, rfl, ?_⟩
            have dis_hP_hQ := Own.dis_new hP hQ
            have dis_hO_hQ := Own.dis_new hO hQ
            have ne_hQ_g1 : Value.ownBlock v15 ≠ some g1 := hQ.ne_old hB1.lt
            have ne_hQ_g2 : Value.ownBlock v15 ≠ some g2 := hQ.ne_old hB2.lt
            have ne_hQ_g11 : Value.ownBlock v15 ≠ some g11 := hQ.ne_old hB11.lt
            have ne_hQ_g13 : Value.ownBlock v15 ≠ some g13 := hQ.ne_old hB13.lt
            replace hQ := hQ.weak hX.size
            replace hX := hX.comp hc15
            replace hB1 := hB1.ext hc15
            replace hB2 := hB2.ext hc15
            replace hB11 := hB11.ext hc15
            replace hB13 := hB13.ext hc15
            replace hP := hP.ext hc15
            replace hO := hO.ext hc15
            replace hQ := hQ.as (passes_eq sl ws x _ rfl rfl)
            obtain ⟨AQ, cQ, rfl, _, _, _, _⟩ := hQ.sl hce_t
            refine s_nil ?_
            refine then_normal ?_
            refine ⟨⟨hX, hB1, hB2, hP⟩, ?_⟩
            refine t_look rfl (look_assign rfl rfl) ?_
            refine t_nil ?_
            exact cut_end (AQ, cQ) ⟨rfl, rfl, rfl, trivial⟩ ⟨hX, hB2, hP, hQ⟩
          · refine s_buildSlice (parts := [(0, .tmp 33)]) (vs := [(0, _)]) (cells := [.string x.seam, .int .i64 0, .int .i64 0, .string ⟨#[]⟩, .string ⟨#[]⟩, .int .i64 0, .int .i64 0, .slice (some ⟨g11, 0, none⟩) 1 1]) Try.underlying34 szTry_49 zeTry_49 rfl rfl ⟨⟨_, rfl, rfl⟩, trivial⟩ rfl (by kernel_rfl) ?_
            intro g16 u16 hu16 hB16 hg16 hs16
            have lt_g1_g16 : g1 < g16 := by have := hB1.lt; omega
            have lt_g2_g16 : g2 < g16 := by have := hB2.lt; omega
            have lt_g11_g16 : g11 < g16 := by have := hB11.lt; omega
            have ne_hP_g16 : (Value.ownBlock (.slice AP (openP sl ws).length cP)) ≠ some g16 := hP.ne_new (by omega)
            have ne_hO_g16 : (Value.ownBlock (.slice (some ⟨g5, 0, none⟩) 0 0)) ≠ some g16 := hO.ne_new (by omega)
            have ge_g16 : w.heap.size ≤ g16 := by have := hX.size; omega
            replace hX := hX.comp hu16
            replace hB1 := hB1.ext hu16
            replace hB2 := hB2.ext hu16
            replace hB11 := hB11.ext hu16
            replace hP := hP.ext hu16
            replace hO := hO.ext hu16
            refine s_nil ?_
            refine then_normal ?_
            refine ⟨⟨hX, hB1, hB2, hP⟩, ?_⟩
            refine t_seq rfl ?_
            have hsz17 := hX.size
            refine s_appendL (ce := wdcell) (news := ws) Try.underlying34 zsbTry_49 rfl rfl rfl hO rfl (Sl.src hce_w oneW (hB.ext hX) hnw) (by simp only [List.length_nil]; omega) (by simp only [List.length_nil]; omega) (by omega) ?_
            intro v17 u17 hN17 hgr17 hat17
            replace hX := hX.grow hO (Nat.le_refl _) hgr17
            have hn_hB1 := hB1.grown hgr17 ne_hO_g1
            have hn_hB2 := hB2.grown hgr17 ne_hO_g2
            have hn_hB11 := hB11.grown hgr17 ne_hO_g11
            have hn_hB16 := hB16.grown hgr17 ne_hO_g16
            replace ne_hO_g1 := ne_app ne_hO_g1 hB1.lt hat17
            replace ne_hO_g2 := ne_app ne_hO_g2 hB2.lt hat17
            replace ne_hO_g11 := ne_app ne_hO_g11 hB11.lt hat17
            replace ne_hO_g16 := ne_app ne_hO_g16 hB16.lt hat17
            clear hB1
            have hB1 := hn_hB1
            clear hn_hB1
            clear hB2
            have hB2 := hn_hB2
            clear hn_hB2
            clear hB11
            have hB11 := hn_hB11
            clear hn_hB11
            clear hB16
            have hB16 := hn_hB16
            clear hn_hB16
            have hn_hP := hP.grown hgr17 (Dis.ne dis_hO_hP)
            replace dis_hO_hP := Dis.app dis_hO_hP (fun k e => (hP.ge e).2) hat17
            clear hP
            have hP := hn_hP
            clear hn_hP
            clear hO
            have hO : Own wdcell 49 8 w.heap.size u17 v17 ws := (by simpa using hN17)
            refine s_nil ?_
            refine then_normal ?_
            refine ⟨⟨hX, hB1, hB2, hP⟩, ?_⟩
            refine t_seq rfl ?_
            have hsz18 := hX.size
            refine s_appendL (ce := wdcell) (news := [nwOf x g11]) Try.underlying34 zsbTry_49 rfl rfl rfl hO rfl (Blk.src (x := nwOf x g11) rfl (oneW _) hB16) (by simp only [List.length_cons, List.length_nil]; omega) (by simp only [List.length_cons, List.length_nil]; omega) (by omega) ?_
            intro v18 u18 hN18 hgr18 hat18
            replace hX := hX.grow hO (Nat.le_refl _) hgr18
            have hn_hB1 := hB1.grown hgr18 ne_hO_g1
            have hn_hB2 := hB2.grown hgr18 ne_hO_g2
            have hn_hB11 := hB11.grown hgr18 ne_hO_g11
            have hn_hB16 := hB16.grown hgr18 ne_hO_g16
            replace ne_hO_g1 := ne_app ne_hO_g1 hB1.lt hat18
            replace ne_hO_g2 := ne_app ne_hO_g2 hB2.lt hat18
            replace ne_hO_g11 := ne_app ne_hO_g11 hB11.lt hat18
            replace ne_hO_g16 := ne_app ne_hO_g16 hB16.lt hat18
            clear hB1
            have hB1 := hn_hB1
            clear hn_hB1
            clear hB2
            have hB2 := hn_hB2
            clear hn_hB2
            clear hB11
            have hB11 := hn_hB11
            clear hn_hB11
            clear hB16
            have hB16 := hn_hB16
            clear hn_hB16
            have hn_hP := hP.grown hgr18 (Dis.ne dis_hO_hP)
            replace dis_hO_hP := Dis.app dis_hO_hP (fun k e => (hP.ge e).2) hat18
            clear hP
            have hP := hn_hP
            clear hn_hP
            clear hO
            have hO : Own wdcell 49 8 w.heap.size u18 v18 (ws ++ [nwOf x g11]) := (by simpa using hN18)
            obtain ⟨AO, cO, rfl, _, _, _, _⟩ := hO.sl hce_w
            refine s_nil ?_
            refine then_normal ?_
            refine ⟨⟨hX, hB1, hB2, hP⟩, ?_⟩
            refine t_seq rfl ?_
            refine s_call (vs := [_, _]) enTry_19 ⟨⟨_, rfl, rfl⟩, ⟨_, rfl, rfl⟩, trivial⟩ (open_any h nd pt sA sl sc pk ne AO (ws ++ [nwOf x g11]) cO _ (hA.ext hX) (by omega) (hO.slOf hce_w).1 (ws_add (hW.ext hX) hB11) (by simp only [List.length_append, List.length_cons, List.length_nil]; omega)) ?_
            rintro _ u19 ⟨v19, rfl, hc19, hQ⟩
            refine ⟨_, rfl, ?_⟩
            have dis_hP_hQ := Own.dis_new hP hQ
            have dis_hO_hQ := Own.dis_new hO hQ
            have ne_hQ_g1 : Value.ownBlock v19 ≠ some g1 := hQ.ne_old hB1.lt
            have ne_hQ_g2 : Value.ownBlock v19 ≠ some g2 := hQ.ne_old hB2.lt
            have ne_hQ_g11 : Value.ownBlock v19 ≠ some g11 := hQ.ne_old hB11.lt
            have ne_hQ_g16 : Value.ownBlock v19 ≠ some g16 := hQ.ne_old hB16.lt
            replace hQ := hQ.weak hX.size
            replace hX := hX.comp hc19
            replace hB1 := hB1.ext hc19
            replace hB2 := hB2.ext hc19
            replace hB11 := hB11.ext hc19
            replace hB16 := hB16.ext hc19
            replace hP := hP.ext hc19
            replace hO := hO.ext hc19
            replace hQ := hQ.as (passes_eq sl ws x _ rfl rfl)
            obtain ⟨AQ, cQ, rfl, _, _, _, _⟩ := hQ.sl hce_t
            refine s_nil ?_
            refine then_normal ?_
            refine ⟨⟨hX, hB1, hB2, hP⟩, ?_⟩
            refine t_look rfl (look_assign rfl rfl) ?_
            refine t_nil ?_
            exact cut_end (AQ, cQ) ⟨rfl, rfl, rfl, trivial⟩ ⟨hX, hB2, hP, hQ⟩
      · refine s_buildSlice (parts := [(0, .tmp 31)]) (vs := [(0, _)]) (cells := [x.m].flatMap icell) Try.underlying23 szTry_3 zeTry_3 rfl rfl ⟨⟨_, rfl, rfl⟩, trivial⟩ rfl (by kernel_rfl) ?_
        intro g20 u20 hu20 hB20 hg20 hs20
        have lt_g1_g20 : g1 < g20 := by have := hB1.lt; omega
        have lt_g2_g20 : g2 < g20 := by have := hB2.lt; omega
        have ne_hP_g20 : (Value.ownBlock (.slice AP (openP sl ws).length cP)) ≠ some g20 := hP.ne_new (by omega)
        have ge_g20 : w.heap.size ≤ g20 := by have := hX.size; omega
        replace hX := hX.comp hu20
        replace hB1 := hB1.ext hu20
        replace hB2 := hB2.ext hu20
        replace hP := hP.ext hu20
        refine s_nil ?_
        refine then_normal ?_
        refine ⟨⟨hX, hB1, hB2, hP⟩, ?_⟩
        refine t_look rfl (look_build (pl := [(0, 1), (1, 1), (2, 1), (3, 1), (4, 1), (5, 1), (6, 1), (7, 1)]) (parts := [(0, .tmp 29), (7, .tmp 32)]) (vs := [(0, _), (7, _)]) (cells := [.string x.seam, .int .i64 0, .int .i64 0, .string ⟨#[]⟩, .string ⟨#[]⟩, .int .i64 0, .int .i64 0, .slice (some ⟨g20, 0, none⟩) 1 1]) Try.underlying49 zeTry_49 (by kernel_rfl) ⟨⟨_, rfl, rfl⟩, ⟨_, rfl, rfl⟩, trivial⟩ rfl (by kernel_rfl)) ?_
        refine t_fork rfl rfl ?_ ?_
        · refine s_buildSlice0 Try.underlying34 szTry_49 ?_
          intro g21 u21 hu21 hB21 hg21 hs21
          have lt_g1_g21 : g1 < g21 := by have := hB1.lt; omega
          have lt_g2_g21 : g2 < g21 := by have := hB2.lt; omega
          have lt_g20_g21 : g20 < g21 := by have := hB20.lt; omega
          have ne_hP_g21 : (Value.ownBlock (.slice AP (openP sl ws).length cP)) ≠ some g21 := hP.ne_new (by omega)
          have ge_g21 : w.heap.size ≤ g21 := by have := hX.size; omega
          replace hX := hX.comp hu21
          replace hB1 := hB1.ext hu21
          replace hB2 := hB2.ext hu21
          replace hB20 := hB20.ext hu21
          replace hP := hP.ext hu21
          have hO := Own.lit (base := w.heap.size) (l := ([] : List Wd)) (ce := wdcell) (size := 8) hB21 rfl rfl rfl ge_g21 (by decide)
          have dis_hO_hP : Dis (.slice (some ⟨g21, 0, none⟩) 0 0) (.slice AP (openP sl ws).length cP) := fun k hk e => by rw [show k = g21 from (Option.some.inj hk).symm] at e; exact ne_hP_g21 e
          have ne_hO_g1 : Value.ownBlock (.slice (some ⟨g21, 0, none⟩) 0 0) ≠ some g1 := by simp [Value.ownBlock]; omega
          have ne_hO_g2 : Value.ownBlock (.slice (some ⟨g21, 0, none⟩) 0 0) ≠ some g2 := by simp [Value.ownBlock]; omega
          have ne_hO_g20 : Value.ownBlock (.slice (some ⟨g21, 0, none⟩) 0 0) ≠ some g20 := by simp [Value.ownBlock]; omega
          refine s_nil ?_
          refine then_normal ?_
          refine ⟨⟨hX, hB1, hB2, hP⟩, ?_⟩
          refine t_fork rfl rfl ?_ ?_
          · have hsz22 := hX.size
            refine s_appendL (ce := wdcell) (news := ws) Try.underlying34 zsbTry_49 rfl rfl rfl hO rfl (Sl.src hce_w oneW (hB.ext hX) hnw) (by simp only [List.length_nil]; omega) (by simp only [List.length_nil]; omega) (by omega) ?_
            intro v22 u22 hN22 hgr22 hat22
            replace hX := hX.grow hO (Nat.le_refl _) hgr22
            have hn_hB1 := hB1.grown hgr22 ne_hO_g1
            have hn_hB2 := hB2.grown hgr22 ne_hO_g2
            have hn_hB20 := hB20.grown hgr22 ne_hO_g20
            replace ne_hO_g1 := ne_app ne_hO_g1 hB1.lt hat22
            replace ne_hO_g2 := ne_app ne_hO_g2 hB2.lt hat22
            replace ne_hO_g20 := ne_app ne_hO_g20 hB20.lt hat22
            clear hB1
            have hB1 := hn_hB1
            clear hn_hB1
            clear hB2
            have hB2 := hn_hB2
            clear hn_hB2
            clear hB20
            have hB20 := hn_hB20
            clear hn_hB20
            have hn_hP := hP.grown hgr22 (Dis.ne dis_hO_hP)
            replace dis_hO_hP := Dis.app dis_hO_hP (fun k e => (hP.ge e).2) hat22
            clear hP
            have hP := hn_hP
            clear hn_hP
            clear hO
            have hO : Own wdcell 49 8 w.heap.size u22 v22 ws := (by simpa using hN22)
            refine s_nil ?_
            refine then_normal ?_
            refine ⟨⟨hX, hB1, hB2, hP⟩, ?_⟩
            refine t_seq rfl ?_
            refine s_buildSlice (parts := [(0, .tmp 33)]) (vs := [(0, _)]) (cells := [.string x.seam, .int .i64 0, .int .i64 0, .string ⟨#[]⟩, .string ⟨#[]⟩, .int .i64 0, .int .i64 0, .slice (some ⟨g20, 0, none⟩) 1 1]) Try.underlying34 szTry_49 zeTry_49 rfl rfl ⟨⟨_, rfl, rfl⟩, trivial⟩ rfl (by kernel_rfl) ?_
            intro g23 u23 hu23 hB23 hg23 hs23
            have lt_g1_g23 : g1 < g23 := by have := hB1.lt; omega
            have lt_g2_g23 : g2 < g23 := by have := hB2.lt; omega
            have lt_g20_g23 : g20 < g23 := by have := hB20.lt; omega
            have ne_hP_g23 : (Value.ownBlock (.slice AP (openP sl ws).length cP)) ≠ some g23 := hP.ne_new (by omega)
            have ne_hO_g23 : (Value.ownBlock v22) ≠ some g23 := hO.ne_new (by omega)
            have ge_g23 : w.heap.size ≤ g23 := by have := hX.size; omega
            replace hX := hX.comp hu23
            replace hB1 := hB1.ext hu23
            replace hB2 := hB2.ext hu23
            replace hB20 := hB20.ext hu23
            replace hP := hP.ext hu23
            replace hO := hO.ext hu23
            refine s_nil ?_
            refine then_normal ?_
            refine ⟨⟨hX, hB1, hB2, hP⟩, ?_⟩
            refine t_seq rfl ?_
            have hsz24 := hX.size
            refine s_appendL (ce := wdcell) (news := [nwOf x g20]) Try.underlying34 zsbTry_49 rfl rfl rfl hO rfl (Blk.src (x := nwOf x g20) rfl (oneW _) hB23) (by simp only [List.length_cons, List.length_nil]; omega) (by simp only [List.length_cons, List.length_nil]; omega) (by omega) ?_
            intro v24 u24 hN24 hgr24 hat24
            replace hX := hX.grow hO (Nat.le_refl _) hgr24
            have hn_hB1 := hB1.grown hgr24 ne_hO_g1
            have hn_hB2 := hB2.grown hgr24 ne_hO_g2
            have hn_hB20 := hB20.grown hgr24 ne_hO_g20
            have hn_hB23 := hB23.grown hgr24 ne_hO_g23
            replace ne_hO_g1 := ne_app ne_hO_g1 hB1.lt hat24
            replace ne_hO_g2 := ne_app ne_hO_g2 hB2.lt hat24
            replace ne_hO_g20 := ne_app ne_hO_g20 hB20.lt hat24
            replace ne_hO_g23 := ne_app ne_hO_g23 hB23.lt hat24
            clear hB1
            have hB1 := hn_hB1
            clear hn_hB1
            clear hB2
            have hB2 := hn_hB2
            clear hn_hB2
            clear hB20
            have hB20 := hn_hB20
            clear hn_hB20
            clear hB23
            have hB23 := hn_hB23
            clear hn_hB23
            have hn_hP := hP.grown hgr24 (Dis.ne dis_hO_hP)
            replace dis_hO_hP := Dis.app dis_hO_hP (fun k e => (hP.ge e).2) hat24
            clear hP
            have hP := hn_hP
            clear hn_hP
            clear hO
            have hO : Own wdcell 49 8 w.heap.size u24 v24 (ws ++ [nwOf x g20]) := (by simpa using hN24)
            obtain ⟨AO, cO, rfl, _, _, _, _⟩ := hO.sl hce_w
            refine s_nil ?_
            refine then_normal ?_
            refine ⟨⟨hX, hB1, hB2, hP⟩, ?_⟩
            refine t_seq rfl ?_
            refine s_call (vs := [_, _]) enTry_19 ⟨⟨_, rfl, rfl⟩, ⟨_, rfl, rfl⟩, trivial⟩ (open_any h nd pt sA sl sc pk ne AO (ws ++ [nwOf x g20]) cO _ (hA.ext hX) (by omega) (hO.slOf hce_w).1 (ws_add (hW.ext hX) hB20) (by simp only [List.length_append, List.length_cons, List.length_nil]; omega)) ?_
            rintro _ u25 ⟨v25, rfl, hc25, hQ⟩
            refine ⟨_, rfl, ?_⟩
            have dis_hP_hQ := Own.dis_new hP hQ
            have dis_hO_hQ := Own.dis_new hO hQ
            have ne_hQ_g1 : Value.ownBlock v25 ≠ some g1 := hQ.ne_old hB1.lt
            have ne_hQ_g2 : Value.ownBlock v25 ≠ some g2 := hQ.ne_old hB2.lt
            have ne_hQ_g20 : Value.ownBlock v25 ≠ some g20 := hQ.ne_old hB20.lt
            have ne_hQ_g23 : Value.ownBlock v25 ≠ some g23 := hQ.ne_old hB23.lt
            replace hQ := hQ.weak hX.size
            replace hX := hX.comp hc25
            replace hB1 := hB1.ext hc25
            replace hB2 := hB2.ext hc25
            replace hB20 := hB20.ext hc25
            replace hB23 := hB23.ext hc25
            replace hP := hP.ext hc25
            replace hO := hO.ext hc25
            replace hQ := hQ.as (passes_eq sl ws x _ rfl rfl)
            obtain ⟨AQ, cQ, rfl, _, _, _, _⟩ := hQ.sl hce_t
            refine s_nil ?_
            refine then_normal ?_
            refine ⟨⟨hX, hB1, hB2, hP⟩, ?_⟩
            refine t_look rfl (look_assign rfl rfl) ?_
            refine t_nil ?_
            exact cut_end (AQ, cQ) ⟨rfl, rfl, rfl, trivial⟩ ⟨hX, hB2, hP, hQ⟩
          · refine s_buildSlice (parts := [(0, .tmp 33)]) (vs := [(0, _)]) (cells := [.string x.seam, .int .i64 0, .int .i64 0, .string ⟨#[]⟩, .string ⟨#[]⟩, .int .i64 0, .int .i64 0, .slice (some ⟨g20, 0, none⟩) 1 1]) Try.underlying34 szTry_49 zeTry_49 rfl rfl ⟨⟨_, rfl, rfl⟩, trivial⟩ rfl (by kernel_rfl) ?_
            intro g26 u26 hu26 hB26 hg26 hs26
            have lt_g1_g26 : g1 < g26 := by have := hB1.lt; omega
            have lt_g2_g26 : g2 < g26 := by have := hB2.lt; omega
            have lt_g20_g26 : g20 < g26 := by have := hB20.lt; omega
            have ne_hP_g26 : (Value.ownBlock (.slice AP (openP sl ws).length cP)) ≠ some g26 := hP.ne_new (by omega)
            have ne_hO_g26 : (Value.ownBlock (.slice (some ⟨g21, 0, none⟩) 0 0)) ≠ some g26 := hO.ne_new (by omega)
            have ge_g26 : w.heap.size ≤ g26 := by have := hX.size; omega
            replace hX := hX.comp hu26
            replace hB1 := hB1.ext hu26
            replace hB2 := hB2.ext hu26
            replace hB20 := hB20.ext hu26
            replace hP := hP.ext hu26
            replace hO := hO.ext hu26
            refine s_nil ?_
            refine then_normal ?_
            refine ⟨⟨hX, hB1, hB2, hP⟩, ?_⟩
            refine t_seq rfl ?_
            have hsz27 := hX.size
            refine s_appendL (ce := wdcell) (news := ws) Try.underlying34 zsbTry_49 rfl rfl rfl hO rfl (Sl.src hce_w oneW (hB.ext hX) hnw) (by simp only [List.length_nil]; omega) (by simp only [List.length_nil]; omega) (by omega) ?_
            intro v27 u27 hN27 hgr27 hat27
            replace hX := hX.grow hO (Nat.le_refl _) hgr27
            have hn_hB1 := hB1.grown hgr27 ne_hO_g1
            have hn_hB2 := hB2.grown hgr27 ne_hO_g2
            have hn_hB20 := hB20.grown hgr27 ne_hO_g20
            have hn_hB26 := hB26.grown hgr27 ne_hO_g26
            replace ne_hO_g1 := ne_app ne_hO_g1 hB1.lt hat27
            replace ne_hO_g2 := ne_app ne_hO_g2 hB2.lt hat27
            replace ne_hO_g20 := ne_app ne_hO_g20 hB20.lt hat27
            replace ne_hO_g26 := ne_app ne_hO_g26 hB26.lt hat27
            clear hB1
            have hB1 := hn_hB1
            clear hn_hB1
            clear hB2
            have hB2 := hn_hB2
            clear hn_hB2
            clear hB20
            have hB20 := hn_hB20
            clear hn_hB20
            clear hB26
            have hB26 := hn_hB26
            clear hn_hB26
            have hn_hP := hP.grown hgr27 (Dis.ne dis_hO_hP)
            replace dis_hO_hP := Dis.app dis_hO_hP (fun k e => (hP.ge e).2) hat27
            clear hP
            have hP := hn_hP
            clear hn_hP
            clear hO
            have hO : Own wdcell 49 8 w.heap.size u27 v27 ws := (by simpa using hN27)
            refine s_nil ?_
            refine then_normal ?_
            refine ⟨⟨hX, hB1, hB2, hP⟩, ?_⟩
            refine t_seq rfl ?_
            have hsz28 := hX.size
            refine s_appendL (ce := wdcell) (news := [nwOf x g20]) Try.underlying34 zsbTry_49 rfl rfl rfl hO rfl (Blk.src (x := nwOf x g20) rfl (oneW _) hB26) (by simp only [List.length_cons, List.length_nil]; omega) (by simp only [List.length_cons, List.length_nil]; omega) (by omega) ?_
            intro v28 u28 hN28 hgr28 hat28
            replace hX := hX.grow hO (Nat.le_refl _) hgr28
            have hn_hB1 := hB1.grown hgr28 ne_hO_g1
            have hn_hB2 := hB2.grown hgr28 ne_hO_g2
            have hn_hB20 := hB20.grown hgr28 ne_hO_g20
            have hn_hB26 := hB26.grown hgr28 ne_hO_g26
            replace ne_hO_g1 := ne_app ne_hO_g1 hB1.lt hat28
            replace ne_hO_g2 := ne_app ne_hO_g2 hB2.lt hat28
            replace ne_hO_g20 := ne_app ne_hO_g20 hB20.lt hat28
            replace ne_hO_g26 := ne_app ne_hO_g26 hB26.lt hat28
            clear hB1
            have hB1 := hn_hB1
            clear hn_hB1
            clear hB2
            have hB2 := hn_hB2
            clear hn_hB2
            clear hB20
            have hB20 := hn_hB20
            clear hn_hB20
            clear hB26
            have hB26 := hn_hB26
            clear hn_hB26
            have hn_hP := hP.grown hgr28 (Dis.ne dis_hO_hP)
            replace dis_hO_hP := Dis.app dis_hO_hP (fun k e => (hP.ge e).2) hat28
            clear hP
            have hP := hn_hP
            clear hn_hP
            clear hO
            have hO : Own wdcell 49 8 w.heap.size u28 v28 (ws ++ [nwOf x g20]) := (by simpa using hN28)
            obtain ⟨AO, cO, rfl, _, _, _, _⟩ := hO.sl hce_w
            refine s_nil ?_
            refine then_normal ?_
            refine ⟨⟨hX, hB1, hB2, hP⟩, ?_⟩
            refine t_seq rfl ?_
            refine s_call (vs := [_, _]) enTry_19 ⟨⟨_, rfl, rfl⟩, ⟨_, rfl, rfl⟩, trivial⟩ (open_any h nd pt sA sl sc pk ne AO (ws ++ [nwOf x g20]) cO _ (hA.ext hX) (by omega) (hO.slOf hce_w).1 (ws_add (hW.ext hX) hB20) (by simp only [List.length_append, List.length_cons, List.length_nil]; omega)) ?_
            rintro _ u29 ⟨v29, rfl, hc29, hQ⟩
            refine ⟨_, rfl, ?_⟩
            have dis_hP_hQ := Own.dis_new hP hQ
            have dis_hO_hQ := Own.dis_new hO hQ
            have ne_hQ_g1 : Value.ownBlock v29 ≠ some g1 := hQ.ne_old hB1.lt
            have ne_hQ_g2 : Value.ownBlock v29 ≠ some g2 := hQ.ne_old hB2.lt
            have ne_hQ_g20 : Value.ownBlock v29 ≠ some g20 := hQ.ne_old hB20.lt
            have ne_hQ_g26 : Value.ownBlock v29 ≠ some g26 := hQ.ne_old hB26.lt
            replace hQ := hQ.weak hX.size
            replace hX := hX.comp hc29
            replace hB1 := hB1.ext hc29
            replace hB2 := hB2.ext hc29
            replace hB20 := hB20.ext hc29
            replace hB26 := hB26.ext hc29
            replace hP := hP.ext hc29
            replace hO := hO.ext hc29
            replace hQ := hQ.as (passes_eq sl ws x _ rfl rfl)
            obtain ⟨AQ, cQ, rfl, _, _, _, _⟩ := hQ.sl hce_t
            refine s_nil ?_
            refine then_normal ?_
            refine ⟨⟨hX, hB1, hB2, hP⟩, ?_⟩
            refine t_look rfl (look_assign rfl rfl) ?_
            refine t_nil ?_
            exact cut_end (AQ, cQ) ⟨rfl, rfl, rfl, trivial⟩ ⟨hX, hB2, hP, hQ⟩
        · refine s_buildSlice (parts := [(0, .tmp 33)]) (vs := [(0, _)]) (cells := [.string x.seam, .int .i64 0, .int .i64 0, .string ⟨#[]⟩, .string ⟨#[]⟩, .int .i64 0, .int .i64 0, .slice (some ⟨g20, 0, none⟩) 1 1]) Try.underlying34 szTry_49 zeTry_49 rfl rfl ⟨⟨_, rfl, rfl⟩, trivial⟩ rfl (by kernel_rfl) ?_
          intro g30 u30 hu30 hB30 hg30 hs30
          have lt_g1_g30 : g1 < g30 := by have := hB1.lt; omega
          have lt_g2_g30 : g2 < g30 := by have := hB2.lt; omega
          have lt_g20_g30 : g20 < g30 := by have := hB20.lt; omega
          have ne_hP_g30 : (Value.ownBlock (.slice AP (openP sl ws).length cP)) ≠ some g30 := hP.ne_new (by omega)
          have ge_g30 : w.heap.size ≤ g30 := by have := hX.size; omega
          replace hX := hX.comp hu30
          replace hB1 := hB1.ext hu30
          replace hB2 := hB2.ext hu30
          replace hB20 := hB20.ext hu30
          replace hP := hP.ext hu30
          refine s_nil ?_
          refine then_normal ?_
          refine ⟨⟨hX, hB1, hB2, hP⟩, ?_⟩
          refine t_seq rfl ?_
          refine s_buildSlice0 Try.underlying34 szTry_49 ?_
          intro g31 u31 hu31 hB31 hg31 hs31
          have lt_g1_g31 : g1 < g31 := by have := hB1.lt; omega
          have lt_g2_g31 : g2 < g31 := by have := hB2.lt; omega
          have lt_g20_g31 : g20 < g31 := by have := hB20.lt; omega
          have lt_g30_g31 : g30 < g31 := by have := hB30.lt; omega
          have ne_hP_g31 : (Value.ownBlock (.slice AP (openP sl ws).length cP)) ≠ some g31 := hP.ne_new (by omega)
          have ge_g31 : w.heap.size ≤ g31 := by have := hX.size; omega
          replace hX := hX.comp hu31
          replace hB1 := hB1.ext hu31
          replace hB2 := hB2.ext hu31
          replace hB20 := hB20.ext hu31
          replace hB30 := hB30.ext hu31
          replace hP := hP.ext hu31
          have hO := Own.lit (base := w.heap.size) (l := ([] : List Wd)) (ce := wdcell) (size := 8) hB31 rfl rfl rfl ge_g31 (by decide)
          have dis_hO_hP : Dis (.slice (some ⟨g31, 0, none⟩) 0 0) (.slice AP (openP sl ws).length cP) := fun k hk e => by rw [show k = g31 from (Option.some.inj hk).symm] at e; exact ne_hP_g31 e
          have ne_hO_g1 : Value.ownBlock (.slice (some ⟨g31, 0, none⟩) 0 0) ≠ some g1 := by simp [Value.ownBlock]; omega
          have ne_hO_g2 : Value.ownBlock (.slice (some ⟨g31, 0, none⟩) 0 0) ≠ some g2 := by simp [Value.ownBlock]; omega
          have ne_hO_g20 : Value.ownBlock (.slice (some ⟨g31, 0, none⟩) 0 0) ≠ some g20 := by simp [Value.ownBlock]; omega
          have ne_hO_g30 : Value.ownBlock (.slice (some ⟨g31, 0, none⟩) 0 0) ≠ some g30 := by simp [Value.ownBlock]; omega
          refine s_nil ?_
          refine then_normal ?_
          refine ⟨⟨hX, hB1, hB2, hP⟩, ?_⟩
          refine t_seq rfl ?_
          have hsz32 := hX.size
          refine s_appendL (ce := wdcell) (news := ws) Try.underlying34 zsbTry_49 rfl rfl rfl hO rfl (Sl.src hce_w oneW (hB.ext hX) hnw) (by simp only [List.length_nil]; omega) (by simp only [List.length_nil]; omega) (by omega) ?_
          intro v32 u32 hN32 hgr32 hat32
          replace hX := hX.grow hO (Nat.le_refl _) hgr32
          have hn_hB1 := hB1.grown hgr32 ne_hO_g1
          have hn_hB2 := hB2.grown hgr32 ne_hO_g2
          have hn_hB20 := hB20.grown hgr32 ne_hO_g20
          have hn_hB30 := hB30.grown hgr32 ne_hO_g30
          replace ne_hO_g1 := ne_app ne_hO_g1 hB1.lt hat32
          replace ne_hO_g2 := ne_app ne_hO_g2 hB2.lt hat32
          replace ne_hO_g20 := ne_app ne_hO_g20 hB20.lt hat32
          replace ne_hO_g30 := ne_app ne_hO_g30 hB30.lt hat32
          clear hB1
          have hB1 := hn_hB1
          clear hn_hB1
          clear hB2
          have hB2 := hn_hB2
          clear hn_hB2
          clear hB20
          have hB20 := hn_hB20
          clear hn_hB20
          clear hB30
          have hB30 := hn_hB30
          clear hn_hB30
          have hn_hP := hP.grown hgr32 (Dis.ne dis_hO_hP)
          replace dis_hO_hP := Dis.app dis_hO_hP (fun k e => (hP.ge e).2) hat32
          clear hP
          have hP := hn_hP
          clear hn_hP
          clear hO
          have hO : Own wdcell 49 8 w.heap.size u32 v32 ws := (by simpa using hN32)
          refine s_nil ?_
          refine then_normal ?_
          refine ⟨⟨hX, hB1, hB2, hP⟩, ?_⟩
          refine t_seq rfl ?_
          have hsz33 := hX.size
          refine s_appendL (ce := wdcell) (news := [nwOf x g20]) Try.underlying34 zsbTry_49 rfl rfl rfl hO rfl (Blk.src (x := nwOf x g20) rfl (oneW _) hB30) (by simp only [List.length_cons, List.length_nil]; omega) (by simp only [List.length_cons, List.length_nil]; omega) (by omega) ?_
          intro v33 u33 hN33 hgr33 hat33
          replace hX := hX.grow hO (Nat.le_refl _) hgr33
          have hn_hB1 := hB1.grown hgr33 ne_hO_g1
          have hn_hB2 := hB2.grown hgr33 ne_hO_g2
          have hn_hB20 := hB20.grown hgr33 ne_hO_g20
          have hn_hB30 := hB30.grown hgr33 ne_hO_g30
          replace ne_hO_g1 := ne_app ne_hO_g1 hB1.lt hat33
          replace ne_hO_g2 := ne_app ne_hO_g2 hB2.lt hat33
          replace ne_hO_g20 := ne_app ne_hO_g20 hB20.lt hat33
          replace ne_hO_g30 := ne_app ne_hO_g30 hB30.lt hat33
          clear hB1
          have hB1 := hn_hB1
          clear hn_hB1
          clear hB2
          have hB2 := hn_hB2
          clear hn_hB2
          clear hB20
          have hB20 := hn_hB20
          clear hn_hB20
          clear hB30
          have hB30 := hn_hB30
          clear hn_hB30
          have hn_hP := hP.grown hgr33 (Dis.ne dis_hO_hP)
          replace dis_hO_hP := Dis.app dis_hO_hP (fun k e => (hP.ge e).2) hat33
          clear hP
          have hP := hn_hP
          clear hn_hP
          clear hO
          have hO : Own wdcell 49 8 w.heap.size u33 v33 (ws ++ [nwOf x g20]) := (by simpa using hN33)
          obtain ⟨AO, cO, rfl, _, _, _, _⟩ := hO.sl hce_w
          refine s_nil ?_
          refine then_normal ?_
          refine ⟨⟨hX, hB1, hB2, hP⟩, ?_⟩
          refine t_seq rfl ?_
          refine s_call (vs := [_, _]) enTry_19 ⟨⟨_, rfl, rfl⟩, ⟨_, rfl, rfl⟩, trivial⟩ (open_any h nd pt sA sl sc pk ne AO (ws ++ [nwOf x g20]) cO _ (hA.ext hX) (by omega) (hO.slOf hce_w).1 (ws_add (hW.ext hX) hB20) (by simp only [List.length_append, List.length_cons, List.length_nil]; omega)) ?_
          rintro _ u34 ⟨v34, rfl, hc34, hQ⟩
          refine ⟨_, rfl, ?_⟩
          have dis_hP_hQ := Own.dis_new hP hQ
          have dis_hO_hQ := Own.dis_new hO hQ
          have ne_hQ_g1 : Value.ownBlock v34 ≠ some g1 := hQ.ne_old hB1.lt
          have ne_hQ_g2 : Value.ownBlock v34 ≠ some g2 := hQ.ne_old hB2.lt
          have ne_hQ_g20 : Value.ownBlock v34 ≠ some g20 := hQ.ne_old hB20.lt
          have ne_hQ_g30 : Value.ownBlock v34 ≠ some g30 := hQ.ne_old hB30.lt
          replace hQ := hQ.weak hX.size
          replace hX := hX.comp hc34
          replace hB1 := hB1.ext hc34
          replace hB2 := hB2.ext hc34
          replace hB20 := hB20.ext hc34
          replace hB30 := hB30.ext hc34
          replace hP := hP.ext hc34
          replace hO := hO.ext hc34
          replace hQ := hQ.as (passes_eq sl ws x _ rfl rfl)
          obtain ⟨AQ, cQ, rfl, _, _, _, _⟩ := hQ.sl hce_t
          refine s_nil ?_
          refine then_normal ?_
          refine ⟨⟨hX, hB1, hB2, hP⟩, ?_⟩
          refine t_look rfl (look_assign rfl rfl) ?_
          refine t_nil ?_
          exact cut_end (AQ, cQ) ⟨rfl, rfl, rfl, trivial⟩ ⟨hX, hB2, hP, hQ⟩
    · rintro ⟨AQ, cQ⟩ σ wr hF
      obtain ⟨hX, hB2, hP, hQ⟩ : Ext w wr ∧ Blk wr g2 52 (tcell x) ∧ Own tcell 52 2 w.heap.size wr (.slice AP (openP sl ws).length cP) (openP sl ws) ∧ Own tcell 52 2 w.heap.size wr (.slice AQ ((openP sl ws).filter fun t => !decide (t = x)).length cQ) ((openP sl ws).filter fun t => !decide (t = x)) := hF
      show Code.wp _ _ _ (act 62 [(5, true, .pointer (some ⟨g2, 0, none⟩)), (7, true, .slice AP (openP sl ws).length cP), (8, true, .slice AQ ((openP sl ws).filter fun t => !decide (t = x)).length cQ)] _) _
      have hrl : ((openP sl ws).filter fun t => !decide (t = x)).length ≤ (openP sl ws).length := List.length_filter_le _ _
      refine wp_seq ?_
      refine region_s ?_
      refine q_look (look_assign rfl rfl) ?_
      refine q_nil ?_
      rintro _ rfl
      refine then_normal ?_
      refine wp_seq ?_
      refine wp_seq ?_
      refine region_s ?_
      refine q_look (look_assign rfl rfl) ?_
      refine q_nil ?_
      rintro _ rfl
      have hO := Own.nil tcell 52 2 w.heap.size wr
      have ne_hO_g2 : Value.ownBlock (.slice none 0 0) ≠ some g2 := by simp [Value.ownBlock]
      have dis_hO_hP : Dis (.slice none 0 0) (.slice AP (openP sl ws).length cP) := fun k h => by simp [Value.ownBlock] at h
      have dis_hO_hQ : Dis (.slice none 0 0) (.slice AQ ((openP sl ws).filter fun t => !decide (t = x)).length cQ) := fun k h => by simp [Value.ownBlock] at h
      refine then_normal ?_
      refine wp_block ?_
      refine loop_act (fun (ls : Nat × Value) => [(5, .pointer (some ⟨g2, 0, none⟩)), (7, .slice AP (openP sl ws).length cP), (8, .slice AQ ((openP sl ws).filter fun t => !decide (t = x)).length cQ), (9, ls.2), (10, .int .i64 (ls.1 : Int))]) (fun ls w' => (Ext w w') ∧ (Blk w' g2 52 (tcell x)) ∧ (Own tcell 52 2 w.heap.size w' ls.2 (((openP sl ws).take ls.1).filter fun t => !decide (t = x))) ∧ (Own tcell 52 2 w.heap.size w' (.slice AP (openP sl ws).length cP) (openP sl ws)) ∧ (Own tcell 52 2 w.heap.size w' (.slice AQ ((openP sl ws).filter fun t => !decide (t = x)).length cQ) ((openP sl ws).filter fun t => !decide (t = x))) ∧ (Value.ownBlock ls.2 ≠ some g2) ∧ (Dis ls.2 (.slice AP (openP sl ws).length cP)) ∧ (Dis ls.2 (.slice AQ ((openP sl ws).filter fun t => !decide (t = x)).length cQ)) ∧ (ls.1 ≤ (openP sl ws).length)) (fun ls => (openP sl ws).length - ls.1) ((0, .slice none 0 0)) ?_ ?_ ?_
      · exact ⟨rfl, rfl, rfl, rfl, rfl, trivial⟩
      · exact ⟨hX, hB2, hO, hP, hQ, ne_hO_g2, dis_hO_hP, dis_hO_hQ, Nat.zero_le _⟩
      · rintro ⟨k, v⟩ σ wr hF
        obtain ⟨hX, hB2, hO, hP, hQ, ne_hO_g2, dis_hO_hP, dis_hO_hQ, hk⟩ : (Ext w wr) ∧ (Blk wr g2 52 (tcell x)) ∧ (Own tcell 52 2 w.heap.size wr v (((openP sl ws).take k).filter fun t => !decide (t = x))) ∧ (Own tcell 52 2 w.heap.size wr (.slice AP (openP sl ws).length cP) (openP sl ws)) ∧ (Own tcell 52 2 w.heap.size wr (.slice AQ ((openP sl ws).filter fun t => !decide (t = x)).length cQ) ((openP sl ws).filter fun t => !decide (t = x))) ∧ (Value.ownBlock v ≠ some g2) ∧ (Dis v (.slice AP (openP sl ws).length cP)) ∧ (Dis v (.slice AQ ((openP sl ws).filter fun t => !decide (t = x)).length cQ)) ∧ (k ≤ (openP sl ws).length) := hF
        show Code.wp _ _ _ (act 62 [(5, true, .pointer (some ⟨g2, 0, none⟩)), (7, true, .slice AP (openP sl ws).length cP), (8, true, .slice AQ ((openP sl ws).filter fun t => !decide (t = x)).length cQ), (9, true, v), (10, true, .int .i64 (k : Int))] _) _
        refine wp_seq ?_
        refine wp_seq ?_
        refine region_s ?_
        refine q_look (look_move rfl rfl) ?_
        refine q_look (look_move rfl rfl) ?_
        refine q_look (look_len_slice Try.underlying37 rfl rfl) ?_
        refine q_look (look_lss rfl rfl rfl rfl) ?_
        refine q_nil ?_
        rintro _ rfl
        refine then_normal ?_
        refine cond_split rfl (fun hc40 => ?_) (fun hc40 => ?_)
        · have hlt : k < (openP sl ws).length := by simp at hc40; omega
          obtain ⟨y, hy⟩ := get_lt hlt
          obtain ⟨b1, o1, rfl, _⟩ := (hP.slOf hce_t).1.at_ hlt
          refine wp_skip ?_
          refine then_normal ?_
          refine wp_seq ?_
          refine wp_block ?_
          refine wp_seq ?_
          refine region_qd mixed (by kernel_rfl) ?_
          refine q_look (look_move rfl rfl) ?_
          refine q_look (look_move rfl rfl) ?_
          refine q_look (look_indexAddr _ Try.underlying37 szTry_52 rfl rfl rfl rfl rfl (by omega)) ?_
          refine q_look (look_loadN Try.underlying52 rfl szTry_52 rfl rfl rfl (cs := tcell y) (extn (hP.rd hce_t k y hy))) ?_
          refine q_look (look_loadN Try.underlying52 rfl szTry_52 rfl rfl rfl (ext_cell_n hB2)) ?_
          refine q_look (look_neq_flat Try.underlying52 stood52 guard52 rfl rfl rfl rfl (eqT _ _)) ?_
          refine q_nil ?_
          intro w3 hw3
          replace hX := hX.comp hw3
          replace hB2 := hB2.ext hw3
          replace hP := hP.ext hw3
          replace hQ := hQ.ext hw3
          replace hO := hO.ext hw3
          refine then_normal ?_
          refine cond_split rfl (fun hc48 => ?_) (fun hc48 => ?_)
          · have hp : ¬ y = x := by simpa using hc48
            refine wp_region_lit ?_
            refine s_look (look_move rfl rfl) ?_
            refine s_look (look_move rfl rfl) ?_
            refine s_look (look_move rfl rfl) ?_
            refine s_look (look_indexAddr _ Try.underlying37 szTry_52 rfl rfl rfl rfl rfl (by omega)) ?_
            refine s_look (look_loadN Try.underlying52 rfl szTry_52 rfl rfl rfl (cs := tcell y) (eqn (hP.rd hce_t k y hy))) ?_
            refine s_buildSlice (parts := [(0, .tmp 53)]) (vs := [(0, _)]) (cells := tcell y) Try.underlying37 szTry_52 zeTry_52 rfl rfl ⟨⟨_, rfl, rfl⟩, trivial⟩ rfl (by kernel_rfl) ?_
            intro g35 u35 hu35 hB35 hg35 hs35
            have lt_g2_g35 : g2 < g35 := by have := hB2.lt; omega
            have ne_hP_g35 : (Value.ownBlock (.slice (some ⟨b1, o1, none⟩) (openP sl ws).length cP)) ≠ some g35 := hP.ne_new (by omega)
            have ne_hQ_g35 : (Value.ownBlock (.slice AQ ((openP sl ws).filter fun t => !decide (t = x)).length cQ)) ≠ some g35 := hQ.ne_new (by omega)
            have ne_hO_g35 : (Value.ownBlock (v)) ≠ some g35 := hO.ne_new (by omega)
            have ge_g35 : w.heap.size ≤ g35 := by have := hX.size; omega
            replace hX := hX.comp hu35
            replace hB2 := hB2.ext hu35
            replace hP := hP.ext hu35
            replace hQ := hQ.ext hu35
            replace hO := hO.ext hu35
            have hsz36 := hX.size
            refine s_appendL (ce := tcell) (news := [y]) Try.underlying37 zsbTry_52 rfl rfl rfl hO rfl (Blk.src (x := y) rfl (by simp [tcell, Value.oneCell']) hB35) (by have h1 := List.length_filter_le (fun t => !decide (t = x)) ((openP sl ws).take k); have h2 := List.length_take_le k (openP sl ws); simp only [List.length_cons, List.length_nil]; omega) (by have h1 := List.length_filter_le (fun t => !decide (t = x)) ((openP sl ws).take k); have h2 := List.length_take_le k (openP sl ws); simp only [List.length_cons, List.length_nil]; omega) (by omega) ?_
            intro v36 u36 hN36 hgr36 hat36
            replace hX := hX.grow hO (Nat.le_refl _) hgr36
            have hn_hB2 := hB2.grown hgr36 ne_hO_g2
            replace ne_hO_g2 := ne_app ne_hO_g2 hB2.lt hat36
            clear hB2
            have hB2 := hn_hB2
            clear hn_hB2
            have hn_hP := hP.grown hgr36 (Dis.ne dis_hO_hP)
            replace dis_hO_hP := Dis.app dis_hO_hP (fun k e => (hP.ge e).2) hat36
            clear hP
            have hP := hn_hP
            clear hn_hP
            have hn_hQ := hQ.grown hgr36 (Dis.ne dis_hO_hQ)
            replace dis_hO_hQ := Dis.app dis_hO_hQ (fun k e => (hQ.ge e).2) hat36
            clear hQ
            have hQ := hn_hQ
            clear hn_hQ
            clear hO
            have hO := hN36
            refine s_look (look_assign rfl rfl) ?_
            refine s_nil ?_
            refine inB_normal ?_
            refine then_normal ?_
            refine region_s ?_
            refine q_look (look_move rfl rfl) ?_
            refine q_look (look_add rfl rfl rfl rfl (by unfold I64; omega)) ?_
            refine q_look (look_assign rfl rfl) ?_
            refine q_nil ?_
            rintro _ rfl
            exact loop_end ((k + 1, v36)) (by simp only []; omega) ⟨rfl, rfl, rfl, rfl, rfl, trivial⟩ ⟨hX, hB2, hO.as (by show _ = ((openP sl ws).take (k + 1)).filter _; rw [filter_take hy]; simp [hp]), hP, hQ, ne_hO_g2, dis_hO_hP, dis_hO_hQ, by show k + 1 ≤ (openP sl ws).length; omega⟩
          · have hp : y = x := by simpa using hc48
            refine wp_skip ?_
            refine inB_normal ?_
            refine then_normal ?_
            refine region_s ?_
            refine q_look (look_move rfl rfl) ?_
            refine q_look (look_add rfl rfl rfl rfl (by unfold I64; omega)) ?_
            refine q_look (look_assign rfl rfl) ?_
            refine q_nil ?_
            rintro _ rfl
            exact loop_end ((k + 1, v)) (by simp only []; omega) ⟨rfl, rfl, rfl, rfl, rfl, trivial⟩ ⟨hX, hB2, hO.as (by show _ = ((openP sl ws).take (k + 1)).filter _; rw [filter_take hy]; simp [hp]), hP, hQ, ne_hO_g2, dis_hO_hP, dis_hO_hQ, by show k + 1 ≤ (openP sl ws).length; omega⟩
        · have hge : ¬ k < (openP sl ws).length := by simp at hc40; omega
          rw [show (openP sl ws).take k = openP sl ws from List.take_of_length_le (by omega)] at hO
          refine wp_exit ?_
          refine then_exit ?_
          refine then_exit ?_
          refine inB_exit_same ?_
          refine then_normal ?_
          refine wp_seq ?_
          obtain ⟨AR, cR, rfl, _, _, _, _⟩ := hO.sl hce_t
          refine wp_region_lit ?_
          refine s_look (look_move rfl rfl) ?_
          refine s_look (look_move rfl rfl) ?_
          refine s_call (vs := [_, _]) enTry_16 ⟨⟨_, rfl, rfl⟩, ⟨_, rfl, rfl⟩, trivial⟩ (call_true (sametasks_any _ _ AQ AR cQ cR _ (hQ.slOf hce_t).1 (hO.slOf hce_t).1 (by omega)) (by simp)) ?_
          rintro _ u37 ⟨rfl, hc37⟩
          refine ⟨_, rfl, ?_⟩
          replace hX := hX.comp hc37
          replace hB2 := hB2.ext hc37
          replace hP := hP.ext hc37
          replace hQ := hQ.ext hc37
          replace hO := hO.ext hc37
          refine s_look (look_move rfl rfl) ?_
          refine s_want rfl rfl rfl rfl ?_
          refine s_call (vs := []) enTry_14 trivial (awake_any _) ?_
          rintro _ u38 ⟨rfl, hc38⟩
          refine ⟨_, rfl, ?_⟩
          replace hX := hX.comp hc38
          replace hB2 := hB2.ext hc38
          replace hP := hP.ext hc38
          replace hQ := hQ.ext hc38
          replace hO := hO.ext hc38
          refine s_look (look_and2 rfl rfl rfl rfl) ?_
          refine s_look (look_assign rfl rfl) ?_
          refine s_nil ?_
          refine then_normal ?_
          refine wp_ret ?_
          exact res1 Try.results8 rfl ⟨rfl, hX⟩

end Go.Proofs.Ytobgfnlfbjodjaa
