/- The walks of chapter 35 (inspect), ninth part: all open, none open. -/
import Derived.Test.YtobgfnlfbjodjaaG
namespace Go.Proofs.Ytobgfnlfbjodjaa
open Go Go.RowKit Core
set_option linter.unusedVariables false
set_option linter.unusedSimpArgs false
attribute [local irreducible] wpQuiet wpList wpH Code.wp Calls bodyPost act


/-- The welds' lists read as they stand, apart from the welds' own row. -/
def WOwn (w : World) (v : Value) (l : List Wd) : Prop := ∀ x ∈ l, WOk w x ∧ ∀ b o, x.pA = some ⟨b, o, none⟩ → v.ownBlock ≠ some b ∧ b < w.heap.size
theorem WOwn.ext {w w' : World} {v : Value} {l : List Wd} (h : WOwn w v l) (e : Ext w w') : WOwn w' v l :=
  fun x hx => ⟨(h x hx).1.ext e, fun b o hb => ⟨((h x hx).2 b o hb).1, Nat.lt_of_lt_of_le ((h x hx).2 b o hb).2 e.size⟩⟩
theorem sl_grown {w w' : World} {v : Value} {A : Option Addr} {l : List Int} (h : Sl icell 1 w A l) (hg : w.grownBy w' v.ownBlock) (hne : ∀ b o, A = some ⟨b, o, none⟩ → v.ownBlock ≠ some b) : Sl icell 1 w' A l := by
  rcases h with h | ⟨b, o, rfl, h2⟩
  · exact .inl h
  · exact .inr ⟨b, o, rfl, fun i x hx j u hu => hg.cell (h2 i x hx j u hu) (fun e => hne b o rfl e.symm)⟩
theorem WOwn.app {w w' : World} {v v' : Value} {l : List Wd} (h : WOwn w v l) (hg : w.grownBy w' v.ownBlock) (hat : v'.ownBlock = v.ownBlock ∨ v'.ownBlock = some w.heap.size) : WOwn w' v' l :=
  fun x hx => ⟨⟨sl_grown (h x hx).1.1 hg (fun b o hb => ((h x hx).2 b o hb).1), (h x hx).1.2⟩, fun b o hb => ⟨ne_app ((h x hx).2 b o hb).1 ((h x hx).2 b o hb).2 hat, Nat.lt_of_lt_of_le ((h x hx).2 b o hb).2 hg.size⟩⟩
theorem WOwn.add {w : World} {v : Value} {l : List Wd} {x : Wd} {e base : Nat} (h : WOwn w v l) (hM : Own icell e 1 base w (.slice x.pA x.pl.length x.pc) x.pl) (hd : Dis v (.slice x.pA x.pl.length x.pc)) : WOwn w v (l ++ [x]) := by
  intro y hy
  rcases List.mem_append.1 hy with hy | hy
  · exact h y hy
  · rw [List.mem_singleton.1 hy]
    have hs := hM.slOf hce_i
    exact ⟨⟨hs.1, by omega⟩, fun b o hb => ⟨fun e => hd b e (by rw [hb]; rfl), (hM.ge (k := b) (by rw [hb]; rfl)).2⟩⟩
theorem WOwn.ok {w : World} {v : Value} {l : List Wd} (h : WOwn w v l) : WsOk w l := fun x hx => (h x hx).1
def prS (s : Sm) : ByteArray × List Int := (s.id, methodsP s.kind s.cls)
def prW (x : Wd) : ByteArray × List Int := (x.seam, x.pl)
def wdOf (s : Sm) (A : Option Addr) (c : Nat) : Wd := ⟨s.id, 0, 0, ⟨#[]⟩, ⟨#[]⟩, 0, 0, A, methodsP s.kind s.cls, c⟩
theorem methods_in (k c : Int) : ∀ m ∈ methodsP k c, 1 ≤ m ∧ m ≤ 5 := by
  unfold methodsP
  (repeat' split) <;> simp
theorem methods_asc (k c : Int) (j : Nat) (a b : Int) (h0 : 0 < j) (ha : (methodsP k c)[j - 1]? = some a) (hb : (methodsP k c)[j]? = some b) : a < b := by
  obtain ⟨i, rfl⟩ : ∃ i, j = i + 1 := ⟨j - 1, by omega⟩
  rw [Nat.add_sub_cancel] at ha
  revert ha hb
  unfold methodsP
  (repeat' split) <;> intro ha hb <;> (match i, ha, hb with
    | 0, ha, hb => simp at ha hb <;> omega
    | 1, ha, hb => simp at ha hb <;> omega
    | i + 2, ha, hb => simp at hb)
theorem open_none (l : List Sm) : openP l [] = tasksP l := by
  unfold openP
  rw [List.filter_eq_self]
  intro t _; rfl
theorem open_all {l : List Sm} {ws : List Wd} (h : ws.map prW = l.map prS) : openP l ws = [] := by
  unfold openP
  rw [List.filter_eq_nil_iff]
  intro t ht
  obtain ⟨s, hs, hm⟩ := List.mem_flatMap.1 ht
  obtain ⟨m, hm2, rfl⟩ := List.mem_map.1 hm
  have h1 : prS s ∈ ws.map prW := by rw [h]; exact List.mem_map_of_mem hs
  obtain ⟨x, hx, he⟩ := List.mem_map.1 h1
  simp only [prW, prS, Prod.mk.injEq] at he
  have : passedP ws (mkT s m) = true := by
    unfold passedP
    rw [List.any_eq_true]
    refine ⟨x, hx, ?_⟩
    show (decide (x.seam = s.id) && decide (m ∈ x.pl)) = true
    rw [he.2, Bool.and_eq_true, decide_eq_true_eq, decide_eq_true_eq]
    exact ⟨he.1, hm2⟩
  simp [this]

set_option maxHeartbeats 1000000 in
theorem all_law (h nd pt : Value) (sA : Option Addr) (sl : List Sm) (sc : Nat) (pk ne : Value) (w : World) (hA : Sl smcell 6 w sA sl) :
    Calls Try.prog 7 #[.agg #[h, nd, pt, .slice sA sl.length sc, pk, ne]] w fun e w' => e = .returned (.bool (true)) ∧ Ext w w' := by
  refine calls_act Try.func7 rfl Try.ntmps7 rfl rfl ?_
  show Code.wp _ _ _ (act 104 [(0, true, .agg #[h, nd, pt, .slice sA sl.length sc, pk, ne])] _) _
  have hX : Ext w w := Ext.rfl' w
  refine wp_seq ?_
  refine wp_region_lit ?_
  refine s_box rfl ?_
  intro g1 u1 hu1 hB1 hg1 hs1
  replace hB1 : Blk u1 g1 33 (dL h nd pt sA sl sc pk ne) := hB1
  have ge_g1 : w.heap.size ≤ g1 := by have := hX.size; omega
  replace hX := hX.comp hu1
  refine s_look (look_assign rfl rfl) ?_
  refine s_nil ?_
  refine then_normal ?_
  refine wp_seq ?_
  refine wp_seq ?_
  refine region_q ?_
  refine q_look (look_loadN Try.underlying33 rfl szTry_33 rfl rfl rfl (ext_cell_n hB1)) ?_
  refine q_call (vs := [_, _]) enTry_15 ⟨⟨_, rfl, rfl⟩, ⟨_, rfl, rfl⟩, trivial⟩ (fun wc hw => cext hw (few_any h nd pt sA sl sc pk ne none [] 0 wc (.inl rfl))) ?_
  refine q_look (look_not rfl rfl) ?_
  refine q_nil ?_
  intro w1 hw1
  replace hX := hX.comp hw1
  replace hB1 := hB1.ext hw1
  refine then_normal ?_
  refine cond_split rfl (fun hc11 => ?_) (fun hc11 => ?_)
  · skip
    refine wp_seq ?_
    refine region_q ?_
    refine q_call (vs := []) enTry_14 trivial (fun wc hw => cext hw (awake_any wc)) ?_
    refine q_look (look_assign rfl rfl) ?_
    refine q_nil ?_
    intro w2 hw2
    replace hX := hX.comp hw2
    replace hB1 := hB1.ext hw2
    refine then_normal ?_
    refine wp_ret ?_
    refine then_ret ?_
    exact res1 Try.results7 rfl ⟨rfl, hX⟩
  · have hf : fewP sl [] = true := by simpa using hc11
    simp only [fewP, Bool.and_eq_true, decide_eq_true_eq] at hf
    have hmx0 := maxLen_is
    refine wp_skip ?_
    refine then_normal ?_
    refine wp_seq ?_
    refine region_s ?_
    refine q_look (look_assign rfl rfl) ?_
    refine q_nil ?_
    rintro _ rfl
    refine then_normal ?_
    refine wp_seq ?_
    refine region_s ?_
    refine q_look (look_assign rfl rfl) ?_
    refine q_nil ?_
    rintro _ rfl
    have hO := Own.nil wdcell 49 8 w.heap.size w1
    have ne_hO_g1 : Value.ownBlock (.slice none 0 0) ≠ some g1 := by simp [Value.ownBlock]
    have hW : WOwn w1 (.slice none 0 0) [] := fun x hx => by simp at hx
    refine then_normal ?_
    refine wp_seq ?_
    refine wp_seq ?_
    refine region_s ?_
    refine q_look (look_assign rfl rfl) ?_
    refine q_nil ?_
    rintro _ rfl
    refine then_normal ?_
    refine wp_block ?_
    refine loop_act (fun (ls : Nat × Value × List Wd) => [(1, .pointer (some ⟨g1, 0, none⟩)), (3, ls.2.1), (4, .int .i64 ((tasksP (sl.take ls.1)).length : Int)), (5, .int .i64 (ls.1 : Int))]) (fun ls w' => (Ext w w') ∧ (Blk w' g1 33 (dL h nd pt sA sl sc pk ne)) ∧ (Own wdcell 49 8 w.heap.size w' ls.2.1 ls.2.2) ∧ (Value.ownBlock ls.2.1 ≠ some g1) ∧ (WOwn w' ls.2.1 ls.2.2) ∧ (ls.1 ≤ sl.length) ∧ (ls.2.2.map prW = (sl.take ls.1).map prS)) (fun ls => sl.length - ls.1) ((0, .slice none 0 0, [])) ?_ ?_ ?_
    · exact ⟨rfl, rfl, rfl, rfl, trivial⟩
    · exact ⟨hX, hB1, hO, ne_hO_g1, hW, Nat.zero_le _, rfl⟩
    · rintro ⟨k, v, q⟩ σ wr hF
      obtain ⟨hX, hB1, hO, ne_hO_g1, hW, hk, hq⟩ : (Ext w wr) ∧ (Blk wr g1 33 (dL h nd pt sA sl sc pk ne)) ∧ (Own wdcell 49 8 w.heap.size wr v q) ∧ (Value.ownBlock v ≠ some g1) ∧ (WOwn wr v q) ∧ (k ≤ sl.length) ∧ (q.map prW = (sl.take k).map prS) := hF
      have hql : q.length = k := by have := congrArg List.length hq; simp at this; omega
      have htl := tasks_len (sl.take k)
      rw [List.length_take] at htl
      show Code.wp _ _ _ (act 104 [(1, true, .pointer (some ⟨g1, 0, none⟩)), (3, true, v), (4, true, .int .i64 ((tasksP (sl.take k)).length : Int)), (5, true, .int .i64 (k : Int))] _) _
      refine wp_seq ?_
      refine wp_seq ?_
      refine region_s ?_
      refine q_look (look_move rfl rfl) ?_
      refine q_look (look_fieldAddr Try.underlying33 rfl (fun _ _ => rfl) rfl rfl) ?_
      refine q_look (look_load1 Try.underlying29 rfl rfl rfl (eqc (hB1.cell rfl))) ?_
      refine q_look (look_len_slice Try.underlying29 rfl rfl) ?_
      refine q_look (look_lss rfl rfl rfl rfl) ?_
      refine q_nil ?_
      rintro _ rfl
      refine then_normal ?_
      refine cond_split rfl (fun hc17 => ?_) (fun hc17 => ?_)
      · have hlt : k < sl.length := by simp at hc17; omega
        obtain ⟨y, hy⟩ := get_lt hlt
        obtain ⟨b1, o1, rfl, _⟩ := (hA.ext hX).at_ hlt
        refine wp_skip ?_
        refine then_normal ?_
        refine wp_seq ?_
        refine wp_block ?_
        refine wp_seq ?_
        refine region_h (fun W => Ext w W ∧ Blk W g1 33 (dL h nd pt (some ⟨b1, o1, none⟩) sl sc pk ne) ∧ Own wdcell 49 8 w.heap.size W (v) (q) ∧ WOwn W v q) [(0, true), (1, true), (2, true), (3, true), (4, true), (5, true), (6, true), (7, true), (8, true), (9, true), (10, true), (11, true), (12, false), (13, true)] mixed (by kernel_rfl) rfl (by kernel_rfl) (by repeat (first | exact pk_body | refine pk_then ?_ | refine pk_block ?_)) ?_
        intro u2 hR2
        replace hX := hX.comp hR2
        replace hB1 := hB1.ext hR2
        replace hO := hO.ext hR2
        replace hW := hW.ext hR2
        refine ⟨⟨hX, hB1, hO, hW⟩, ?_⟩
        refine h_look rfl (look_fieldAddr Try.underlying33 rfl (fun _ _ => rfl) rfl rfl) ?_
        refine h_look rfl (look_load1 Try.underlying29 rfl rfl rfl (fun w' hS => (hS.2.1).cell rfl)) ?_
        refine h_look rfl (look_move rfl rfl) ?_
        refine h_look rfl (look_indexAddr _ Try.underlying29 szTry_47 rfl rfl rfl rfl rfl (by omega)) ?_
        refine h_look rfl (look_fieldAddr Try.underlying47 rfl (fun _ _ => rfl) rfl rfl) ?_
        refine h_look rfl (look_load1 Try.underlying3 rfl rfl rfl (fun w' hS => ((hA.ext hS.1).rd k y hy) _ _ rfl)) ?_
        refine h_look rfl (look_fieldAddr Try.underlying33 rfl (fun _ _ => rfl) rfl rfl) ?_
        refine h_look rfl (look_load1 Try.underlying29 rfl rfl rfl (fun w' hS => (hS.2.1).cell rfl)) ?_
        refine h_look rfl (look_move rfl rfl) ?_
        refine h_look rfl (look_indexAddr _ Try.underlying29 szTry_47 rfl rfl rfl rfl rfl (by omega)) ?_
        refine h_look rfl (look_fieldAddr Try.underlying47 rfl (fun _ _ => rfl) rfl rfl) ?_
        refine h_look rfl (look_load1 Try.underlying3 rfl rfl rfl (fun w' hS => ((hA.ext hS.1).rd k y hy) _ _ rfl)) ?_
        refine h_seq rfl ?_ ⟨hX, hB1, hO, hW⟩
        refine s_call (vs := [_, _]) enTry_12 ⟨⟨_, rfl, rfl⟩, ⟨_, rfl, rfl⟩, trivial⟩ (methods_any y.kind y.cls _) ?_
        rintro _ u3 ⟨v3, rfl, hc3, hM⟩
        refine ⟨_, rfl, ?_⟩
        have dis_hO_hM := Own.dis_new hO hM
        have ne_hM_g1 : Value.ownBlock v3 ≠ some g1 := hM.ne_old hB1.lt
        replace hM := hM.weak hX.size
        replace hX := hX.comp hc3
        replace hB1 := hB1.ext hc3
        replace hO := hO.ext hc3
        replace hW := hW.ext hc3
        have hml := methods_len y.kind y.cls
        obtain ⟨Am, cm, rfl, _, _, _, _⟩ := hM.sl hce_i
        refine s_nil ?_
        refine then_normal ?_
        refine ⟨⟨hX, hB1, hO, hW⟩, ?_⟩
        refine h_look rfl (look_assign rfl rfl) ?_
        refine h_nil ?_
        refine then_normal ?_
        refine wp_seq ?_
        refine wp_region_lit ?_
        refine s_look (look_move rfl rfl) ?_
        refine s_look (look_fieldAddr Try.underlying33 rfl (fun _ _ => rfl) rfl rfl) ?_
        refine s_look (look_load1 Try.underlying29 rfl rfl rfl (eqc (hB1.cell rfl))) ?_
        refine s_look (look_move rfl rfl) ?_
        refine s_look (look_indexAddr _ Try.underlying29 szTry_47 rfl rfl rfl rfl rfl (by omega)) ?_
        refine s_look (look_fieldAddr Try.underlying47 rfl (fun _ _ => rfl) rfl rfl) ?_
        refine s_look (look_load1 Try.underlying9 rfl rfl rfl (eqc (((hA.ext hX).rd k y hy) _ _ rfl))) ?_
        refine s_look (look_move rfl rfl) ?_
        refine s_look (look_build (pl := [(0, 1), (1, 1), (2, 1), (3, 1), (4, 1), (5, 1), (6, 1), (7, 1)]) (parts := [(0, .tmp 39), (7, .tmp 40)]) (vs := [(0, _), (7, _)]) (cells := [.string y.id, .int .i64 0, .int .i64 0, .string ⟨#[]⟩, .string ⟨#[]⟩, .int .i64 0, .int .i64 0, .slice Am (methodsP y.kind y.cls).length cm]) Try.underlying49 zeTry_49 (by kernel_rfl) ⟨⟨_, rfl, rfl⟩, ⟨_, rfl, rfl⟩, trivial⟩ rfl (by kernel_rfl)) ?_
        refine s_buildSlice (parts := [(0, .tmp 41)]) (vs := [(0, _)]) (cells := [.string y.id, .int .i64 0, .int .i64 0, .string ⟨#[]⟩, .string ⟨#[]⟩, .int .i64 0, .int .i64 0, .slice Am (methodsP y.kind y.cls).length cm]) Try.underlying34 szTry_49 zeTry_49 rfl rfl ⟨⟨_, rfl, rfl⟩, trivial⟩ rfl (by kernel_rfl) ?_
        intro g4 u4 hu4 hB4 hg4 hs4
        have lt_g1_g4 : g1 < g4 := by have := hB1.lt; omega
        have ne_hO_g4 : (Value.ownBlock (v)) ≠ some g4 := hO.ne_new (by omega)
        have ne_hM_g4 : (Value.ownBlock (.slice Am (methodsP y.kind y.cls).length cm)) ≠ some g4 := hM.ne_new (by omega)
        have ge_g4 : w.heap.size ≤ g4 := by have := hX.size; omega
        replace hX := hX.comp hu4
        replace hB1 := hB1.ext hu4
        replace hO := hO.ext hu4
        replace hM := hM.ext hu4
        replace hW := hW.ext hu4
        have hsz5 := hX.size
        refine s_appendL (ce := wdcell) (news := [wdOf y Am cm]) Try.underlying34 zsbTry_49 rfl rfl rfl hO rfl (Blk.src (x := wdOf y Am cm) rfl (by simp [wdcell, wdOf, Value.oneCell']) hB4) (by simp only [List.length_cons, List.length_nil]; rw [maxLen_is]; omega) (by simp only [List.length_cons, List.length_nil]; omega) (by omega) ?_
        intro v5 u5 hN5 hgr5 hat5
        replace hX := hX.grow hO (Nat.le_refl _) hgr5
        have hn_hB1 := hB1.grown hgr5 ne_hO_g1
        replace ne_hO_g1 := ne_app ne_hO_g1 hB1.lt hat5
        clear hB1
        have hB1 := hn_hB1
        clear hn_hB1
        have hn_hM := hM.grown hgr5 (Dis.ne dis_hO_hM)
        replace dis_hO_hM := Dis.app dis_hO_hM (fun k e => (hM.ge e).2) hat5
        clear hM
        have hM := hn_hM
        clear hn_hM
        clear hO
        have hO := hN5
        replace hW := (hW.app hgr5 hat5).add (x := wdOf y Am cm) hM dis_hO_hM
        refine s_look (look_assign rfl rfl) ?_
        refine s_nil ?_
        refine then_normal ?_
        refine wp_seq ?_
        refine region_s ?_
        refine q_look (look_move rfl rfl) ?_
        refine q_look (look_move rfl rfl) ?_
        refine q_look (look_len_slice Try.underlying23 rfl rfl) ?_
        refine q_look (look_add rfl rfl rfl rfl (by unfold I64; omega)) ?_
        refine q_look (look_assign rfl rfl) ?_
        refine q_nil ?_
        rintro _ rfl
        refine then_normal ?_
        refine wp_seq ?_
        refine region_s ?_
        refine q_look (look_assign rfl rfl) ?_
        refine q_nil ?_
        rintro _ rfl
        refine then_normal ?_
        refine wp_block ?_
        refine loop_act (fun (j : Nat) => [(1, .pointer (some ⟨g1, 0, none⟩)), (3, v5), (4, .int .i64 (((tasksP (sl.take k)).length : Int) + ((methodsP y.kind y.cls).length : Int))), (5, .int .i64 (k : Int)), (6, .slice Am (methodsP y.kind y.cls).length cm), (7, .int .i64 (j : Int))]) (fun j w' => (Ext w w') ∧ (Blk w' g1 33 (dL h nd pt (some ⟨b1, o1, none⟩) sl sc pk ne)) ∧ (Own wdcell 49 8 w.heap.size w' (v5) ((q ++ [wdOf y Am cm]))) ∧ (Own icell 3 1 w.heap.size w' (.slice Am (methodsP y.kind y.cls).length cm) (methodsP y.kind y.cls)) ∧ (WOwn w' (v5) ((q ++ [wdOf y Am cm]))) ∧ (j ≤ (methodsP y.kind y.cls).length)) (fun j => (methodsP y.kind y.cls).length - j) (0) ?_ ?_ ?_
        · exact ⟨rfl, rfl, rfl, rfl, rfl, rfl, trivial⟩
        · exact ⟨hX, hB1, hO, hM, hW, Nat.zero_le _⟩
        · rintro j σ wr hF
          obtain ⟨hX, hB1, hO, hM, hW, hj⟩ : (Ext w wr) ∧ (Blk wr g1 33 (dL h nd pt (some ⟨b1, o1, none⟩) sl sc pk ne)) ∧ (Own wdcell 49 8 w.heap.size wr (v5) ((q ++ [wdOf y Am cm]))) ∧ (Own icell 3 1 w.heap.size wr (.slice Am (methodsP y.kind y.cls).length cm) (methodsP y.kind y.cls)) ∧ (WOwn wr (v5) ((q ++ [wdOf y Am cm]))) ∧ (j ≤ (methodsP y.kind y.cls).length) := hF
          show Code.wp _ _ _ (act 104 [(1, true, .pointer (some ⟨g1, 0, none⟩)), (3, true, v5), (4, true, .int .i64 (((tasksP (sl.take k)).length : Int) + ((methodsP y.kind y.cls).length : Int))), (5, true, .int .i64 (k : Int)), (6, true, .slice Am (methodsP y.kind y.cls).length cm), (7, true, .int .i64 (j : Int))] _) _
          refine wp_seq ?_
          refine wp_seq ?_
          refine region_s ?_
          refine q_look (look_move rfl rfl) ?_
          refine q_look (look_move rfl rfl) ?_
          refine q_look (look_len_slice Try.underlying23 rfl rfl) ?_
          refine q_look (look_lss rfl rfl rfl rfl) ?_
          refine q_nil ?_
          rintro _ rfl
          refine then_normal ?_
          refine cond_split rfl (fun hc51 => ?_) (fun hc51 => ?_)
          · have hlj : j < (methodsP y.kind y.cls).length := by simp at hc51; omega
            obtain ⟨m, hm⟩ := get_lt hlj
            obtain ⟨m0, hm0⟩ : ∃ m0, 0 < j → (methodsP y.kind y.cls)[j - 1]? = some m0 := by
              obtain ⟨m0, h⟩ := get_lt (show j - 1 < (methodsP y.kind y.cls).length by omega)
              exact ⟨m0, fun _ => h⟩
            obtain ⟨b2, o2, rfl, _⟩ := (hM.slOf hce_i).1.at_ hlj
            have hmi := methods_in y.kind y.cls m (List.mem_of_getElem? hm)
            refine wp_skip ?_
            refine then_normal ?_
            refine wp_seq ?_
            refine wp_block ?_
            refine wp_seq ?_
            refine region_qd mixed (by kernel_rfl) ?_
            refine q_look (look_move rfl rfl) ?_
            refine q_look (look_move rfl rfl) ?_
            refine q_look (look_indexAddr _ Try.underlying23 szTry_3 rfl rfl rfl rfl rfl (by omega)) ?_
            refine q_look (look_load1 Try.underlying3 rfl rfl rfl (ext_cell ((hM.rd hce_i j m hm) 0 _ rfl))) ?_
            refine q_look (look_lss rfl rfl rfl rfl) ?_
            refine q_look (look_move rfl rfl) ?_
            refine q_lookg rfl rfl rfl (fun hq => look_move rfl rfl) ?_
            refine q_lookg rfl rfl rfl (fun hq => look_move rfl rfl) ?_
            refine q_lookg rfl rfl rfl (fun hq => look_indexAddr _ Try.underlying23 szTry_3 rfl hq rfl hq rfl (by omega)) ?_
            refine q_lookg rfl rfl rfl (fun hq => look_load1 Try.underlying3 rfl rfl hq (ext_cell ((hM.rd hce_i j m hm) 0 _ rfl))) ?_
            refine q_lookg rfl rfl rfl (fun hq => look_gtr rfl hq rfl rfl) ?_
            refine q_look (look_or rfl rfl rfl rfl) ?_
            refine q_look (look_move rfl rfl) ?_
            refine q_lookg rfl rfl rfl (fun hq => look_move rfl rfl) ?_
            refine q_lookg rfl rfl rfl (fun hq => look_gtr rfl hq rfl rfl) ?_
            refine q_lookg rfl rfl rfl (fun hq => look_move rfl hq) ?_
            refine q_lookg rfl rfl rfl (fun hq => look_move rfl rfl) ?_
            refine q_lookg rfl rfl rfl (fun hq => look_move rfl rfl) ?_
            refine q_lookg rfl rfl rfl (fun hq => look_indexAddr _ Try.underlying23 szTry_3 rfl hq rfl hq rfl (by omega)) ?_
            refine q_lookg rfl rfl rfl (fun hq => look_load1 Try.underlying3 rfl rfl hq (ext_cell ((hM.rd hce_i j m hm) 0 _ rfl))) ?_
            refine q_lookg rfl rfl rfl (fun hq => look_move rfl rfl) ?_
            refine q_lookg rfl rfl rfl (fun hq => look_move rfl rfl) ?_
            refine q_lookg rfl rfl rfl (fun hq => look_sub rfl hq rfl rfl (by unfold I64; omega)) ?_
            refine q_lookg rfl rfl rfl (fun hq => look_indexAddr (j - 1) Try.underlying23 szTry_3 rfl hq rfl hq (by have h0 := of_decide_eq_true (gqR hq); omega) (by omega)) ?_
            refine q_lookg rfl rfl rfl (fun hq => look_load1 Try.underlying3 rfl rfl hq (ext_cell ((hM.rd hce_i (j - 1) m0 (hm0 (by have h0 := of_decide_eq_true (gqR hq); omega))) 0 _ rfl))) ?_
            refine q_lookg rfl rfl rfl (fun hq => look_leq rfl hq rfl hq) ?_
            refine q_lookg rfl rfl rfl (fun hq => look_and rfl hq rfl hq) ?_
            refine q_look (look_or rfl rfl rfl rfl) ?_
            refine q_nil ?_
            intro w3 hw3
            replace hX := hX.comp hw3
            replace hB1 := hB1.ext hw3
            replace hO := hO.ext hw3
            replace hM := hM.ext hw3
            replace hW := hW.ext hw3
            refine then_normal ?_
            refine cond_false rfl (by
                rw [Bool.or_eq_false_iff, Bool.or_eq_false_iff]
                refine ⟨⟨decide_eq_false (by omega), decide_eq_false (by omega)⟩, ?_⟩
                by_cases h0 : 0 < j
                · have := methods_asc y.kind y.cls j m0 m h0 (hm0 h0) hm
                  rw [show decide (m ≤ m0) = false from decide_eq_false (by omega), Bool.and_false]
                · rw [show decide ((0 : Int) < (j : Int)) = false from decide_eq_false (by omega), Bool.false_and]) ?_
            refine wp_skip ?_
            refine inB_normal ?_
            refine then_normal ?_
            refine region_s ?_
            refine q_look (look_move rfl rfl) ?_
            refine q_look (look_add rfl rfl rfl rfl (by unfold I64; omega)) ?_
            refine q_look (look_assign rfl rfl) ?_
            refine q_nil ?_
            rintro _ rfl
            exact loop_end (j + 1) (by omega) ⟨rfl, rfl, rfl, rfl, rfl, rfl, trivial⟩ ⟨hX, hB1, hO, hM, hW, by omega⟩
          · have hgj : ¬ j < (methodsP y.kind y.cls).length := by simp at hc51; omega
            have hn2 : ((tasksP (sl.take k)).length : Int) + ((methodsP y.kind y.cls).length : Int) = ((tasksP (sl.take (k + 1))).length : Int) := by rw [tasks_take hy]; simp
            have hq2 : (q ++ [wdOf y Am cm]).map prW = (sl.take (k + 1)).map prS := by rw [List.map_append, hq, take_get hy, List.map_append]; rfl
            refine wp_exit ?_
            refine then_exit ?_
            refine then_exit ?_
            refine inB_exit_same ?_
            refine inB_normal ?_
            refine then_normal ?_
            refine region_s ?_
            refine q_look (look_move rfl rfl) ?_
            refine q_look (look_add rfl rfl rfl rfl (by unfold I64; omega)) ?_
            refine q_look (look_assign rfl rfl) ?_
            refine q_nil ?_
            rintro _ rfl
            exact loop_end ((k + 1, v5, (q ++ [wdOf y Am cm]))) (by simp only []; omega) ⟨rfl, rfl, (congrArg (fun z => some (true, Value.int .i64 z)) hn2), rfl, trivial⟩ ⟨hX, hB1, hO, ne_hO_g1, hW, by show k + 1 ≤ sl.length; omega, hq2⟩
      · have hge : ¬ k < sl.length := by simp at hc17; omega
        rw [show sl.take k = sl from List.take_of_length_le (by omega)] at hq htl
        have hn3 : ((tasksP (sl.take k)).length : Int) = ((tasksP sl).length : Int) := by rw [show sl.take k = sl from List.take_of_length_le (by omega)]
        refine wp_exit ?_
        refine then_exit ?_
        refine then_exit ?_
        refine inB_exit_same ?_
        refine then_normal ?_
        refine wp_seq ?_
        refine wp_region_lit ?_
        refine s_look (look_loadN Try.underlying33 rfl szTry_33 rfl rfl rfl (eqc_n hB1)) ?_
        refine s_call (vs := [_]) enTry_17 ⟨⟨_, rfl, rfl⟩, trivial⟩ (tasks_any h nd pt sA sl sc pk ne _ (hA.ext hX) (by omega)) ?_
        rintro _ u6 ⟨v6, rfl, hc6, hT⟩
        refine ⟨_, rfl, ?_⟩
        have dis_hO_hT := Own.dis_new hO hT
        have ne_hT_g1 : Value.ownBlock v6 ≠ some g1 := hT.ne_old hB1.lt
        replace hT := hT.weak hX.size
        replace hX := hX.comp hc6
        replace hB1 := hB1.ext hc6
        replace hO := hO.ext hc6
        replace hW := hW.ext hc6
        obtain ⟨AT, cT, rfl, hSlhT, _, hmxhT, _⟩ := hT.sl hce_t
        refine s_look (look_assign rfl rfl) ?_
        refine s_nil ?_
        refine then_normal ?_
        refine wp_seq ?_
        obtain ⟨AO, cO, rfl, _, _, _, _⟩ := hO.sl hce_w
        refine wp_region_lit ?_
        refine s_look (look_move rfl rfl) ?_
        refine s_look (look_len_slice Try.underlying37 rfl rfl) ?_
        refine s_look (look_move rfl rfl) ?_
        refine s_look (look_eql rfl rfl rfl rfl) ?_
        refine s_look (look_move rfl rfl) ?_
        refine s_want rfl rfl rfl (by rw [decide_eq_true_eq]; exact hn3.symm) ?_
        refine s_look (look_loadN Try.underlying33 rfl szTry_33 rfl rfl rfl (eqc_n hB1)) ?_
        refine s_want rfl rfl rfl (by rw [decide_eq_true_eq]; exact hn3.symm) ?_
        refine s_call (vs := [_, _]) enTry_19 ⟨⟨_, rfl, rfl⟩, ⟨_, rfl, rfl⟩, trivial⟩ (open_any h nd pt sA sl sc pk ne none [] 0 _ (hA.ext hX) (by omega) (.inl rfl) (fun x hx => by simp at hx) (by simp)) ?_
        rintro _ u7 ⟨v7, rfl, hc7, hP⟩
        refine ⟨_, rfl, ?_⟩
        have dis_hO_hP := Own.dis_new hO hP
        have dis_hT_hP := Own.dis_new hT hP
        have ne_hP_g1 : Value.ownBlock v7 ≠ some g1 := hP.ne_old hB1.lt
        replace hP := hP.weak hX.size
        replace hX := hX.comp hc7
        replace hB1 := hB1.ext hc7
        replace hO := hO.ext hc7
        replace hT := hT.ext hc7
        replace hW := hW.ext hc7
        obtain ⟨AP, cP, rfl, hSlhP, _, hmxhP, _⟩ := hP.sl hce_t
        refine s_want rfl rfl rfl (by rw [decide_eq_true_eq]; exact hn3.symm) ?_
        refine s_look (look_move rfl rfl) ?_
        refine s_want rfl rfl rfl (by rw [decide_eq_true_eq]; exact hn3.symm) ?_
        refine s_call (vs := [_, _]) enTry_16 ⟨⟨_, rfl, rfl⟩, ⟨_, rfl, rfl⟩, trivial⟩ (call_true (sametasks_any _ _ AP AT cP cT _ (hP.slOf hce_t).1 (hT.slOf hce_t).1 (by rw [open_none]; have := tasks_len sl; omega)) (by rw [open_none]; simp)) ?_
        rintro _ u8 ⟨rfl, hc8⟩
        refine ⟨_, rfl, ?_⟩
        replace hX := hX.comp hc8
        replace hB1 := hB1.ext hc8
        replace hO := hO.ext hc8
        replace hT := hT.ext hc8
        replace hP := hP.ext hc8
        replace hW := hW.ext hc8
        refine s_look (look_and2 rfl rfl rfl rfl) ?_
        refine s_look (look_move rfl rfl) ?_
        refine s_want rfl rfl rfl (by rw [Bool.and_true, decide_eq_true_eq]; exact hn3.symm) ?_
        refine s_look (look_loadN Try.underlying33 rfl szTry_33 rfl rfl rfl (eqc_n hB1)) ?_
        refine s_want rfl rfl rfl (by rw [Bool.and_true, decide_eq_true_eq]; exact hn3.symm) ?_
        refine s_look (look_move rfl rfl) ?_
        refine s_want rfl rfl rfl (by rw [Bool.and_true, decide_eq_true_eq]; exact hn3.symm) ?_
        refine s_call (vs := [_, _]) enTry_19 ⟨⟨_, rfl, rfl⟩, ⟨_, rfl, rfl⟩, trivial⟩ (open_any h nd pt sA sl sc pk ne AO q cO _ (hA.ext hX) (by omega) (hO.slOf hce_w).1 hW.ok (by omega)) ?_
        rintro _ u9 ⟨v9, rfl, hc9, hQ⟩
        refine ⟨_, rfl, ?_⟩
        have dis_hO_hQ := Own.dis_new hO hQ
        have dis_hT_hQ := Own.dis_new hT hQ
        have dis_hP_hQ := Own.dis_new hP hQ
        have ne_hQ_g1 : Value.ownBlock v9 ≠ some g1 := hQ.ne_old hB1.lt
        replace hQ := hQ.weak hX.size
        replace hX := hX.comp hc9
        replace hB1 := hB1.ext hc9
        replace hO := hO.ext hc9
        replace hT := hT.ext hc9
        replace hP := hP.ext hc9
        replace hW := hW.ext hc9
        obtain ⟨AQ, cQ, rfl, hSlhQ, _, hmxhQ, _⟩ := hQ.sl hce_t
        refine s_want rfl rfl rfl (by rw [Bool.and_true, decide_eq_true_eq]; exact hn3.symm) ?_
        refine s_look (look_len_slice Try.underlying37 rfl rfl) ?_
        refine s_want rfl rfl rfl (by rw [Bool.and_true, decide_eq_true_eq]; exact hn3.symm) ?_
        refine s_look (look_eql rfl rfl rfl rfl) ?_
        refine s_look (look_and2 rfl rfl rfl rfl) ?_
        refine s_look (look_move rfl rfl) ?_
        refine s_want rfl rfl rfl (by rw [Bool.and_true, Bool.and_eq_true, decide_eq_true_eq, decide_eq_true_eq, open_all hq]; exact ⟨hn3.symm, rfl⟩) ?_
        refine s_call (vs := []) enTry_14 trivial (awake_any _) ?_
        rintro _ u10 ⟨rfl, hc10⟩
        refine ⟨_, rfl, ?_⟩
        replace hX := hX.comp hc10
        replace hB1 := hB1.ext hc10
        replace hO := hO.ext hc10
        replace hT := hT.ext hc10
        replace hP := hP.ext hc10
        replace hQ := hQ.ext hc10
        replace hW := hW.ext hc10
        refine s_look (look_and2 rfl rfl rfl rfl) ?_
        refine s_look (look_assign rfl rfl) ?_
        refine s_nil ?_
        refine then_normal ?_
        refine wp_ret ?_
        exact res1 Try.results7 rfl ⟨ret_bool (by rw [open_all hq, hn3]; simp), hX⟩

end Go.Proofs.Ytobgfnlfbjodjaa
