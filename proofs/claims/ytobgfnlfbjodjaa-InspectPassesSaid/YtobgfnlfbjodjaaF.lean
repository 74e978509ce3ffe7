/- The walks of chapter 35 (inspect), sixth part: the laws' own examples. -/
import Derived.Test.YtobgfnlfbjodjaaE
namespace Go.Proofs.Ytobgfnlfbjodjaa
open Go Go.RowKit Core
set_option linter.unusedVariables false
set_option linter.unusedSimpArgs false
attribute [local irreducible] wpQuiet wpList wpH Code.wp Calls bodyPost act


def S1 : Sm := ⟨⟨#[83]⟩, ⟨#[]⟩, ⟨#[]⟩, 1, 0, 1⟩
def S2 : Sm := ⟨⟨#[84]⟩, ⟨#[]⟩, ⟨#[]⟩, 2, 0, 2⟩
def W1 (g : Nat) : Wd := ⟨⟨#[83]⟩, 0, 0, ⟨#[]⟩, ⟨#[]⟩, 0, 0, some ⟨g, 0, none⟩, [1, 4], 2⟩
def T1 : Tk := ⟨⟨#[83]⟩, 3⟩
def T2 : Tk := ⟨⟨#[84]⟩, 1⟩
def T3 : Tk := ⟨⟨#[84]⟩, 2⟩
def ids6 : List ByteArray := [⟨#[97]⟩, ⟨#[98]⟩, ⟨#[99]⟩, ⟨#[100]⟩, ⟨#[101]⟩, ⟨#[102]⟩]
def ids3 : List ByteArray := [⟨#[98]⟩, ⟨#[100]⟩, ⟨#[102]⟩]
theorem hce_w : ∀ x, (wdcell x).length = 8 := fun _ => rfl
theorem open_ex (g : Nat) : openP [S1, S2] [W1 g] = [T1, T2, T3] := by
  unfold openP
  rw [show tasksP [S1, S2] = [⟨⟨#[83]⟩, 1⟩, T1, ⟨⟨#[83]⟩, 4⟩, T2, T3] by decide +kernel]
  have e : ∀ t, passedP [W1 g] t = (decide ((⟨#[83]⟩ : ByteArray) = t.seam) && decide (t.m ∈ [(1 : Int), 4])) := fun t => by simp [passedP, W1]
  simp only [List.filter_cons, e]
  decide +kernel
theorem smp_ex : sampleP ids6 50 = ids3 := by decide +kernel
theorem tasks_ex : (tasksP [S1, S2]).length = 5 := by decide +kernel

set_option maxHeartbeats 2000000 in
theorem awake_any  (w : World)  :
    Calls Try.prog 14 #[] w fun e w' => e = .returned (.bool (true)) ∧ Ext w w' := by
  refine calls_act Try.func14 rfl Try.ntmps14 rfl rfl ?_
  show Code.wp _ _ _ (act 50 [] _) _
  have hX : Ext w w := Ext.rfl' w
  refine wp_seq ?_
  refine region_s ?_
  refine q_look (look_assign rfl rfl) ?_
  refine q_nil ?_
  rintro _ rfl
  refine then_normal ?_
  refine wp_seq ?_
  refine wp_region_lit ?_
  refine s_look (look_build (pl := [(0, 1), (1, 1), (2, 1), (3, 1), (4, 1), (5, 1)]) (parts := [(0, .const (Go.Value.string { data := #[83] })), (3, .const (Go.Value.int Go.IntKind.i64 1)), (5, .const (Go.Value.int Go.IntKind.i64 1))]) (vs := [(0, _), (3, _), (5, _)]) (cells := smcell S1) Try.underlying47 zeTry_47 (by kernel_rfl) ⟨⟨_, rfl, rfl⟩, ⟨_, rfl, rfl⟩, ⟨_, rfl, rfl⟩, trivial⟩ rfl (by kernel_rfl)) ?_
  refine s_look (look_build (pl := [(0, 1), (1, 1), (2, 1), (3, 1), (4, 1), (5, 1)]) (parts := [(0, .const (Go.Value.string { data := #[84] })), (3, .const (Go.Value.int Go.IntKind.i64 2)), (5, .const (Go.Value.int Go.IntKind.i64 2))]) (vs := [(0, _), (3, _), (5, _)]) (cells := smcell S2) Try.underlying47 zeTry_47 (by kernel_rfl) ⟨⟨_, rfl, rfl⟩, ⟨_, rfl, rfl⟩, ⟨_, rfl, rfl⟩, trivial⟩ rfl (by kernel_rfl)) ?_
  refine s_buildSlice (parts := [(0, .tmp 4), (1, .tmp 5)]) (vs := [(0, _), (1, _)]) (cells := [S1, S2].flatMap smcell) Try.underlying29 szTry_47 zeTry_47 rfl rfl ⟨⟨_, rfl, rfl⟩, ⟨_, rfl, rfl⟩, trivial⟩ rfl (by kernel_rfl) ?_
  intro g1 u1 hu1 hB1 hg1 hs1
  have ge_g1 : w.heap.size ≤ g1 := by have := hX.size; omega
  replace hX := hX.comp hu1
  refine s_look (look_build (pl := [(0, 1), (1, 1), (2, 1), (3, 1), (4, 1), (5, 1)]) (parts := [(3, .tmp 6)]) (vs := [(3, _)]) (cells := dL (.string ⟨#[]⟩) (.slice none 0 0) (.slice none 0 0) (some ⟨g1, 0, none⟩) [S1, S2] 2 (.slice none 0 0) (.slice none 0 0)) Try.underlying33 zeTry_33 (by kernel_rfl) ⟨⟨_, rfl, rfl⟩, trivial⟩ rfl (by kernel_rfl)) ?_
  refine s_alloc zeTry_33 ?_
  intro g2 u2 hu2 hB2 hg2 hs2
  have lt_g1_g2 : g1 < g2 := by have := hB1.lt; omega
  have ge_g2 : w.heap.size ≤ g2 := by have := hX.size; omega
  replace hX := hX.comp hu2
  replace hB1 := hB1.ext hu2
  refine s_store szTry_33 rfl (by simp [dL, Value.cells, Value.oneCell']) rfl rfl hB2 rfl ?_
  intro u3 hk3 hT3
  replace hT3 : Blk u3 g2 33 (dL (.string ⟨#[]⟩) (.slice none 0 0) (.slice none 0 0) (some ⟨g1, 0, none⟩) [S1, S2] 2 (.slice none 0 0) (.slice none 0 0)) := hT3
  replace hX := hX.kp hk3 (by omega)
  replace hB1 := hB1.kp hk3 (by omega)
  clear hB2
  have hB2 := hT3
  refine s_nil ?_
  refine then_normal ?_
  refine wp_seq ?_
  refine wp_region_lit ?_
  refine s_look (look_loadN Try.underlying33 rfl szTry_33 rfl rfl rfl (eqc_n hB2)) ?_
  refine s_buildSlice (parts := [(0, .const (Go.Value.int Go.IntKind.i64 1)), (1, .const (Go.Value.int Go.IntKind.i64 4))]) (vs := [(0, _), (1, _)]) (cells := [(1 : Int), 4].flatMap icell) Try.underlying23 szTry_3 zeTry_3 rfl rfl ⟨⟨_, rfl, rfl⟩, ⟨_, rfl, rfl⟩, trivial⟩ rfl (by kernel_rfl) ?_
  intro g4 u4 hu4 hB4 hg4 hs4
  have lt_g1_g4 : g1 < g4 := by have := hB1.lt; omega
  have lt_g2_g4 : g2 < g4 := by have := hB2.lt; omega
  have ge_g4 : w.heap.size ≤ g4 := by have := hX.size; omega
  replace hX := hX.comp hu4
  replace hB1 := hB1.ext hu4
  replace hB2 := hB2.ext hu4
  refine s_look (look_build (pl := [(0, 1), (1, 1), (2, 1), (3, 1), (4, 1), (5, 1), (6, 1), (7, 1)]) (parts := [(0, .const (Go.Value.string { data := #[83] })), (7, .tmp 9)]) (vs := [(0, .string ⟨#[83]⟩), (7, .slice (some ⟨g4, 0, none⟩) 2 2)]) (cells := [.string ⟨#[83]⟩, .int .i64 0, .int .i64 0, .string ⟨#[]⟩, .string ⟨#[]⟩, .int .i64 0, .int .i64 0, .slice (some ⟨g4, 0, none⟩) 2 2]) Try.underlying49 zeTry_49 (by kernel_rfl) ⟨⟨_, rfl, rfl⟩, ⟨_, rfl, rfl⟩, trivial⟩ rfl (by kernel_rfl)) ?_
  refine s_buildSlice (parts := [(0, .tmp 10)]) (vs := [(0, .agg #[.string ⟨#[83]⟩, .int .i64 0, .int .i64 0, .string ⟨#[]⟩, .string ⟨#[]⟩, .int .i64 0, .int .i64 0, .slice (some ⟨g4, 0, none⟩) 2 2])]) (cells := [.string ⟨#[83]⟩, .int .i64 0, .int .i64 0, .string ⟨#[]⟩, .string ⟨#[]⟩, .int .i64 0, .int .i64 0, .slice (some ⟨g4, 0, none⟩) 2 2]) Try.underlying34 szTry_49 zeTry_49 rfl rfl ⟨⟨_, rfl, rfl⟩, trivial⟩ rfl (by kernel_rfl) ?_
  intro g5 u5 hu5 hB5 hg5 hs5
  have lt_g1_g5 : g1 < g5 := by have := hB1.lt; omega
  have lt_g2_g5 : g2 < g5 := by have := hB2.lt; omega
  have lt_g4_g5 : g4 < g5 := by have := hB4.lt; omega
  have ge_g5 : w.heap.size ≤ g5 := by have := hX.size; omega
  replace hX := hX.comp hu5
  replace hB1 := hB1.ext hu5
  replace hB2 := hB2.ext hu5
  replace hB4 := hB4.ext hu5
  replace hB5 : Blk _ g5 49 ([W1 g4].flatMap wdcell) := hB5
  refine s_call (vs := [_, _]) enTry_19 ⟨⟨_, rfl, rfl⟩, ⟨_, rfl, rfl⟩, trivial⟩ (open_any (.string ⟨#[]⟩) (.slice none 0 0) (.slice none 0 0) (some ⟨g1, 0, none⟩) [S1, S2] 2 (.slice none 0 0) (.slice none 0 0) (some ⟨g5, 0, none⟩) [W1 g4] 1 _ (Blk.sl hce_m hB1) (by decide) (Blk.sl hce_w hB5) (by intro x hx; rw [List.mem_singleton.1 hx]; exact ⟨Blk.sl hce_i hB4, show 2 ≤ maxLen by decide⟩) (show 1 ≤ maxLen by decide)) ?_
  rintro _ u6 ⟨v6, rfl, hc6, hL⟩
  refine ⟨_, rfl, ?_⟩
  have ne_hL_g1 : Value.ownBlock v6 ≠ some g1 := hL.ne_old hB1.lt
  have ne_hL_g2 : Value.ownBlock v6 ≠ some g2 := hL.ne_old hB2.lt
  have ne_hL_g4 : Value.ownBlock v6 ≠ some g4 := hL.ne_old hB4.lt
  have ne_hL_g5 : Value.ownBlock v6 ≠ some g5 := hL.ne_old hB5.lt
  replace hL := hL.weak hX.size
  replace hX := hX.comp hc6
  replace hB1 := hB1.ext hc6
  replace hB2 := hB2.ext hc6
  replace hB4 := hB4.ext hc6
  replace hB5 := hB5.ext hc6
  obtain ⟨AL, cL, rfl, _, _, _, _⟩ := hL.sl hce_t
  refine s_look (look_assign rfl rfl) ?_
  refine s_nil ?_
  refine then_normal ?_
  refine wp_seq ?_
  refine wp_region_lit ?_
  refine s_buildSlice (parts := [(0, .const (Go.Value.string { data := #[97] })), (1, .const (Go.Value.string { data := #[98] })), (2, .const (Go.Value.string { data := #[99] })), (3, .const (Go.Value.string { data := #[100] })), (4, .const (Go.Value.string { data := #[101] })), (5, .const (Go.Value.string { data := #[102] }))]) (vs := [(0, _), (1, _), (2, _), (3, _), (4, _), (5, _)]) (cells := ids6.flatMap scell) Try.underlying40 szTry_9 zeTry_9 rfl rfl ⟨⟨_, rfl, rfl⟩, ⟨_, rfl, rfl⟩, ⟨_, rfl, rfl⟩, ⟨_, rfl, rfl⟩, ⟨_, rfl, rfl⟩, ⟨_, rfl, rfl⟩, trivial⟩ rfl (by kernel_rfl) ?_
  intro g7 u7 hu7 hB7 hg7 hs7
  have lt_g1_g7 : g1 < g7 := by have := hB1.lt; omega
  have lt_g2_g7 : g2 < g7 := by have := hB2.lt; omega
  have lt_g4_g7 : g4 < g7 := by have := hB4.lt; omega
  have lt_g5_g7 : g5 < g7 := by have := hB5.lt; omega
  have ne_hL_g7 : (Value.ownBlock (.slice AL (openP [S1, S2] [W1 g4]).length cL)) ≠ some g7 := hL.ne_new (by omega)
  have ge_g7 : w.heap.size ≤ g7 := by have := hX.size; omega
  replace hX := hX.comp hu7
  replace hB1 := hB1.ext hu7
  replace hB2 := hB2.ext hu7
  replace hB4 := hB4.ext hu7
  replace hB5 := hB5.ext hu7
  replace hL := hL.ext hu7
  refine s_look (look_assign rfl rfl) ?_
  refine s_nil ?_
  refine then_normal ?_
  refine wp_seq ?_
  refine wp_region_lit ?_
  refine s_call (vs := [_, _]) enTry_12 ⟨⟨_, rfl, rfl⟩, ⟨_, rfl, rfl⟩, trivial⟩ (methods_any 2 1 _) ?_
  rintro _ u8 ⟨v8, rfl, hc8, hM1⟩
  refine ⟨_, rfl, ?_⟩
  have dis_hL_hM1 := Own.dis_new hL hM1
  have ne_hM1_g1 : Value.ownBlock v8 ≠ some g1 := hM1.ne_old hB1.lt
  have ne_hM1_g2 : Value.ownBlock v8 ≠ some g2 := hM1.ne_old hB2.lt
  have ne_hM1_g4 : Value.ownBlock v8 ≠ some g4 := hM1.ne_old hB4.lt
  have ne_hM1_g5 : Value.ownBlock v8 ≠ some g5 := hM1.ne_old hB5.lt
  have ne_hM1_g7 : Value.ownBlock v8 ≠ some g7 := hM1.ne_old hB7.lt
  replace hM1 := hM1.weak hX.size
  replace hX := hX.comp hc8
  replace hB1 := hB1.ext hc8
  replace hB2 := hB2.ext hc8
  replace hB4 := hB4.ext hc8
  replace hB5 := hB5.ext hc8
  replace hB7 := hB7.ext hc8
  replace hL := hL.ext hc8
  obtain ⟨A1, c1, rfl, _, _, _, _⟩ := hM1.sl hce_i
  refine s_buildSlice (parts := [(0, .const (Go.Value.int Go.IntKind.i64 1)), (1, .const (Go.Value.int Go.IntKind.i64 2))]) (vs := [(0, _), (1, _)]) (cells := [(1 : Int), 2].flatMap icell) Try.underlying23 szTry_3 zeTry_3 rfl rfl ⟨⟨_, rfl, rfl⟩, ⟨_, rfl, rfl⟩, trivial⟩ rfl (by kernel_rfl) ?_
  intro g9 u9 hu9 hB9 hg9 hs9
  have lt_g1_g9 : g1 < g9 := by have := hB1.lt; omega
  have lt_g2_g9 : g2 < g9 := by have := hB2.lt; omega
  have lt_g4_g9 : g4 < g9 := by have := hB4.lt; omega
  have lt_g5_g9 : g5 < g9 := by have := hB5.lt; omega
  have lt_g7_g9 : g7 < g9 := by have := hB7.lt; omega
  have ne_hL_g9 : (Value.ownBlock (.slice AL (openP [S1, S2] [W1 g4]).length cL)) ≠ some g9 := hL.ne_new (by omega)
  have ne_hM1_g9 : (Value.ownBlock (.slice A1 (methodsP 2 1).length c1)) ≠ some g9 := hM1.ne_new (by omega)
  have ge_g9 : w.heap.size ≤ g9 := by have := hX.size; omega
  replace hX := hX.comp hu9
  replace hB1 := hB1.ext hu9
  replace hB2 := hB2.ext hu9
  replace hB4 := hB4.ext hu9
  replace hB5 := hB5.ext hu9
  replace hB7 := hB7.ext hu9
  replace hL := hL.ext hu9
  replace hM1 := hM1.ext hu9
  refine s_call (vs := [_, _]) enTry_11 ⟨⟨_, rfl, rfl⟩, ⟨_, rfl, rfl⟩, trivial⟩ (call_true (sameints_any (methodsP 2 1) [1, 2] A1 (some ⟨g9, 0, none⟩) c1 2 _ (hM1.slOf hce_i).1 (Blk.sl hce_i hB9) (by decide)) (by decide +kernel)) ?_
  rintro _ u10 ⟨rfl, hc10⟩
  refine ⟨_, rfl, ?_⟩
  replace hX := hX.comp hc10
  replace hB1 := hB1.ext hc10
  replace hB2 := hB2.ext hc10
  replace hB4 := hB4.ext hc10
  replace hB5 := hB5.ext hc10
  replace hB7 := hB7.ext hc10
  replace hB9 := hB9.ext hc10
  replace hL := hL.ext hc10
  replace hM1 := hM1.ext hc10
  refine s_look (look_move rfl rfl) ?_
  refine s_want rfl rfl rfl (by decide +kernel) ?_
  refine s_call (vs := [_, _]) enTry_12 ⟨⟨_, rfl, rfl⟩, ⟨_, rfl, rfl⟩, trivial⟩ (methods_any 2 4 _) ?_
  rintro _ u11 ⟨v11, rfl, hc11, hM2⟩
  refine ⟨_, rfl, ?_⟩
  have dis_hL_hM2 := Own.dis_new hL hM2
  have dis_hM1_hM2 := Own.dis_new hM1 hM2
  have ne_hM2_g1 : Value.ownBlock v11 ≠ some g1 := hM2.ne_old hB1.lt
  have ne_hM2_g2 : Value.ownBlock v11 ≠ some g2 := hM2.ne_old hB2.lt
  have ne_hM2_g4 : Value.ownBlock v11 ≠ some g4 := hM2.ne_old hB4.lt
  have ne_hM2_g5 : Value.ownBlock v11 ≠ some g5 := hM2.ne_old hB5.lt
  have ne_hM2_g7 : Value.ownBlock v11 ≠ some g7 := hM2.ne_old hB7.lt
  have ne_hM2_g9 : Value.ownBlock v11 ≠ some g9 := hM2.ne_old hB9.lt
  replace hM2 := hM2.weak hX.size
  replace hX := hX.comp hc11
  replace hB1 := hB1.ext hc11
  replace hB2 := hB2.ext hc11
  replace hB4 := hB4.ext hc11
  replace hB5 := hB5.ext hc11
  replace hB7 := hB7.ext hc11
  replace hB9 := hB9.ext hc11
  replace hL := hL.ext hc11
  replace hM1 := hM1.ext hc11
  obtain ⟨A2, c2, rfl, _, _, _, _⟩ := hM2.sl hce_i
  refine s_want rfl rfl rfl (by decide +kernel) ?_
  refine s_look (look_len_slice Try.underlying23 rfl rfl) ?_
  refine s_want rfl rfl rfl (by decide +kernel) ?_
  refine s_look (look_eql rfl rfl rfl rfl) ?_
  refine s_look (look_and2 rfl rfl rfl rfl) ?_
  refine s_look (look_move rfl rfl) ?_
  refine s_want rfl rfl rfl (by decide +kernel) ?_
  refine s_look (look_move rfl rfl) ?_
  refine s_want rfl rfl rfl (by decide +kernel) ?_
  refine s_look (look_build (pl := [(0, 1), (1, 1)]) (parts := [(0, .const (Go.Value.string { data := #[83] })), (1, .const (Go.Value.int Go.IntKind.i64 3))]) (vs := [(0, _), (1, _)]) (cells := tcell T1) Try.underlying52 zeTry_52 (by kernel_rfl) ⟨⟨_, rfl, rfl⟩, ⟨_, rfl, rfl⟩, trivial⟩ rfl (by kernel_rfl)) ?_
  refine s_want rfl rfl rfl (by decide +kernel) ?_
  refine s_look (look_build (pl := [(0, 1), (1, 1)]) (parts := [(0, .const (Go.Value.string { data := #[84] })), (1, .const (Go.Value.int Go.IntKind.i64 1))]) (vs := [(0, _), (1, _)]) (cells := tcell T2) Try.underlying52 zeTry_52 (by kernel_rfl) ⟨⟨_, rfl, rfl⟩, ⟨_, rfl, rfl⟩, trivial⟩ rfl (by kernel_rfl)) ?_
  refine s_want rfl rfl rfl (by decide +kernel) ?_
  refine s_look (look_build (pl := [(0, 1), (1, 1)]) (parts := [(0, .const (Go.Value.string { data := #[84] })), (1, .const (Go.Value.int Go.IntKind.i64 2))]) (vs := [(0, _), (1, _)]) (cells := tcell T3) Try.underlying52 zeTry_52 (by kernel_rfl) ⟨⟨_, rfl, rfl⟩, ⟨_, rfl, rfl⟩, trivial⟩ rfl (by kernel_rfl)) ?_
  refine s_want rfl rfl rfl (by decide +kernel) ?_
  refine s_buildSlice (parts := [(0, .tmp 24), (1, .tmp 25), (2, .tmp 26)]) (vs := [(0, _), (1, _), (2, _)]) (cells := [T1, T2, T3].flatMap tcell) Try.underlying37 szTry_52 zeTry_52 rfl rfl ⟨⟨_, rfl, rfl⟩, ⟨_, rfl, rfl⟩, ⟨_, rfl, rfl⟩, trivial⟩ rfl (by kernel_rfl) ?_
  intro g12 u12 hu12 hB12 hg12 hs12
  have lt_g1_g12 : g1 < g12 := by have := hB1.lt; omega
  have lt_g2_g12 : g2 < g12 := by have := hB2.lt; omega
  have lt_g4_g12 : g4 < g12 := by have := hB4.lt; omega
  have lt_g5_g12 : g5 < g12 := by have := hB5.lt; omega
  have lt_g7_g12 : g7 < g12 := by have := hB7.lt; omega
  have lt_g9_g12 : g9 < g12 := by have := hB9.lt; omega
  have ne_hL_g12 : (Value.ownBlock (.slice AL (openP [S1, S2] [W1 g4]).length cL)) ≠ some g12 := hL.ne_new (by omega)
  have ne_hM1_g12 : (Value.ownBlock (.slice A1 (methodsP 2 1).length c1)) ≠ some g12 := hM1.ne_new (by omega)
  have ne_hM2_g12 : (Value.ownBlock (.slice A2 (methodsP 2 4).length c2)) ≠ some g12 := hM2.ne_new (by omega)
  have ge_g12 : w.heap.size ≤ g12 := by have := hX.size; omega
  replace hX := hX.comp hu12
  replace hB1 := hB1.ext hu12
  replace hB2 := hB2.ext hu12
  replace hB4 := hB4.ext hu12
  replace hB5 := hB5.ext hu12
  replace hB7 := hB7.ext hu12
  replace hB9 := hB9.ext hu12
  replace hL := hL.ext hu12
  replace hM1 := hM1.ext hu12
  replace hM2 := hM2.ext hu12
  refine s_want rfl rfl rfl (by decide +kernel) ?_
  refine s_call (vs := [_, _]) enTry_16 ⟨⟨_, rfl, rfl⟩, ⟨_, rfl, rfl⟩, trivial⟩ (call_true (sametasks_any _ [T1, T2, T3] AL (some ⟨g12, 0, none⟩) cL 3 _ (hL.slOf hce_t).1 (Blk.sl hce_t hB12) (by rw [open_ex]; decide)) (by rw [open_ex]; decide +kernel)) ?_
  rintro _ u13 ⟨rfl, hc13⟩
  refine ⟨_, rfl, ?_⟩
  replace hX := hX.comp hc13
  replace hB1 := hB1.ext hc13
  replace hB2 := hB2.ext hc13
  replace hB4 := hB4.ext hc13
  replace hB5 := hB5.ext hc13
  replace hB7 := hB7.ext hc13
  replace hB9 := hB9.ext hc13
  replace hB12 := hB12.ext hc13
  replace hL := hL.ext hc13
  replace hM1 := hM1.ext hc13
  replace hM2 := hM2.ext hc13
  refine s_look (look_and2 rfl rfl rfl rfl) ?_
  refine s_look (look_move rfl rfl) ?_
  refine s_want rfl rfl rfl (by decide +kernel) ?_
  refine s_look (look_loadN Try.underlying33 rfl szTry_33 rfl rfl rfl (eqc_n hB2)) ?_
  refine s_want rfl rfl rfl (by decide +kernel) ?_
  refine s_call (vs := [_]) enTry_17 ⟨⟨_, rfl, rfl⟩, trivial⟩ (tasks_any (.string ⟨#[]⟩) (.slice none 0 0) (.slice none 0 0) (some ⟨g1, 0, none⟩) [S1, S2] 2 (.slice none 0 0) (.slice none 0 0) _ (Blk.sl hce_m hB1) (by decide)) ?_
  rintro _ u14 ⟨v14, rfl, hc14, hT⟩
  refine ⟨_, rfl, ?_⟩
  have dis_hL_hT := Own.dis_new hL hT
  have dis_hM1_hT := Own.dis_new hM1 hT
  have dis_hM2_hT := Own.dis_new hM2 hT
  have ne_hT_g1 : Value.ownBlock v14 ≠ some g1 := hT.ne_old hB1.lt
  have ne_hT_g2 : Value.ownBlock v14 ≠ some g2 := hT.ne_old hB2.lt
  have ne_hT_g4 : Value.ownBlock v14 ≠ some g4 := hT.ne_old hB4.lt
  have ne_hT_g5 : Value.ownBlock v14 ≠ some g5 := hT.ne_old hB5.lt
  have ne_hT_g7 : Value.ownBlock v14 ≠ some g7 := hT.ne_old hB7.lt
  have ne_hT_g9 : Value.ownBlock v14 ≠ some g9 := hT.ne_old hB9.lt
  have ne_hT_g12 : Value.ownBlock v14 ≠ some g12 := hT.ne_old hB12.lt
  replace hT := hT.weak hX.size
  replace hX := hX.comp hc14
  replace hB1 := hB1.ext hc14
  replace hB2 := hB2.ext hc14
  replace hB4 := hB4.ext hc14
  replace hB5 := hB5.ext hc14
  replace hB7 := hB7.ext hc14
  replace hB9 := hB9.ext hc14
  replace hB12 := hB12.ext hc14
  replace hL := hL.ext hc14
  replace hM1 := hM1.ext hc14
  replace hM2 := hM2.ext hc14
  obtain ⟨AT, cT, rfl, _, _, _, _⟩ := hT.sl hce_t
  refine s_want rfl rfl rfl (by decide +kernel) ?_
  refine s_look (look_len_slice Try.underlying37 rfl rfl) ?_
  refine s_want rfl rfl rfl (by decide +kernel) ?_
  refine s_look (look_eql rfl rfl rfl rfl) ?_
  refine s_look (look_and2 rfl rfl rfl rfl) ?_
  refine s_look (look_move rfl rfl) ?_
  refine s_want rfl rfl rfl (by decide +kernel) ?_
  refine s_look (look_move rfl rfl) ?_
  refine s_want rfl rfl rfl (by decide +kernel) ?_
  refine s_call (vs := [_, _]) enTry_22 ⟨⟨_, rfl, rfl⟩, ⟨_, rfl, rfl⟩, trivial⟩ (sample_any ids6 (some ⟨g7, 0, none⟩) 6 50 _ (Blk.sl hce_s hB7) (by decide)) ?_
  rintro _ u15 ⟨v15, rfl, hc15, hI⟩
  refine ⟨_, rfl, ?_⟩
  have dis_hL_hI := Own.dis_new hL hI
  have dis_hM1_hI := Own.dis_new hM1 hI
  have dis_hM2_hI := Own.dis_new hM2 hI
  have dis_hT_hI := Own.dis_new hT hI
  have ne_hI_g1 : Value.ownBlock v15 ≠ some g1 := hI.ne_old hB1.lt
  have ne_hI_g2 : Value.ownBlock v15 ≠ some g2 := hI.ne_old hB2.lt
  have ne_hI_g4 : Value.ownBlock v15 ≠ some g4 := hI.ne_old hB4.lt
  have ne_hI_g5 : Value.ownBlock v15 ≠ some g5 := hI.ne_old hB5.lt
  have ne_hI_g7 : Value.ownBlock v15 ≠ some g7 := hI.ne_old hB7.lt
  have ne_hI_g9 : Value.ownBlock v15 ≠ some g9 := hI.ne_old hB9.lt
  have ne_hI_g12 : Value.ownBlock v15 ≠ some g12 := hI.ne_old hB12.lt
  replace hI := hI.weak hX.size
  replace hX := hX.comp hc15
  replace hB1 := hB1.ext hc15
  replace hB2 := hB2.ext hc15
  replace hB4 := hB4.ext hc15
  replace hB5 := hB5.ext hc15
  replace hB7 := hB7.ext hc15
  replace hB9 := hB9.ext hc15
  replace hB12 := hB12.ext hc15
  replace hL := hL.ext hc15
  replace hM1 := hM1.ext hc15
  replace hM2 := hM2.ext hc15
  replace hT := hT.ext hc15
  obtain ⟨AI, cI, rfl, _, _, _, _⟩ := hI.sl hce_s
  refine s_want rfl rfl rfl (by decide +kernel) ?_
  refine s_buildSlice (parts := [(0, .const (Go.Value.string { data := #[98] })), (1, .const (Go.Value.string { data := #[100] })), (2, .const (Go.Value.string { data := #[102] }))]) (vs := [(0, _), (1, _), (2, _)]) (cells := ids3.flatMap scell) Try.underlying40 szTry_9 zeTry_9 rfl rfl ⟨⟨_, rfl, rfl⟩, ⟨_, rfl, rfl⟩, ⟨_, rfl, rfl⟩, trivial⟩ rfl (by kernel_rfl) ?_
  intro g16 u16 hu16 hB16 hg16 hs16
  have lt_g1_g16 : g1 < g16 := by have := hB1.lt; omega
  have lt_g2_g16 : g2 < g16 := by have := hB2.lt; omega
  have lt_g4_g16 : g4 < g16 := by have := hB4.lt; omega
  have lt_g5_g16 : g5 < g16 := by have := hB5.lt; omega
  have lt_g7_g16 : g7 < g16 := by have := hB7.lt; omega
  have lt_g9_g16 : g9 < g16 := by have := hB9.lt; omega
  have lt_g12_g16 : g12 < g16 := by have := hB12.lt; omega
  have ne_hL_g16 : (Value.ownBlock (.slice AL (openP [S1, S2] [W1 g4]).length cL)) ≠ some g16 := hL.ne_new (by omega)
  have ne_hM1_g16 : (Value.ownBlock (.slice A1 (methodsP 2 1).length c1)) ≠ some g16 := hM1.ne_new (by omega)
  have ne_hM2_g16 : (Value.ownBlock (.slice A2 (methodsP 2 4).length c2)) ≠ some g16 := hM2.ne_new (by omega)
  have ne_hT_g16 : (Value.ownBlock (.slice AT (tasksP [S1, S2]).length cT)) ≠ some g16 := hT.ne_new (by omega)
  have ne_hI_g16 : (Value.ownBlock (.slice AI (sampleP ids6 50).length cI)) ≠ some g16 := hI.ne_new (by omega)
  have ge_g16 : w.heap.size ≤ g16 := by have := hX.size; omega
  replace hX := hX.comp hu16
  replace hB1 := hB1.ext hu16
  replace hB2 := hB2.ext hu16
  replace hB4 := hB4.ext hu16
  replace hB5 := hB5.ext hu16
  replace hB7 := hB7.ext hu16
  replace hB9 := hB9.ext hu16
  replace hB12 := hB12.ext hu16
  replace hL := hL.ext hu16
  replace hM1 := hM1.ext hu16
  replace hM2 := hM2.ext hu16
  replace hT := hT.ext hu16
  replace hI := hI.ext hu16
  refine s_want rfl rfl rfl (by decide +kernel) ?_
  refine s_call (vs := [_, _]) enTry_21 ⟨⟨_, rfl, rfl⟩, ⟨_, rfl, rfl⟩, trivial⟩ (call_true (samestrs_any (sampleP ids6 50) ids3 AI (some ⟨g16, 0, none⟩) cI 3 _ (hI.slOf hce_s).1 (Blk.sl hce_s hB16) (by rw [smp_ex]; decide)) (by rw [smp_ex]; decide +kernel)) ?_
  rintro _ u17 ⟨rfl, hc17⟩
  refine ⟨_, rfl, ?_⟩
  replace hX := hX.comp hc17
  replace hB1 := hB1.ext hc17
  replace hB2 := hB2.ext hc17
  replace hB4 := hB4.ext hc17
  replace hB5 := hB5.ext hc17
  replace hB7 := hB7.ext hc17
  replace hB9 := hB9.ext hc17
  replace hB12 := hB12.ext hc17
  replace hB16 := hB16.ext hc17
  replace hL := hL.ext hc17
  replace hM1 := hM1.ext hc17
  replace hM2 := hM2.ext hc17
  replace hT := hT.ext hc17
  replace hI := hI.ext hc17
  refine s_look (look_and2 rfl rfl rfl rfl) ?_
  refine s_look (look_move rfl rfl) ?_
  refine s_want rfl rfl rfl (by decide +kernel) ?_
  refine s_call (vs := [_, _, _]) enTry_24 ⟨⟨_, rfl, rfl⟩, ⟨_, rfl, rfl⟩, ⟨_, rfl, rfl⟩, trivial⟩ (call_int (extent_any 10 2 20 _) (show extentP 10 2 20 = 40 by decide +kernel)) ?_
  rintro _ u18 ⟨rfl, hc18⟩
  refine ⟨_, rfl, ?_⟩
  replace hX := hX.comp hc18
  replace hB1 := hB1.ext hc18
  replace hB2 := hB2.ext hc18
  replace hB4 := hB4.ext hc18
  replace hB5 := hB5.ext hc18
  replace hB7 := hB7.ext hc18
  replace hB9 := hB9.ext hc18
  replace hB12 := hB12.ext hc18
  replace hB16 := hB16.ext hc18
  replace hL := hL.ext hc18
  replace hM1 := hM1.ext hc18
  replace hM2 := hM2.ext hc18
  replace hT := hT.ext hc18
  replace hI := hI.ext hc18
  refine s_want rfl rfl rfl (by decide +kernel) ?_
  refine s_look (look_eql rfl rfl rfl rfl) ?_
  refine s_look (look_and2 rfl rfl rfl rfl) ?_
  refine s_look (look_move rfl rfl) ?_
  refine s_want rfl rfl rfl (by decide +kernel) ?_
  refine s_call (vs := [_, _, _]) enTry_24 ⟨⟨_, rfl, rfl⟩, ⟨_, rfl, rfl⟩, ⟨_, rfl, rfl⟩, trivial⟩ (call_int (extent_any 10 20 20 _) (show extentP 10 20 20 = 100 by decide +kernel)) ?_
  rintro _ u19 ⟨rfl, hc19⟩
  refine ⟨_, rfl, ?_⟩
  replace hX := hX.comp hc19
  replace hB1 := hB1.ext hc19
  replace hB2 := hB2.ext hc19
  replace hB4 := hB4.ext hc19
  replace hB5 := hB5.ext hc19
  replace hB7 := hB7.ext hc19
  replace hB9 := hB9.ext hc19
  replace hB12 := hB12.ext hc19
  replace hB16 := hB16.ext hc19
  replace hL := hL.ext hc19
  replace hM1 := hM1.ext hc19
  replace hM2 := hM2.ext hc19
  replace hT := hT.ext hc19
  replace hI := hI.ext hc19
  refine s_want rfl rfl rfl (by decide +kernel) ?_
  refine s_look (look_eql rfl rfl rfl rfl) ?_
  refine s_look (look_and2 rfl rfl rfl rfl) ?_
  refine s_look (look_assign rfl rfl) ?_
  refine s_nil ?_
  refine then_normal ?_
  refine wp_ret ?_
  exact res1 Try.results14 rfl ⟨ret_bool (by decide +kernel), hX⟩

end Go.Proofs.Ytobgfnlfbjodjaa
