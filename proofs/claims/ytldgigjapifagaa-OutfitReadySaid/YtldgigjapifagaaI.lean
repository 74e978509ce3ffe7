/- The walks of chapter 47 (outfit), ninth part: the examples, and which designs are sound. -/
import Derived.Test.YtldgigjapifagaaH
namespace Go.Proofs.Ytldgigjapifagaa
open Go Go.RowKit Core
set_option linter.unusedVariables false
set_option linter.unusedSimpArgs false
attribute [local irreducible] wpQuiet wpList wpH wpT Code.wp Calls bodyPost act


def P1 (g : Nat) : Pk := ⟨⟨#[97]⟩, ⟨#[66]⟩, none, 0, 0, 2, some ⟨g, 0, none⟩, [⟨#[99]⟩], 1⟩
def P2 : Pk := ⟨⟨#[98]⟩, ⟨#[66]⟩, none, 0, 0, 5, none, [], 0⟩
def P3 (g : Nat) : Pk := ⟨⟨#[99]⟩, ⟨#[67]⟩, none, 0, 0, 3, some ⟨g, 0, none⟩, [⟨#[98]⟩], 1⟩
def PA (g : Nat) : Pk := ⟨⟨#[97]⟩, ⟨#[]⟩, none, 0, 0, 0, some ⟨g, 0, none⟩, [⟨#[97]⟩], 1⟩
def D3 (ga gc : Nat) : List Pk := [P1 ga, P2, P3 gc]
theorem D3ok {u : World} {ga gc gp : Nat} (ha : Blk u ga 9 (scell ⟨#[99]⟩)) (hc : Blk u gc 9 (scell ⟨#[98]⟩)) (hp : Blk u gp 48 ([P1 ga, P2, P3 gc].flatMap pcell)) : DOk u (some ⟨gp, 0, none⟩) (D3 ga gc) := by
  refine ⟨Blk.sl (l := D3 ga gc) hce_p hp, ?_, show 3 ≤ maxLen by decide⟩
  intro p hp
  rcases List.mem_cons.1 hp with rfl | hp
  · exact ⟨Blk.sl (l := [⟨#[99]⟩]) hce_s ha, show 1 ≤ maxLen by decide, show I64 2 by unfold I64; decide⟩
  rcases List.mem_cons.1 hp with rfl | hp
  · exact ⟨.inl rfl, show 0 ≤ maxLen by decide, show I64 5 by unfold I64; decide⟩
  rw [List.mem_singleton.1 hp]
  exact ⟨Blk.sl (l := [⟨#[98]⟩]) hce_s hc, show 1 ≤ maxLen by decide, show I64 3 by unfold I64; decide⟩
theorem D3few (ga gc : Nat) : ∀ p ∈ D3 ga gc, p.after.length ≤ 30 := by
  intro p hp
  rcases List.mem_cons.1 hp with rfl | hp
  · exact show 1 ≤ 30 by decide
  rcases List.mem_cons.1 hp with rfl | hp
  · exact show 0 ≤ 30 by decide
  rw [List.mem_singleton.1 hp]
  exact show 1 ≤ 30 by decide
theorem DAok {u : World} {g gp : Nat} (ha : Blk u g 9 (scell ⟨#[97]⟩)) (hp : Blk u gp 48 ([PA g].flatMap pcell)) : DOk u (some ⟨gp, 0, none⟩) [PA g] := by
  refine ⟨Blk.sl (l := [PA g]) hce_p hp, ?_, show 1 ≤ maxLen by decide⟩
  intro p hp
  rw [List.mem_singleton.1 hp]
  exact ⟨Blk.sl (l := [⟨#[97]⟩]) hce_s ha, show 1 ≤ maxLen by decide, show I64 0 by unfold I64; decide⟩
def sB : ByteArray := ⟨#[98]⟩
def sC : ByteArray := ⟨#[99]⟩
def sA : ByteArray := ⟨#[97]⟩
theorem err3 (ga gc : Nat) : oErr (D3 ga gc) = 0 := by kernel_rfl
theorem ord3 (ga gc : Nat) : ordS (D3 ga gc) = [⟨#[98]⟩, ⟨#[99]⟩, ⟨#[97]⟩] := by kernel_rfl
theorem sta3 (ga gc : Nat) : startsP (D3 ga gc) = [8, 0, 5] := by kernel_rfl
theorem errA (g : Nat) : oErr [PA g] = 20 := by kernel_rfl
theorem ordA (g : Nat) : ordS [PA g] = [] := by kernel_rfl
theorem rdy31 (ga gc : Nat) : readyP [] ⟨#[99]⟩ (D3 ga gc) = 28 := by kernel_rfl
theorem rdy32 (ga gc : Nat) : readyP [⟨#[99]⟩] ⟨#[97]⟩ (D3 ga gc) = 0 := by kernel_rfl
theorem rdy33 (ga gc : Nat) : readyP [⟨#[99]⟩] ⟨#[99]⟩ (D3 ga gc) = 14 := by kernel_rfl
theorem rdy34 (ga gc : Nat) : readyP [⟨#[99]⟩] ⟨#[120]⟩ (D3 ga gc) = 8 := by kernel_rfl
theorem mis31 (ga gc : Nat) : missP [] ⟨#[97]⟩ (D3 ga gc) = [⟨#[98]⟩, ⟨#[99]⟩] := by kernel_rfl
theorem mis32 (ga gc : Nat) : missP [⟨#[99]⟩] ⟨#[97]⟩ (D3 ga gc) = [⟨#[98]⟩] := by kernel_rfl
theorem lef3 (ga gc : Nat) : leftP [⟨#[98]⟩] ⟨#[66]⟩ (D3 ga gc) = 2 := by kernel_rfl
theorem pct31 (ga gc : Nat) : pctP [⟨#[98]⟩] ⟨#[66]⟩ (D3 ga gc) = 71 := by kernel_rfl
theorem pct32 (ga gc : Nat) : pctP [] ⟨#[68]⟩ (D3 ga gc) = 100 := by kernel_rfl

theorem three_any  (w : World)  :
    Calls Try.prog 28 #[] w fun e w' => ∃ ga gc gp, e = .returned (.agg #[.string ⟨#[]⟩, .slice none 0 0, .slice none 0 0, .slice none 0 0, .slice (some ⟨gp, 0, none⟩) 3 3, .slice none 0 0]) ∧ Ext w w' ∧ DOk w' (some ⟨gp, 0, none⟩) (D3 ga gc) := by
  refine calls_act Try.func28 rfl Try.ntmps28 rfl rfl ?_
  show Code.wp _ _ _ (act 8 [] _) _
  have hX : Ext w w := Ext.rfl' w
  refine wp_seq ?_
  refine wp_region_lit ?_
  refine s_alloc zeTry_28 ?_
  intro g1 u1 hu1 hB1 hg1 hs1
  have ge_g1 : w.heap.size ≤ g1 := by have := hX.size; omega
  replace hX := hX.comp hu1
  refine s_nil ?_
  refine then_normal ?_
  refine wp_seq ?_
  refine wp_region_lit ?_
  refine s_buildSlice (parts := [(0, .const (Go.Value.string { data := #[99] }))]) (vs := [(0, _)]) (cells := scell ⟨#[99]⟩) Try.underlying31 szTry_9 zeTry_9 rfl rfl ⟨⟨_, rfl, rfl⟩, trivial⟩ rfl (by kernel_rfl) ?_
  intro g2 u2 hu2 hB2 hg2 hs2
  have lt_g1_g2 : g1 < g2 := by have := hB1.lt; omega
  have ge_g2 : w.heap.size ≤ g2 := by have := hX.size; omega
  replace hX := hX.comp hu2
  replace hB1 := hB1.ext hu2
  refine s_look (look_build (pl := [(0, 1), (1, 1), (2, 1), (3, 1), (4, 1)]) (parts := [(0, .const (Go.Value.string { data := #[97] })), (1, .const (Go.Value.string { data := #[66] })), (3, .const (Go.Value.int Go.IntKind.i64 2)), (4, .tmp 1)]) (vs := [(0, .string ⟨#[97]⟩), (1, .string ⟨#[66]⟩), (3, .int .i64 2), (4, .slice (some ⟨g2, 0, none⟩) 1 1)]) (cells := pcell (P1 g2)) Try.underlying48 zeTry_48 (by kernel_rfl) ⟨⟨_, rfl, rfl⟩, ⟨_, rfl, rfl⟩, ⟨_, rfl, rfl⟩, ⟨_, rfl, rfl⟩, trivial⟩ rfl (by kernel_rfl)) ?_
  refine s_look (look_build (pl := [(0, 1), (1, 1), (2, 1), (3, 1), (4, 1)]) (parts := [(0, .const (Go.Value.string { data := #[98] })), (1, .const (Go.Value.string { data := #[66] })), (3, .const (Go.Value.int Go.IntKind.i64 5))]) (vs := [(0, .string ⟨#[98]⟩), (1, .string ⟨#[66]⟩), (3, .int .i64 5)]) (cells := pcell P2) Try.underlying48 zeTry_48 (by kernel_rfl) ⟨⟨_, rfl, rfl⟩, ⟨_, rfl, rfl⟩, ⟨_, rfl, rfl⟩, trivial⟩ rfl (by kernel_rfl)) ?_
  refine s_buildSlice (parts := [(0, .const (Go.Value.string { data := #[98] }))]) (vs := [(0, _)]) (cells := scell ⟨#[98]⟩) Try.underlying31 szTry_9 zeTry_9 rfl rfl ⟨⟨_, rfl, rfl⟩, trivial⟩ rfl (by kernel_rfl) ?_
  intro g3 u3 hu3 hB3 hg3 hs3
  have lt_g1_g3 : g1 < g3 := by have := hB1.lt; omega
  have lt_g2_g3 : g2 < g3 := by have := hB2.lt; omega
  have ge_g3 : w.heap.size ≤ g3 := by have := hX.size; omega
  replace hX := hX.comp hu3
  replace hB1 := hB1.ext hu3
  replace hB2 := hB2.ext hu3
  refine s_look (look_build (pl := [(0, 1), (1, 1), (2, 1), (3, 1), (4, 1)]) (parts := [(0, .const (Go.Value.string { data := #[99] })), (1, .const (Go.Value.string { data := #[67] })), (3, .const (Go.Value.int Go.IntKind.i64 3)), (4, .tmp 4)]) (vs := [(0, .string ⟨#[99]⟩), (1, .string ⟨#[67]⟩), (3, .int .i64 3), (4, .slice (some ⟨g3, 0, none⟩) 1 1)]) (cells := pcell (P3 g3)) Try.underlying48 zeTry_48 (by kernel_rfl) ⟨⟨_, rfl, rfl⟩, ⟨_, rfl, rfl⟩, ⟨_, rfl, rfl⟩, ⟨_, rfl, rfl⟩, trivial⟩ rfl (by kernel_rfl)) ?_
  refine s_buildSlice (parts := [(0, .tmp 2), (1, .tmp 3), (2, .tmp 5)]) (vs := [(0, .agg (pcell (P1 g2)).toArray), (1, .agg (pcell P2).toArray), (2, .agg (pcell (P3 g3)).toArray)]) (cells := [P1 g2, P2, P3 g3].flatMap pcell) Try.underlying25 szTry_48 zeTry_48 rfl rfl ⟨⟨_, rfl, rfl⟩, ⟨_, rfl, rfl⟩, ⟨_, rfl, rfl⟩, trivial⟩ rfl (by kernel_rfl) ?_
  intro g4 u4 hu4 hB4 hg4 hs4
  have lt_g1_g4 : g1 < g4 := by have := hB1.lt; omega
  have lt_g2_g4 : g2 < g4 := by have := hB2.lt; omega
  have lt_g3_g4 : g3 < g4 := by have := hB3.lt; omega
  have ge_g4 : w.heap.size ≤ g4 := by have := hX.size; omega
  replace hX := hX.comp hu4
  replace hB1 := hB1.ext hu4
  replace hB2 := hB2.ext hu4
  replace hB3 := hB3.ext hu4
  refine s_look (look_build (pl := [(0, 1), (1, 1), (2, 1), (3, 1), (4, 1), (5, 1)]) (parts := [(4, .tmp 6)]) (vs := [(4, .slice (some ⟨g4, 0, none⟩) 3 3)]) (cells := [.string ⟨#[]⟩, .slice none 0 0, .slice none 0 0, .slice none 0 0, .slice (some ⟨g4, 0, none⟩) 3 3, .slice none 0 0]) Try.underlying28 zeTry_28 (by kernel_rfl) ⟨⟨_, rfl, rfl⟩, trivial⟩ rfl (by kernel_rfl)) ?_
  refine s_store szTry_28 rfl (by simp [pcell, scell, Value.cells, Value.oneCell']) rfl rfl hB1 rfl ?_
  intro u5 hk5 hT5
  replace hT5 : Blk u5 g1 28 ([.string ⟨#[]⟩, .slice none 0 0, .slice none 0 0, .slice none 0 0, .slice (some ⟨g4, 0, none⟩) 3 3, .slice none 0 0]) := hT5
  replace hX := hX.kp hk5 (by omega)
  replace hB2 := hB2.kp hk5 (by omega)
  replace hB3 := hB3.kp hk5 (by omega)
  replace hB4 := hB4.kp hk5 (by omega)
  clear hB1
  have hB1 := hT5
  refine s_nil ?_
  replace hB1 : Blk _ _ 28 [.string ⟨#[]⟩, .slice none 0 0, .slice none 0 0, .slice none 0 0, .slice (some ⟨g4, 0, none⟩) 3 3, .slice none 0 0] := hB1
  have hO1 := D3ok hB2 hB3 hB4
  refine then_normal ?_
  refine wp_ret ?_
  exact resC Try.results28 Try.underlying28 rfl szTry_28 rfl rfl (fun j v hv => by rw [Nat.zero_add]; exact hB1.cell hv) ⟨g2, g3, g4, rfl, hX, hO1⟩

def L3 : List ByteArray := [⟨#[98]⟩, ⟨#[99]⟩, ⟨#[97]⟩]
def L2 : List ByteArray := [⟨#[98]⟩, ⟨#[99]⟩]
def L1 : List ByteArray := [⟨#[98]⟩]
def LC : List ByteArray := [⟨#[99]⟩]
def LI : List Int := [8, 0, 5]
theorem exOrder (ga gc gp : Nat) (w : World) (hD : DOk w (some ⟨gp, 0, none⟩) (D3 ga gc))  : Calls Try.prog 12 #[.agg #[.string ⟨#[]⟩, .slice none 0 0, .slice none 0 0, .slice none 0 0, .slice (some ⟨gp, 0, none⟩) 3 3, .slice none 0 0]] w fun e w' => ∃ v, e = .returned (.tuple #[v, .int .i64 0]) ∧ Ext w w' ∧ Core.Own scell 9 1 w.heap.size w' v L3 := by
  have h := order_any (.string ⟨#[]⟩) (.slice none 0 0) (.slice none 0 0) (.slice none 0 0) _ (D3 ga gc) 3 (.slice none 0 0) w hD (show 3 ≤ 1000 by decide)
  rw [err3, ord3] at h
  exact h
theorem exStarts (ga gc gp : Nat) (w : World) (hD : DOk w (some ⟨gp, 0, none⟩) (D3 ga gc))  : Calls Try.prog 14 #[.agg #[.string ⟨#[]⟩, .slice none 0 0, .slice none 0 0, .slice none 0 0, .slice (some ⟨gp, 0, none⟩) 3 3, .slice none 0 0]] w fun e w' => ∃ v, e = .returned (.tuple #[v, .int .i64 0]) ∧ Ext w w' ∧ Core.Own icell 3 1 w.heap.size w' v LI := by
  have h := starts_any (.string ⟨#[]⟩) (.slice none 0 0) (.slice none 0 0) (.slice none 0 0) _ (D3 ga gc) 3 (.slice none 0 0) w hD (show 3 ≤ 1000 by decide) (D3few ga gc)
  rw [err3, sta3] at h
  exact h
theorem exOrderA (g gp : Nat) (w : World) (hD : DOk w (some ⟨gp, 0, none⟩) [PA g])  : Calls Try.prog 12 #[.agg #[.string ⟨#[]⟩, .slice none 0 0, .slice none 0 0, .slice none 0 0, .slice (some ⟨gp, 0, none⟩) 1 1, .slice none 0 0]] w fun e w' => ∃ v, e = .returned (.tuple #[v, .int .i64 20]) ∧ Ext w w' ∧ Core.Own scell 9 1 w.heap.size w' v [] := by
  have h := order_any (.string ⟨#[]⟩) (.slice none 0 0) (.slice none 0 0) (.slice none 0 0) _ [PA g] 1 (.slice none 0 0) w hD (show 1 ≤ 1000 by decide)
  rw [errA, ordA] at h
  exact h
theorem exReady1 (ga gc gp : Nat) (w : World) (hD : DOk w (some ⟨gp, 0, none⟩) (D3 ga gc))  : Calls Try.prog 18 #[.agg #[.string ⟨#[]⟩, .slice none 0 0, .slice none 0 0, .slice none 0 0, .slice (some ⟨gp, 0, none⟩) 3 3, .slice none 0 0], .slice none 0 0, .string ⟨#[99]⟩] w fun e w' => e = .returned (.int .i64 28) ∧ Ext w w' := by
  have h := ready_any (.string ⟨#[]⟩) (.slice none 0 0) (.slice none 0 0) (.slice none 0 0) _ (D3 ga gc) 3 (.slice none 0 0) [] none 0 ⟨#[99]⟩ w hD (.inl rfl) (show 0 ≤ maxLen by decide)
  rw [rdy31] at h
  exact h
theorem exReady2 (ga gc gp : Nat) (w : World) (hD : DOk w (some ⟨gp, 0, none⟩) (D3 ga gc)) (gd : Nat) (hN : Blk w gd 9 ([⟨#[99]⟩].flatMap scell)) : Calls Try.prog 18 #[.agg #[.string ⟨#[]⟩, .slice none 0 0, .slice none 0 0, .slice none 0 0, .slice (some ⟨gp, 0, none⟩) 3 3, .slice none 0 0], .slice (some ⟨gd, 0, none⟩) 1 1, .string ⟨#[97]⟩] w fun e w' => e = .returned (.int .i64 0) ∧ Ext w w' := by
  have h := ready_any (.string ⟨#[]⟩) (.slice none 0 0) (.slice none 0 0) (.slice none 0 0) _ (D3 ga gc) 3 (.slice none 0 0) [⟨#[99]⟩] (some ⟨gd, 0, none⟩) 1 ⟨#[97]⟩ w hD (Blk.sl hce_s hN) (show 1 ≤ maxLen by decide)
  rw [rdy32] at h
  exact h
theorem exReady3 (ga gc gp : Nat) (w : World) (hD : DOk w (some ⟨gp, 0, none⟩) (D3 ga gc)) (gd : Nat) (hN : Blk w gd 9 ([⟨#[99]⟩].flatMap scell)) : Calls Try.prog 18 #[.agg #[.string ⟨#[]⟩, .slice none 0 0, .slice none 0 0, .slice none 0 0, .slice (some ⟨gp, 0, none⟩) 3 3, .slice none 0 0], .slice (some ⟨gd, 0, none⟩) 1 1, .string ⟨#[99]⟩] w fun e w' => e = .returned (.int .i64 14) ∧ Ext w w' := by
  have h := ready_any (.string ⟨#[]⟩) (.slice none 0 0) (.slice none 0 0) (.slice none 0 0) _ (D3 ga gc) 3 (.slice none 0 0) [⟨#[99]⟩] (some ⟨gd, 0, none⟩) 1 ⟨#[99]⟩ w hD (Blk.sl hce_s hN) (show 1 ≤ maxLen by decide)
  rw [rdy33] at h
  exact h
theorem exReady4 (ga gc gp : Nat) (w : World) (hD : DOk w (some ⟨gp, 0, none⟩) (D3 ga gc)) (gd : Nat) (hN : Blk w gd 9 ([⟨#[99]⟩].flatMap scell)) : Calls Try.prog 18 #[.agg #[.string ⟨#[]⟩, .slice none 0 0, .slice none 0 0, .slice none 0 0, .slice (some ⟨gp, 0, none⟩) 3 3, .slice none 0 0], .slice (some ⟨gd, 0, none⟩) 1 1, .string ⟨#[120]⟩] w fun e w' => e = .returned (.int .i64 8) ∧ Ext w w' := by
  have h := ready_any (.string ⟨#[]⟩) (.slice none 0 0) (.slice none 0 0) (.slice none 0 0) _ (D3 ga gc) 3 (.slice none 0 0) [⟨#[99]⟩] (some ⟨gd, 0, none⟩) 1 ⟨#[120]⟩ w hD (Blk.sl hce_s hN) (show 1 ≤ maxLen by decide)
  rw [rdy34] at h
  exact h
theorem exMiss1 (ga gc gp : Nat) (w : World) (hD : DOk w (some ⟨gp, 0, none⟩) (D3 ga gc))  : Calls Try.prog 20 #[.agg #[.string ⟨#[]⟩, .slice none 0 0, .slice none 0 0, .slice none 0 0, .slice (some ⟨gp, 0, none⟩) 3 3, .slice none 0 0], .slice none 0 0, .string ⟨#[97]⟩] w fun e w' => ∃ v, e = .returned v ∧ Ext w w' ∧ Core.Own scell 9 1 w.heap.size w' v L2 := by
  have h := miss_any (.string ⟨#[]⟩) (.slice none 0 0) (.slice none 0 0) (.slice none 0 0) _ (D3 ga gc) 3 (.slice none 0 0) [] none 0 ⟨#[97]⟩ w hD (.inl rfl) (show 0 ≤ maxLen by decide) (show 3 ≤ 1000 by decide)
  rw [mis31] at h
  exact h
theorem exMiss2 (ga gc gp : Nat) (w : World) (hD : DOk w (some ⟨gp, 0, none⟩) (D3 ga gc)) (gd : Nat) (hN : Blk w gd 9 ([⟨#[99]⟩].flatMap scell)) : Calls Try.prog 20 #[.agg #[.string ⟨#[]⟩, .slice none 0 0, .slice none 0 0, .slice none 0 0, .slice (some ⟨gp, 0, none⟩) 3 3, .slice none 0 0], .slice (some ⟨gd, 0, none⟩) 1 1, .string ⟨#[97]⟩] w fun e w' => ∃ v, e = .returned v ∧ Ext w w' ∧ Core.Own scell 9 1 w.heap.size w' v L1 := by
  have h := miss_any (.string ⟨#[]⟩) (.slice none 0 0) (.slice none 0 0) (.slice none 0 0) _ (D3 ga gc) 3 (.slice none 0 0) [⟨#[99]⟩] (some ⟨gd, 0, none⟩) 1 ⟨#[97]⟩ w hD (Blk.sl hce_s hN) (show 1 ≤ maxLen by decide) (show 3 ≤ 1000 by decide)
  rw [mis32] at h
  exact h
theorem exLeft (ga gc gp : Nat) (w : World) (hD : DOk w (some ⟨gp, 0, none⟩) (D3 ga gc)) (gd : Nat) (hN : Blk w gd 9 ([⟨#[98]⟩].flatMap scell)) : Calls Try.prog 22 #[.agg #[.string ⟨#[]⟩, .slice none 0 0, .slice none 0 0, .slice none 0 0, .slice (some ⟨gp, 0, none⟩) 3 3, .slice none 0 0], .slice (some ⟨gd, 0, none⟩) 1 1, .string ⟨#[66]⟩] w fun e w' => e = .returned (.int .i64 2) ∧ Ext w w' := by
  have h := left_any (.string ⟨#[]⟩) (.slice none 0 0) (.slice none 0 0) (.slice none 0 0) _ (D3 ga gc) 3 (.slice none 0 0) [⟨#[98]⟩] (some ⟨gd, 0, none⟩) 1 ⟨#[66]⟩ w hD (Blk.sl hce_s hN) (show 1 ≤ maxLen by decide) (show 3 ≤ 1000 by decide)
  rw [lef3] at h
  exact h
theorem exPct1 (ga gc gp : Nat) (w : World) (hD : DOk w (some ⟨gp, 0, none⟩) (D3 ga gc)) (gd : Nat) (hN : Blk w gd 9 ([⟨#[98]⟩].flatMap scell)) : Calls Try.prog 24 #[.agg #[.string ⟨#[]⟩, .slice none 0 0, .slice none 0 0, .slice none 0 0, .slice (some ⟨gp, 0, none⟩) 3 3, .slice none 0 0], .slice (some ⟨gd, 0, none⟩) 1 1, .string ⟨#[66]⟩] w fun e w' => e = .returned (.int .i64 71) ∧ Ext w w' := by
  have h := pct_any (.string ⟨#[]⟩) (.slice none 0 0) (.slice none 0 0) (.slice none 0 0) _ (D3 ga gc) 3 (.slice none 0 0) [⟨#[98]⟩] (some ⟨gd, 0, none⟩) 1 ⟨#[66]⟩ w hD (Blk.sl hce_s hN) (show 1 ≤ maxLen by decide) (show 3 ≤ 1000 by decide)
  rw [pct31] at h
  exact h
theorem exPct2 (ga gc gp : Nat) (w : World) (hD : DOk w (some ⟨gp, 0, none⟩) (D3 ga gc))  : Calls Try.prog 24 #[.agg #[.string ⟨#[]⟩, .slice none 0 0, .slice none 0 0, .slice none 0 0, .slice (some ⟨gp, 0, none⟩) 3 3, .slice none 0 0], .slice none 0 0, .string ⟨#[68]⟩] w fun e w' => e = .returned (.int .i64 100) ∧ Ext w w' := by
  have h := pct_any (.string ⟨#[]⟩) (.slice none 0 0) (.slice none 0 0) (.slice none 0 0) _ (D3 ga gc) 3 (.slice none 0 0) [] none 0 ⟨#[68]⟩ w hD (.inl rfl) (show 0 ≤ maxLen by decide) (show 3 ≤ 1000 by decide)
  rw [pct32] at h
  exact h
set_option maxHeartbeats 2000000 in
theorem awake_any  (w : World)  :
    Calls Try.prog 11 #[] w fun e w' => e = .returned (.bool (true)) ∧ Ext w w' := by
  refine calls_act Try.func11 rfl Try.ntmps11 rfl rfl ?_
  show Code.wp _ _ _ (act 102 [] _) _
  have hX : Ext w w := Ext.rfl' w
  refine wp_seq ?_
  refine region_s ?_
  refine q_look (look_assign rfl rfl) ?_
  refine q_nil ?_
  rintro _ rfl
  refine then_normal ?_
  refine wp_seq ?_
  refine wp_region_lit ?_
  refine s_call (vs := []) enTry_28 trivial (three_any _) ?_
  rintro _ u1 ⟨ga, gc, gp, rfl, hc1, hD⟩
  refine ⟨_, rfl, ?_⟩
  replace hX := hX.comp hc1
  have hC : Ext u1 u1 := Ext.rfl' u1
  refine s_alloc zeTry_28 ?_
  intro g2 u2 hu2 hB2 hg2 hs2
  have ge_g2 : w.heap.size ≤ g2 := by have := hX.size; omega
  replace hX := hX.comp hu2
  replace hC := hC.comp hu2
  refine s_store szTry_28 rfl (by simp [pcell, scell, Value.cells, Value.oneCell']) rfl rfl hB2 rfl ?_
  intro u3 hk3 hT3
  replace hT3 : Blk u3 g2 28 ([.string ⟨#[]⟩, .slice none 0 0, .slice none 0 0, .slice none 0 0, .slice (some ⟨gp, 0, none⟩) 3 3, .slice none 0 0]) := hT3
  replace hX := hX.kp hk3 (by omega)
  replace hC := hC.kp hk3 (by omega)
  clear hB2
  have hB2 := hT3
  refine s_nil ?_
  refine then_normal ?_
  refine wp_seq ?_
  refine wp_region_lit ?_
  refine s_look (look_loadN Try.underlying28 rfl szTry_28 rfl rfl rfl (eqc_n hB2)) ?_
  refine s_call (vs := [_]) enTry_12 ⟨⟨_, rfl, rfl⟩, trivial⟩ (exOrder ga gc gp _ (hD.ext hC)) ?_
  rintro _ u4 ⟨v4, rfl, hc4, hO⟩
  refine ⟨_, rfl, ?_⟩
  have ne_hO_g2 : Value.ownBlock v4 ≠ some g2 := hO.ne_old hB2.lt
  replace hO := hO.weak hX.size
  replace hX := hX.comp hc4
  replace hC := hC.comp hc4
  replace hB2 := hB2.ext hc4
  obtain ⟨AO, cO, rfl, _, _, _, _⟩ := hO.sl hce_s
  refine s_look (look_move rfl rfl) ?_
  refine s_look (look_extract rfl rfl rfl) ?_
  refine s_look (look_extract rfl rfl rfl) ?_
  refine s_look (look_assign rfl rfl) ?_
  refine s_look (look_assign rfl rfl) ?_
  refine s_nil ?_
  refine then_normal ?_
  refine wp_seq ?_
  refine wp_region_lit ?_
  refine s_look (look_loadN Try.underlying28 rfl szTry_28 rfl rfl rfl (eqc_n hB2)) ?_
  refine s_call (vs := [_]) enTry_14 ⟨⟨_, rfl, rfl⟩, trivial⟩ (exStarts ga gc gp _ (hD.ext hC)) ?_
  rintro _ u5 ⟨v5, rfl, hc5, hS⟩
  refine ⟨_, rfl, ?_⟩
  have dis_hO_hS := Own.dis_new hO hS
  have ne_hS_g2 : Value.ownBlock v5 ≠ some g2 := hS.ne_old hB2.lt
  replace hS := hS.weak hX.size
  replace hX := hX.comp hc5
  replace hC := hC.comp hc5
  replace hB2 := hB2.ext hc5
  replace hO := hO.ext hc5
  obtain ⟨AS, cS, rfl, _, _, _, _⟩ := hS.sl hce_i
  refine s_look (look_move rfl rfl) ?_
  refine s_look (look_extract rfl rfl rfl) ?_
  refine s_look (look_extract rfl rfl rfl) ?_
  refine s_look (look_assign rfl rfl) ?_
  refine s_look (look_assign rfl rfl) ?_
  refine s_nil ?_
  refine then_normal ?_
  refine wp_seq ?_
  refine wp_region_lit ?_
  refine s_buildSlice (parts := [(0, .const (Go.Value.string { data := #[97] }))]) (vs := [(0, _)]) (cells := scell ⟨#[97]⟩) Try.underlying31 szTry_9 zeTry_9 rfl rfl ⟨⟨_, rfl, rfl⟩, trivial⟩ rfl (by kernel_rfl) ?_
  intro g6 u6 hu6 hB6 hg6 hs6
  have lt_g2_g6 : g2 < g6 := by have := hB2.lt; omega
  have ne_hO_g6 : (Value.ownBlock (.slice AO (L3).length cO)) ≠ some g6 := hO.ne_new (by omega)
  have ne_hS_g6 : (Value.ownBlock (.slice AS (LI).length cS)) ≠ some g6 := hS.ne_new (by omega)
  have ge_g6 : w.heap.size ≤ g6 := by have := hX.size; omega
  replace hX := hX.comp hu6
  replace hC := hC.comp hu6
  replace hB2 := hB2.ext hu6
  replace hO := hO.ext hu6
  replace hS := hS.ext hu6
  refine s_look (look_build (pl := [(0, 1), (1, 1), (2, 1), (3, 1), (4, 1)]) (parts := [(0, .const (Go.Value.string { data := #[97] })), (4, .tmp 21)]) (vs := [(0, .string ⟨#[97]⟩), (4, .slice (some ⟨g6, 0, none⟩) 1 1)]) (cells := pcell (PA g6)) Try.underlying48 zeTry_48 (by kernel_rfl) ⟨⟨_, rfl, rfl⟩, ⟨_, rfl, rfl⟩, trivial⟩ rfl (by kernel_rfl)) ?_
  refine s_buildSlice (parts := [(0, .tmp 22)]) (vs := [(0, .agg (pcell (PA g6)).toArray)]) (cells := [PA g6].flatMap pcell) Try.underlying25 szTry_48 zeTry_48 rfl rfl ⟨⟨_, rfl, rfl⟩, trivial⟩ rfl (by kernel_rfl) ?_
  intro g7 u7 hu7 hB7 hg7 hs7
  have lt_g2_g7 : g2 < g7 := by have := hB2.lt; omega
  have lt_g6_g7 : g6 < g7 := by have := hB6.lt; omega
  have ne_hO_g7 : (Value.ownBlock (.slice AO (L3).length cO)) ≠ some g7 := hO.ne_new (by omega)
  have ne_hS_g7 : (Value.ownBlock (.slice AS (LI).length cS)) ≠ some g7 := hS.ne_new (by omega)
  have ge_g7 : w.heap.size ≤ g7 := by have := hX.size; omega
  replace hX := hX.comp hu7
  replace hC := hC.comp hu7
  replace hB2 := hB2.ext hu7
  replace hB6 := hB6.ext hu7
  replace hO := hO.ext hu7
  replace hS := hS.ext hu7
  refine s_look (look_build (pl := [(0, 1), (1, 1), (2, 1), (3, 1), (4, 1), (5, 1)]) (parts := [(4, .tmp 23)]) (vs := [(4, .slice (some ⟨g7, 0, none⟩) 1 1)]) (cells := [.string ⟨#[]⟩, .slice none 0 0, .slice none 0 0, .slice none 0 0, .slice (some ⟨g7, 0, none⟩) 1 1, .slice none 0 0]) Try.underlying28 zeTry_28 (by kernel_rfl) ⟨⟨_, rfl, rfl⟩, trivial⟩ rfl (by kernel_rfl)) ?_
  refine s_call (vs := [_]) enTry_12 ⟨⟨_, rfl, rfl⟩, trivial⟩ (exOrderA g6 g7 _ (DAok hB6 hB7)) ?_
  rintro _ u8 ⟨v8, rfl, hc8, hA⟩
  refine ⟨_, rfl, ?_⟩
  have dis_hO_hA := Own.dis_new hO hA
  have dis_hS_hA := Own.dis_new hS hA
  have ne_hA_g2 : Value.ownBlock v8 ≠ some g2 := hA.ne_old hB2.lt
  have ne_hA_g6 : Value.ownBlock v8 ≠ some g6 := hA.ne_old hB6.lt
  have ne_hA_g7 : Value.ownBlock v8 ≠ some g7 := hA.ne_old hB7.lt
  replace hA := hA.weak hX.size
  replace hX := hX.comp hc8
  replace hC := hC.comp hc8
  replace hB2 := hB2.ext hc8
  replace hB6 := hB6.ext hc8
  replace hB7 := hB7.ext hc8
  replace hO := hO.ext hc8
  replace hS := hS.ext hc8
  refine s_look (look_move rfl rfl) ?_
  refine s_look (look_extract rfl rfl rfl) ?_
  refine s_look (look_extract rfl rfl rfl) ?_
  refine s_look (look_assign rfl rfl) ?_
  refine s_look (look_assign rfl rfl) ?_
  refine s_nil ?_
  refine then_normal ?_
  refine wp_seq ?_
  refine wp_seq ?_
  refine wp_region_lit ?_
  refine s_look (look_move rfl rfl) ?_
  refine s_look (look_neq rfl rfl rfl rfl) ?_
  refine s_look (look_move rfl rfl) ?_
  refine s_want rfl rfl rfl (by decide +kernel) ?_
  refine s_look (look_move rfl rfl) ?_
  refine s_want rfl rfl rfl (by decide +kernel) ?_
  refine s_look (look_neq rfl rfl rfl rfl) ?_
  refine s_look (look_or2 rfl rfl rfl rfl) ?_
  refine s_look (look_move rfl rfl) ?_
  refine s_want rfl rfl rfl (by decide +kernel) ?_
  refine s_look (look_move rfl rfl) ?_
  refine s_want rfl rfl rfl (by decide +kernel) ?_
  refine s_look (look_neq rfl rfl rfl rfl) ?_
  refine s_look (look_or2 rfl rfl rfl rfl) ?_
  refine s_look (look_move rfl rfl) ?_
  refine s_want rfl rfl rfl (by decide +kernel) ?_
  refine s_look (look_move rfl rfl) ?_
  refine s_want rfl rfl rfl (by decide +kernel) ?_
  refine s_buildSlice (parts := [(0, .const (Go.Value.string { data := #[98] })), (1, .const (Go.Value.string { data := #[99] })), (2, .const (Go.Value.string { data := #[97] }))]) (vs := [(0, _), (1, _), (2, _)]) (cells := L3.flatMap scell) Try.underlying31 szTry_9 zeTry_9 rfl rfl ⟨⟨_, rfl, rfl⟩, ⟨_, rfl, rfl⟩, ⟨_, rfl, rfl⟩, trivial⟩ rfl (by kernel_rfl) ?_
  intro g9 u9 hu9 hB9 hg9 hs9
  have lt_g2_g9 : g2 < g9 := by have := hB2.lt; omega
  have lt_g6_g9 : g6 < g9 := by have := hB6.lt; omega
  have lt_g7_g9 : g7 < g9 := by have := hB7.lt; omega
  have ne_hO_g9 : (Value.ownBlock (.slice AO (L3).length cO)) ≠ some g9 := hO.ne_new (by omega)
  have ne_hS_g9 : (Value.ownBlock (.slice AS (LI).length cS)) ≠ some g9 := hS.ne_new (by omega)
  have ne_hA_g9 : (Value.ownBlock (v8)) ≠ some g9 := hA.ne_new (by omega)
  have ge_g9 : w.heap.size ≤ g9 := by have := hX.size; omega
  replace hX := hX.comp hu9
  replace hC := hC.comp hu9
  replace hB2 := hB2.ext hu9
  replace hB6 := hB6.ext hu9
  replace hB7 := hB7.ext hu9
  replace hO := hO.ext hu9
  replace hS := hS.ext hu9
  replace hA := hA.ext hu9
  refine s_want rfl rfl rfl (by decide +kernel) ?_
  refine s_call (vs := [_, _]) enTry_16 ⟨⟨_, rfl, rfl⟩, ⟨_, rfl, rfl⟩, trivial⟩ (call_true (same_any L3 L3 AO (some ⟨g9, 0, none⟩) cO 3 _ (hO.slOf hce_s).1 (Blk.sl hce_s hB9) (show 3 ≤ maxLen by decide)) (decide_eq_true rfl)) ?_
  rintro _ u10 ⟨rfl, hc10⟩
  refine ⟨_, rfl, ?_⟩
  replace hX := hX.comp hc10
  replace hC := hC.comp hc10
  replace hB2 := hB2.ext hc10
  replace hB6 := hB6.ext hc10
  replace hB7 := hB7.ext hc10
  replace hB9 := hB9.ext hc10
  replace hO := hO.ext hc10
  replace hS := hS.ext hc10
  replace hA := hA.ext hc10
  refine s_want rfl rfl rfl (by decide +kernel) ?_
  refine s_look (look_not rfl rfl) ?_
  refine s_look (look_or2 rfl rfl rfl rfl) ?_
  refine s_look (look_move rfl rfl) ?_
  refine s_want rfl rfl rfl (by decide +kernel) ?_
  refine s_look (look_move rfl rfl) ?_
  refine s_want rfl rfl rfl (by decide +kernel) ?_
  refine s_buildSlice (parts := [(0, .const (Go.Value.int Go.IntKind.i64 8)), (1, .const (Go.Value.int Go.IntKind.i64 0)), (2, .const (Go.Value.int Go.IntKind.i64 5))]) (vs := [(0, _), (1, _), (2, _)]) (cells := LI.flatMap icell) Try.underlying35 szTry_3 zeTry_3 rfl rfl ⟨⟨_, rfl, rfl⟩, ⟨_, rfl, rfl⟩, ⟨_, rfl, rfl⟩, trivial⟩ rfl (by kernel_rfl) ?_
  intro g11 u11 hu11 hB11 hg11 hs11
  have lt_g2_g11 : g2 < g11 := by have := hB2.lt; omega
  have lt_g6_g11 : g6 < g11 := by have := hB6.lt; omega
  have lt_g7_g11 : g7 < g11 := by have := hB7.lt; omega
  have lt_g9_g11 : g9 < g11 := by have := hB9.lt; omega
  have ne_hO_g11 : (Value.ownBlock (.slice AO (L3).length cO)) ≠ some g11 := hO.ne_new (by omega)
  have ne_hS_g11 : (Value.ownBlock (.slice AS (LI).length cS)) ≠ some g11 := hS.ne_new (by omega)
  have ne_hA_g11 : (Value.ownBlock (v8)) ≠ some g11 := hA.ne_new (by omega)
  have ge_g11 : w.heap.size ≤ g11 := by have := hX.size; omega
  replace hX := hX.comp hu11
  replace hC := hC.comp hu11
  replace hB2 := hB2.ext hu11
  replace hB6 := hB6.ext hu11
  replace hB7 := hB7.ext hu11
  replace hB9 := hB9.ext hu11
  replace hO := hO.ext hu11
  replace hS := hS.ext hu11
  replace hA := hA.ext hu11
  refine s_want rfl rfl rfl (by decide +kernel) ?_
  refine s_call (vs := [_, _]) enTry_17 ⟨⟨_, rfl, rfl⟩, ⟨_, rfl, rfl⟩, trivial⟩ (call_true (sameints_any LI LI AS (some ⟨g11, 0, none⟩) cS 3 _ (hS.slOf hce_i).1 (Blk.sl hce_i hB11) (show 3 ≤ maxLen by decide)) (decide_eq_true rfl)) ?_
  rintro _ u12 ⟨rfl, hc12⟩
  refine ⟨_, rfl, ?_⟩
  replace hX := hX.comp hc12
  replace hC := hC.comp hc12
  replace hB2 := hB2.ext hc12
  replace hB6 := hB6.ext hc12
  replace hB7 := hB7.ext hc12
  replace hB9 := hB9.ext hc12
  replace hB11 := hB11.ext hc12
  replace hO := hO.ext hc12
  replace hS := hS.ext hc12
  replace hA := hA.ext hc12
  refine s_want rfl rfl rfl (by decide +kernel) ?_
  refine s_look (look_not rfl rfl) ?_
  refine s_look (look_or2 rfl rfl rfl rfl) ?_
  refine s_nil ?_
  refine then_normal ?_
  refine cond_false rfl (by decide +kernel) ?_
  refine wp_skip ?_
  refine then_normal ?_
  refine wp_seq ?_
  refine wp_region_lit ?_
  refine s_buildSlice (parts := [(0, .const (Go.Value.string { data := #[99] }))]) (vs := [(0, _)]) (cells := LC.flatMap scell) Try.underlying31 szTry_9 zeTry_9 rfl rfl ⟨⟨_, rfl, rfl⟩, trivial⟩ rfl (by kernel_rfl) ?_
  intro g13 u13 hu13 hB13 hg13 hs13
  have lt_g2_g13 : g2 < g13 := by have := hB2.lt; omega
  have lt_g6_g13 : g6 < g13 := by have := hB6.lt; omega
  have lt_g7_g13 : g7 < g13 := by have := hB7.lt; omega
  have lt_g9_g13 : g9 < g13 := by have := hB9.lt; omega
  have lt_g11_g13 : g11 < g13 := by have := hB11.lt; omega
  have ne_hO_g13 : (Value.ownBlock (.slice AO (L3).length cO)) ≠ some g13 := hO.ne_new (by omega)
  have ne_hS_g13 : (Value.ownBlock (.slice AS (LI).length cS)) ≠ some g13 := hS.ne_new (by omega)
  have ne_hA_g13 : (Value.ownBlock (v8)) ≠ some g13 := hA.ne_new (by omega)
  have ge_g13 : w.heap.size ≤ g13 := by have := hX.size; omega
  replace hX := hX.comp hu13
  replace hC := hC.comp hu13
  replace hB2 := hB2.ext hu13
  replace hB6 := hB6.ext hu13
  replace hB7 := hB7.ext hu13
  replace hB9 := hB9.ext hu13
  replace hB11 := hB11.ext hu13
  replace hO := hO.ext hu13
  replace hS := hS.ext hu13
  replace hA := hA.ext hu13
  refine s_look (look_assign rfl rfl) ?_
  refine s_nil ?_
  refine then_normal ?_
  refine wp_seq ?_
  refine wp_region_lit ?_
  refine s_look (look_loadN Try.underlying28 rfl szTry_28 rfl rfl rfl (eqc_n hB2)) ?_
  refine s_call (vs := [_, _, _]) enTry_18 ⟨⟨_, rfl, rfl⟩, ⟨_, rfl, rfl⟩, ⟨_, rfl, rfl⟩, trivial⟩ (exReady1 ga gc gp _ (hD.ext hC)) ?_
  rintro _ u14 ⟨rfl, hc14⟩
  refine ⟨_, rfl, ?_⟩
  replace hX := hX.comp hc14
  replace hC := hC.comp hc14
  replace hB2 := hB2.ext hc14
  replace hB6 := hB6.ext hc14
  replace hB7 := hB7.ext hc14
  replace hB9 := hB9.ext hc14
  replace hB11 := hB11.ext hc14
  replace hB13 := hB13.ext hc14
  replace hO := hO.ext hc14
  replace hS := hS.ext hc14
  replace hA := hA.ext hc14
  refine s_look (look_eql rfl rfl rfl rfl) ?_
  refine s_look (look_move rfl rfl) ?_
  refine s_want rfl rfl rfl (by decide +kernel) ?_
  refine s_look (look_loadN Try.underlying28 rfl szTry_28 rfl rfl rfl (eqc_n hB2)) ?_
  refine s_want rfl rfl rfl (by decide +kernel) ?_
  refine s_look (look_move rfl rfl) ?_
  refine s_want rfl rfl rfl (by decide +kernel) ?_
  refine s_call (vs := [_, _, _]) enTry_18 ⟨⟨_, rfl, rfl⟩, ⟨_, rfl, rfl⟩, ⟨_, rfl, rfl⟩, trivial⟩ (exReady2 ga gc gp _ (hD.ext hC) g13 hB13) ?_
  rintro _ u15 ⟨rfl, hc15⟩
  refine ⟨_, rfl, ?_⟩
  replace hX := hX.comp hc15
  replace hC := hC.comp hc15
  replace hB2 := hB2.ext hc15
  replace hB6 := hB6.ext hc15
  replace hB7 := hB7.ext hc15
  replace hB9 := hB9.ext hc15
  replace hB11 := hB11.ext hc15
  replace hB13 := hB13.ext hc15
  replace hO := hO.ext hc15
  replace hS := hS.ext hc15
  replace hA := hA.ext hc15
  refine s_want rfl rfl rfl (by decide +kernel) ?_
  refine s_look (look_eql rfl rfl rfl rfl) ?_
  refine s_look (look_and2 rfl rfl rfl rfl) ?_
  refine s_look (look_move rfl rfl) ?_
  refine s_want rfl rfl rfl (by decide +kernel) ?_
  refine s_look (look_loadN Try.underlying28 rfl szTry_28 rfl rfl rfl (eqc_n hB2)) ?_
  refine s_want rfl rfl rfl (by decide +kernel) ?_
  refine s_look (look_move rfl rfl) ?_
  refine s_want rfl rfl rfl (by decide +kernel) ?_
  refine s_call (vs := [_, _, _]) enTry_18 ⟨⟨_, rfl, rfl⟩, ⟨_, rfl, rfl⟩, ⟨_, rfl, rfl⟩, trivial⟩ (exReady3 ga gc gp _ (hD.ext hC) g13 hB13) ?_
  rintro _ u16 ⟨rfl, hc16⟩
  refine ⟨_, rfl, ?_⟩
  replace hX := hX.comp hc16
  replace hC := hC.comp hc16
  replace hB2 := hB2.ext hc16
  replace hB6 := hB6.ext hc16
  replace hB7 := hB7.ext hc16
  replace hB9 := hB9.ext hc16
  replace hB11 := hB11.ext hc16
  replace hB13 := hB13.ext hc16
  replace hO := hO.ext hc16
  replace hS := hS.ext hc16
  replace hA := hA.ext hc16
  refine s_want rfl rfl rfl (by decide +kernel) ?_
  refine s_look (look_eql rfl rfl rfl rfl) ?_
  refine s_look (look_and2 rfl rfl rfl rfl) ?_
  refine s_look (look_move rfl rfl) ?_
  refine s_want rfl rfl rfl (by decide +kernel) ?_
  refine s_look (look_loadN Try.underlying28 rfl szTry_28 rfl rfl rfl (eqc_n hB2)) ?_
  refine s_want rfl rfl rfl (by decide +kernel) ?_
  refine s_look (look_move rfl rfl) ?_
  refine s_want rfl rfl rfl (by decide +kernel) ?_
  refine s_call (vs := [_, _, _]) enTry_18 ⟨⟨_, rfl, rfl⟩, ⟨_, rfl, rfl⟩, ⟨_, rfl, rfl⟩, trivial⟩ (exReady4 ga gc gp _ (hD.ext hC) g13 hB13) ?_
  rintro _ u17 ⟨rfl, hc17⟩
  refine ⟨_, rfl, ?_⟩
  replace hX := hX.comp hc17
  replace hC := hC.comp hc17
  replace hB2 := hB2.ext hc17
  replace hB6 := hB6.ext hc17
  replace hB7 := hB7.ext hc17
  replace hB9 := hB9.ext hc17
  replace hB11 := hB11.ext hc17
  replace hB13 := hB13.ext hc17
  replace hO := hO.ext hc17
  replace hS := hS.ext hc17
  replace hA := hA.ext hc17
  refine s_want rfl rfl rfl (by decide +kernel) ?_
  refine s_look (look_eql rfl rfl rfl rfl) ?_
  refine s_look (look_and2 rfl rfl rfl rfl) ?_
  refine s_look (look_move rfl rfl) ?_
  refine s_want rfl rfl rfl (by decide +kernel) ?_
  refine s_look (look_loadN Try.underlying28 rfl szTry_28 rfl rfl rfl (eqc_n hB2)) ?_
  refine s_want rfl rfl rfl (by decide +kernel) ?_
  refine s_call (vs := [_, _, _]) enTry_20 ⟨⟨_, rfl, rfl⟩, ⟨_, rfl, rfl⟩, ⟨_, rfl, rfl⟩, trivial⟩ (exMiss1 ga gc gp _ (hD.ext hC)) ?_
  rintro _ u18 ⟨v18, rfl, hc18, hM⟩
  refine ⟨_, rfl, ?_⟩
  have dis_hO_hM := Own.dis_new hO hM
  have dis_hS_hM := Own.dis_new hS hM
  have dis_hA_hM := Own.dis_new hA hM
  have ne_hM_g2 : Value.ownBlock v18 ≠ some g2 := hM.ne_old hB2.lt
  have ne_hM_g6 : Value.ownBlock v18 ≠ some g6 := hM.ne_old hB6.lt
  have ne_hM_g7 : Value.ownBlock v18 ≠ some g7 := hM.ne_old hB7.lt
  have ne_hM_g9 : Value.ownBlock v18 ≠ some g9 := hM.ne_old hB9.lt
  have ne_hM_g11 : Value.ownBlock v18 ≠ some g11 := hM.ne_old hB11.lt
  have ne_hM_g13 : Value.ownBlock v18 ≠ some g13 := hM.ne_old hB13.lt
  replace hM := hM.weak hX.size
  replace hX := hX.comp hc18
  replace hC := hC.comp hc18
  replace hB2 := hB2.ext hc18
  replace hB6 := hB6.ext hc18
  replace hB7 := hB7.ext hc18
  replace hB9 := hB9.ext hc18
  replace hB11 := hB11.ext hc18
  replace hB13 := hB13.ext hc18
  replace hO := hO.ext hc18
  replace hS := hS.ext hc18
  replace hA := hA.ext hc18
  obtain ⟨AM, cM, rfl, _, _, _, _⟩ := hM.sl hce_s
  refine s_want rfl rfl rfl (by decide +kernel) ?_
  refine s_buildSlice (parts := [(0, .const (Go.Value.string { data := #[98] })), (1, .const (Go.Value.string { data := #[99] }))]) (vs := [(0, _), (1, _)]) (cells := L2.flatMap scell) Try.underlying31 szTry_9 zeTry_9 rfl rfl ⟨⟨_, rfl, rfl⟩, ⟨_, rfl, rfl⟩, trivial⟩ rfl (by kernel_rfl) ?_
  intro g19 u19 hu19 hB19 hg19 hs19
  have lt_g2_g19 : g2 < g19 := by have := hB2.lt; omega
  have lt_g6_g19 : g6 < g19 := by have := hB6.lt; omega
  have lt_g7_g19 : g7 < g19 := by have := hB7.lt; omega
  have lt_g9_g19 : g9 < g19 := by have := hB9.lt; omega
  have lt_g11_g19 : g11 < g19 := by have := hB11.lt; omega
  have lt_g13_g19 : g13 < g19 := by have := hB13.lt; omega
  have ne_hO_g19 : (Value.ownBlock (.slice AO (L3).length cO)) ≠ some g19 := hO.ne_new (by omega)
  have ne_hS_g19 : (Value.ownBlock (.slice AS (LI).length cS)) ≠ some g19 := hS.ne_new (by omega)
  have ne_hA_g19 : (Value.ownBlock (v8)) ≠ some g19 := hA.ne_new (by omega)
  have ne_hM_g19 : (Value.ownBlock (.slice AM (L2).length cM)) ≠ some g19 := hM.ne_new (by omega)
  have ge_g19 : w.heap.size ≤ g19 := by have := hX.size; omega
  replace hX := hX.comp hu19
  replace hC := hC.comp hu19
  replace hB2 := hB2.ext hu19
  replace hB6 := hB6.ext hu19
  replace hB7 := hB7.ext hu19
  replace hB9 := hB9.ext hu19
  replace hB11 := hB11.ext hu19
  replace hB13 := hB13.ext hu19
  replace hO := hO.ext hu19
  replace hS := hS.ext hu19
  replace hA := hA.ext hu19
  replace hM := hM.ext hu19
  refine s_want rfl rfl rfl (by decide +kernel) ?_
  refine s_call (vs := [_, _]) enTry_16 ⟨⟨_, rfl, rfl⟩, ⟨_, rfl, rfl⟩, trivial⟩ (call_true (same_any L2 L2 AM (some ⟨g19, 0, none⟩) cM 2 _ (hM.slOf hce_s).1 (Blk.sl hce_s hB19) (show 2 ≤ maxLen by decide)) (decide_eq_true rfl)) ?_
  rintro _ u20 ⟨rfl, hc20⟩
  refine ⟨_, rfl, ?_⟩
  replace hX := hX.comp hc20
  replace hC := hC.comp hc20
  replace hB2 := hB2.ext hc20
  replace hB6 := hB6.ext hc20
  replace hB7 := hB7.ext hc20
  replace hB9 := hB9.ext hc20
  replace hB11 := hB11.ext hc20
  replace hB13 := hB13.ext hc20
  replace hB19 := hB19.ext hc20
  replace hO := hO.ext hc20
  replace hS := hS.ext hc20
  replace hA := hA.ext hc20
  replace hM := hM.ext hc20
  refine s_look (look_and2 rfl rfl rfl rfl) ?_
  refine s_look (look_move rfl rfl) ?_
  refine s_want rfl rfl rfl (by decide +kernel) ?_
  refine s_look (look_loadN Try.underlying28 rfl szTry_28 rfl rfl rfl (eqc_n hB2)) ?_
  refine s_want rfl rfl rfl (by decide +kernel) ?_
  refine s_look (look_move rfl rfl) ?_
  refine s_want rfl rfl rfl (by decide +kernel) ?_
  refine s_call (vs := [_, _, _]) enTry_20 ⟨⟨_, rfl, rfl⟩, ⟨_, rfl, rfl⟩, ⟨_, rfl, rfl⟩, trivial⟩ (exMiss2 ga gc gp _ (hD.ext hC) g13 hB13) ?_
  rintro _ u21 ⟨v21, rfl, hc21, hM2⟩
  refine ⟨_, rfl, ?_⟩
  have dis_hO_hM2 := Own.dis_new hO hM2
  have dis_hS_hM2 := Own.dis_new hS hM2
  have dis_hA_hM2 := Own.dis_new hA hM2
  have dis_hM_hM2 := Own.dis_new hM hM2
  have ne_hM2_g2 : Value.ownBlock v21 ≠ some g2 := hM2.ne_old hB2.lt
  have ne_hM2_g6 : Value.ownBlock v21 ≠ some g6 := hM2.ne_old hB6.lt
  have ne_hM2_g7 : Value.ownBlock v21 ≠ some g7 := hM2.ne_old hB7.lt
  have ne_hM2_g9 : Value.ownBlock v21 ≠ some g9 := hM2.ne_old hB9.lt
  have ne_hM2_g11 : Value.ownBlock v21 ≠ some g11 := hM2.ne_old hB11.lt
  have ne_hM2_g13 : Value.ownBlock v21 ≠ some g13 := hM2.ne_old hB13.lt
  have ne_hM2_g19 : Value.ownBlock v21 ≠ some g19 := hM2.ne_old hB19.lt
  replace hM2 := hM2.weak hX.size
  replace hX := hX.comp hc21
  replace hC := hC.comp hc21
  replace hB2 := hB2.ext hc21
  replace hB6 := hB6.ext hc21
  replace hB7 := hB7.ext hc21
  replace hB9 := hB9.ext hc21
  replace hB11 := hB11.ext hc21
  replace hB13 := hB13.ext hc21
  replace hB19 := hB19.ext hc21
  replace hO := hO.ext hc21
  replace hS := hS.ext hc21
  replace hA := hA.ext hc21
  replace hM := hM.ext hc21
  obtain ⟨AM2, cM2, rfl, _, _, _, _⟩ := hM2.sl hce_s
  refine s_want rfl rfl rfl (by decide +kernel) ?_
  refine s_buildSlice (parts := [(0, .const (Go.Value.string { data := #[98] }))]) (vs := [(0, _)]) (cells := L1.flatMap scell) Try.underlying31 szTry_9 zeTry_9 rfl rfl ⟨⟨_, rfl, rfl⟩, trivial⟩ rfl (by kernel_rfl) ?_
  intro g22 u22 hu22 hB22 hg22 hs22
  have lt_g2_g22 : g2 < g22 := by have := hB2.lt; omega
  have lt_g6_g22 : g6 < g22 := by have := hB6.lt; omega
  have lt_g7_g22 : g7 < g22 := by have := hB7.lt; omega
  have lt_g9_g22 : g9 < g22 := by have := hB9.lt; omega
  have lt_g11_g22 : g11 < g22 := by have := hB11.lt; omega
  have lt_g13_g22 : g13 < g22 := by have := hB13.lt; omega
  have lt_g19_g22 : g19 < g22 := by have := hB19.lt; omega
  have ne_hO_g22 : (Value.ownBlock (.slice AO (L3).length cO)) ≠ some g22 := hO.ne_new (by omega)
  have ne_hS_g22 : (Value.ownBlock (.slice AS (LI).length cS)) ≠ some g22 := hS.ne_new (by omega)
  have ne_hA_g22 : (Value.ownBlock (v8)) ≠ some g22 := hA.ne_new (by omega)
  have ne_hM_g22 : (Value.ownBlock (.slice AM (L2).length cM)) ≠ some g22 := hM.ne_new (by omega)
  have ne_hM2_g22 : (Value.ownBlock (.slice AM2 (L1).length cM2)) ≠ some g22 := hM2.ne_new (by omega)
  have ge_g22 : w.heap.size ≤ g22 := by have := hX.size; omega
  replace hX := hX.comp hu22
  replace hC := hC.comp hu22
  replace hB2 := hB2.ext hu22
  replace hB6 := hB6.ext hu22
  replace hB7 := hB7.ext hu22
  replace hB9 := hB9.ext hu22
  replace hB11 := hB11.ext hu22
  replace hB13 := hB13.ext hu22
  replace hB19 := hB19.ext hu22
  replace hO := hO.ext hu22
  replace hS := hS.ext hu22
  replace hA := hA.ext hu22
  replace hM := hM.ext hu22
  replace hM2 := hM2.ext hu22
  refine s_want rfl rfl rfl (by decide +kernel) ?_
  refine s_call (vs := [_, _]) enTry_16 ⟨⟨_, rfl, rfl⟩, ⟨_, rfl, rfl⟩, trivial⟩ (call_true (same_any L1 L1 AM2 (some ⟨g22, 0, none⟩) cM2 1 _ (hM2.slOf hce_s).1 (Blk.sl hce_s hB22) (show 1 ≤ maxLen by decide)) (decide_eq_true rfl)) ?_
  rintro _ u23 ⟨rfl, hc23⟩
  refine ⟨_, rfl, ?_⟩
  replace hX := hX.comp hc23
  replace hC := hC.comp hc23
  replace hB2 := hB2.ext hc23
  replace hB6 := hB6.ext hc23
  replace hB7 := hB7.ext hc23
  replace hB9 := hB9.ext hc23
  replace hB11 := hB11.ext hc23
  replace hB13 := hB13.ext hc23
  replace hB19 := hB19.ext hc23
  replace hB22 := hB22.ext hc23
  replace hO := hO.ext hc23
  replace hS := hS.ext hc23
  replace hA := hA.ext hc23
  replace hM := hM.ext hc23
  replace hM2 := hM2.ext hc23
  refine s_look (look_and2 rfl rfl rfl rfl) ?_
  refine s_look (look_move rfl rfl) ?_
  refine s_want rfl rfl rfl (by decide +kernel) ?_
  refine s_look (look_loadN Try.underlying28 rfl szTry_28 rfl rfl rfl (eqc_n hB2)) ?_
  refine s_want rfl rfl rfl (by decide +kernel) ?_
  refine s_buildSlice (parts := [(0, .const (Go.Value.string { data := #[98] }))]) (vs := [(0, _)]) (cells := L1.flatMap scell) Try.underlying31 szTry_9 zeTry_9 rfl rfl ⟨⟨_, rfl, rfl⟩, trivial⟩ rfl (by kernel_rfl) ?_
  intro g24 u24 hu24 hB24 hg24 hs24
  have lt_g2_g24 : g2 < g24 := by have := hB2.lt; omega
  have lt_g6_g24 : g6 < g24 := by have := hB6.lt; omega
  have lt_g7_g24 : g7 < g24 := by have := hB7.lt; omega
  have lt_g9_g24 : g9 < g24 := by have := hB9.lt; omega
  have lt_g11_g24 : g11 < g24 := by have := hB11.lt; omega
  have lt_g13_g24 : g13 < g24 := by have := hB13.lt; omega
  have lt_g19_g24 : g19 < g24 := by have := hB19.lt; omega
  have lt_g22_g24 : g22 < g24 := by have := hB22.lt; omega
  have ne_hO_g24 : (Value.ownBlock (.slice AO (L3).length cO)) ≠ some g24 := hO.ne_new (by omega)
  have ne_hS_g24 : (Value.ownBlock (.slice AS (LI).length cS)) ≠ some g24 := hS.ne_new (by omega)
  have ne_hA_g24 : (Value.ownBlock (v8)) ≠ some g24 := hA.ne_new (by omega)
  have ne_hM_g24 : (Value.ownBlock (.slice AM (L2).length cM)) ≠ some g24 := hM.ne_new (by omega)
  have ne_hM2_g24 : (Value.ownBlock (.slice AM2 (L1).length cM2)) ≠ some g24 := hM2.ne_new (by omega)
  have ge_g24 : w.heap.size ≤ g24 := by have := hX.size; omega
  replace hX := hX.comp hu24
  replace hC := hC.comp hu24
  replace hB2 := hB2.ext hu24
  replace hB6 := hB6.ext hu24
  replace hB7 := hB7.ext hu24
  replace hB9 := hB9.ext hu24
  replace hB11 := hB11.ext hu24
  replace hB13 := hB13.ext hu24
  replace hB19 := hB19.ext hu24
  replace hB22 := hB22.ext hu24
  replace hO := hO.ext hu24
  replace hS := hS.ext hu24
  replace hA := hA.ext hu24
  replace hM := hM.ext hu24
  replace hM2 := hM2.ext hu24
  refine s_want rfl rfl rfl (by decide +kernel) ?_
  refine s_call (vs := [_, _, _]) enTry_22 ⟨⟨_, rfl, rfl⟩, ⟨_, rfl, rfl⟩, ⟨_, rfl, rfl⟩, trivial⟩ (exLeft ga gc gp _ (hD.ext hC) g24 hB24) ?_
  rintro _ u25 ⟨rfl, hc25⟩
  refine ⟨_, rfl, ?_⟩
  replace hX := hX.comp hc25
  replace hC := hC.comp hc25
  replace hB2 := hB2.ext hc25
  replace hB6 := hB6.ext hc25
  replace hB7 := hB7.ext hc25
  replace hB9 := hB9.ext hc25
  replace hB11 := hB11.ext hc25
  replace hB13 := hB13.ext hc25
  replace hB19 := hB19.ext hc25
  replace hB22 := hB22.ext hc25
  replace hB24 := hB24.ext hc25
  replace hO := hO.ext hc25
  replace hS := hS.ext hc25
  replace hA := hA.ext hc25
  replace hM := hM.ext hc25
  replace hM2 := hM2.ext hc25
  refine s_want rfl rfl rfl (by decide +kernel) ?_
  refine s_look (look_eql rfl rfl rfl rfl) ?_
  refine s_look (look_and2 rfl rfl rfl rfl) ?_
  refine s_look (look_move rfl rfl) ?_
  refine s_want rfl rfl rfl (by decide +kernel) ?_
  refine s_look (look_loadN Try.underlying28 rfl szTry_28 rfl rfl rfl (eqc_n hB2)) ?_
  refine s_want rfl rfl rfl (by decide +kernel) ?_
  refine s_buildSlice (parts := [(0, .const (Go.Value.string { data := #[98] }))]) (vs := [(0, _)]) (cells := L1.flatMap scell) Try.underlying31 szTry_9 zeTry_9 rfl rfl ⟨⟨_, rfl, rfl⟩, trivial⟩ rfl (by kernel_rfl) ?_
  intro g26 u26 hu26 hB26 hg26 hs26
  have lt_g2_g26 : g2 < g26 := by have := hB2.lt; omega
  have lt_g6_g26 : g6 < g26 := by have := hB6.lt; omega
  have lt_g7_g26 : g7 < g26 := by have := hB7.lt; omega
  have lt_g9_g26 : g9 < g26 := by have := hB9.lt; omega
  have lt_g11_g26 : g11 < g26 := by have := hB11.lt; omega
  have lt_g13_g26 : g13 < g26 := by have := hB13.lt; omega
  have lt_g19_g26 : g19 < g26 := by have := hB19.lt; omega
  have lt_g22_g26 : g22 < g26 := by have := hB22.lt; omega
  have lt_g24_g26 : g24 < g26 := by have := hB24.lt; omega
  have ne_hO_g26 : (Value.ownBlock (.slice AO (L3).length cO)) ≠ some g26 := hO.ne_new (by omega)
  have ne_hS_g26 : (Value.ownBlock (.slice AS (LI).length cS)) ≠ some g26 := hS.ne_new (by omega)
  have ne_hA_g26 : (Value.ownBlock (v8)) ≠ some g26 := hA.ne_new (by omega)
  have ne_hM_g26 : (Value.ownBlock (.slice AM (L2).length cM)) ≠ some g26 := hM.ne_new (by omega)
  have ne_hM2_g26 : (Value.ownBlock (.slice AM2 (L1).length cM2)) ≠ some g26 := hM2.ne_new (by omega)
  have ge_g26 : w.heap.size ≤ g26 := by have := hX.size; omega
  replace hX := hX.comp hu26
  replace hC := hC.comp hu26
  replace hB2 := hB2.ext hu26
  replace hB6 := hB6.ext hu26
  replace hB7 := hB7.ext hu26
  replace hB9 := hB9.ext hu26
  replace hB11 := hB11.ext hu26
  replace hB13 := hB13.ext hu26
  replace hB19 := hB19.ext hu26
  replace hB22 := hB22.ext hu26
  replace hB24 := hB24.ext hu26
  replace hO := hO.ext hu26
  replace hS := hS.ext hu26
  replace hA := hA.ext hu26
  replace hM := hM.ext hu26
  replace hM2 := hM2.ext hu26
  refine s_want rfl rfl rfl (by decide +kernel) ?_
  refine s_call (vs := [_, _, _]) enTry_24 ⟨⟨_, rfl, rfl⟩, ⟨_, rfl, rfl⟩, ⟨_, rfl, rfl⟩, trivial⟩ (exPct1 ga gc gp _ (hD.ext hC) g26 hB26) ?_
  rintro _ u27 ⟨rfl, hc27⟩
  refine ⟨_, rfl, ?_⟩
  replace hX := hX.comp hc27
  replace hC := hC.comp hc27
  replace hB2 := hB2.ext hc27
  replace hB6 := hB6.ext hc27
  replace hB7 := hB7.ext hc27
  replace hB9 := hB9.ext hc27
  replace hB11 := hB11.ext hc27
  replace hB13 := hB13.ext hc27
  replace hB19 := hB19.ext hc27
  replace hB22 := hB22.ext hc27
  replace hB24 := hB24.ext hc27
  replace hB26 := hB26.ext hc27
  replace hO := hO.ext hc27
  replace hS := hS.ext hc27
  replace hA := hA.ext hc27
  replace hM := hM.ext hc27
  replace hM2 := hM2.ext hc27
  refine s_want rfl rfl rfl (by decide +kernel) ?_
  refine s_look (look_eql rfl rfl rfl rfl) ?_
  refine s_look (look_and2 rfl rfl rfl rfl) ?_
  refine s_look (look_move rfl rfl) ?_
  refine s_want rfl rfl rfl (by decide +kernel) ?_
  refine s_look (look_loadN Try.underlying28 rfl szTry_28 rfl rfl rfl (eqc_n hB2)) ?_
  refine s_want rfl rfl rfl (by decide +kernel) ?_
  refine s_call (vs := [_, _, _]) enTry_24 ⟨⟨_, rfl, rfl⟩, ⟨_, rfl, rfl⟩, ⟨_, rfl, rfl⟩, trivial⟩ (exPct2 ga gc gp _ (hD.ext hC)) ?_
  rintro _ u28 ⟨rfl, hc28⟩
  refine ⟨_, rfl, ?_⟩
  replace hX := hX.comp hc28
  replace hC := hC.comp hc28
  replace hB2 := hB2.ext hc28
  replace hB6 := hB6.ext hc28
  replace hB7 := hB7.ext hc28
  replace hB9 := hB9.ext hc28
  replace hB11 := hB11.ext hc28
  replace hB13 := hB13.ext hc28
  replace hB19 := hB19.ext hc28
  replace hB22 := hB22.ext hc28
  replace hB24 := hB24.ext hc28
  replace hB26 := hB26.ext hc28
  replace hO := hO.ext hc28
  replace hS := hS.ext hc28
  replace hA := hA.ext hc28
  replace hM := hM.ext hc28
  replace hM2 := hM2.ext hc28
  refine s_want rfl rfl rfl (by decide +kernel) ?_
  refine s_look (look_eql rfl rfl rfl rfl) ?_
  refine s_look (look_and2 rfl rfl rfl rfl) ?_
  refine s_look (look_assign rfl rfl) ?_
  refine s_nil ?_
  refine then_normal ?_
  refine wp_ret ?_
  exact res1 Try.results11 rfl ⟨ret_bool (by decide +kernel), hX⟩


def idsP (ps : List Pk) : List ByteArray := ps.map (·.id)
def soundP (ps : List Pk) : Prop := (idsP ps).Nodup ∧ ∀ p ∈ ps, ∀ x ∈ p.after, x ∈ idsP ps
noncomputable def soundB (ps : List Pk) : Bool := @decide (soundP ps) (Classical.propDecidable _)
theorem soundB_t {ps : List Pk} : soundB ps = true ↔ soundP ps := by unfold soundB; exact @decide_eq_true_iff _ (Classical.propDecidable _)
theorem sound_f {ps : List Pk} (h : ¬ soundP ps) : soundB ps = false := by
  cases e : soundB ps
  · rfl
  · exact (h (soundB_t.1 e)).elim
theorem ids_snoc {ps : List Pk} {k : Nat} {p : Pk} (h : ps[k]? = some p) : (ps.take (k + 1)).map (·.id) = (ps.take k).map (·.id) ++ [p.id] := by rw [take_get h]; simp
theorem ids_nodup {ps : List Pk} {k : Nat} {p : Pk} (h : ps[k]? = some p) (hn : ((ps.take k).map (·.id)).Nodup) (hx : ¬ p.id ∈ (ps.take k).map (·.id)) : ((ps.take (k + 1)).map (·.id)).Nodup := by
  rw [ids_snoc h, List.nodup_append]
  exact ⟨hn, by simp, fun a ha b hb e => hx (by rw [← List.mem_singleton.1 hb, ← e]; exact ha)⟩
theorem sound_f1 {ps : List Pk} {k : Nat} {p : Pk} (h : ps[k]? = some p) (hx : p.id ∈ (ps.take k).map (·.id)) : soundB ps = false := sound_f fun hs => by
  have h1 := hs.1
  unfold idsP at h1
  have e : ps = ps.take k ++ p :: ps.drop (k + 1) := by rw [← drop_get h, List.take_append_drop]
  rw [e, List.map_append, List.nodup_append] at h1
  exact h1.2.2 _ hx _ (by simp) rfl
theorem sound_f2 {ps : List Pk} {k j : Nat} {p : Pk} {x : ByteArray} (h : ps[k]? = some p) (hx : p.after[j]? = some x) (hn : ¬ x ∈ idsP ps) : soundB ps = false := sound_f fun hs => hn (hs.2 p (mem_get h) x (mem_get hx))

theorem sound_any (h nd pt sm : Value) (pA : Option Addr) (ps : List Pk) (pc : Nat) (ne : Value) (w : World) (hD : DOk w pA ps) (hps : ps.length ≤ 1000) :
    Calls Try.prog 26 #[.agg #[h, nd, pt, sm, .slice pA ps.length pc, ne]] w fun e w' => e = .returned (.bool (soundB ps)) ∧ Ext w w' := by
  refine calls_act Try.func26 rfl Try.ntmps26 rfl rfl ?_
  show Code.wp _ _ _ (act 61 [(0, true, .agg #[h, nd, pt, sm, .slice pA ps.length pc, ne])] _) _
  have hX : Ext w w := Ext.rfl' w
  refine wp_seq ?_
  refine wp_region_lit ?_
  refine s_box rfl ?_
  intro g1 u1 hu1 hB1 hg1 hs1
  replace hB1 : Blk u1 g1 28 ([h, nd, pt, sm, .slice pA ps.length pc, ne]) := hB1
  have ge_g1 : w.heap.size ≤ g1 := by have := hX.size; omega
  replace hX := hX.comp hu1
  refine s_look (look_assign rfl rfl) ?_
  refine s_nil ?_
  refine then_normal ?_
  refine wp_seq ?_
  refine region_s ?_
  refine q_look (look_assign rfl rfl) ?_
  refine q_nil ?_
  rintro _ rfl
  have hO := Own.nil scell 9 1 w.heap.size w
  refine then_normal ?_
  refine wp_seq ?_
  refine wp_seq ?_
  refine region_s ?_
  refine q_look (look_assign rfl rfl) ?_
  refine q_nil ?_
  rintro _ rfl
  refine then_normal ?_
  refine wp_block ?_
  refine loop_act (fun (ls : Nat × Value) => [(1, .pointer (some ⟨g1, 0, none⟩)), (3, ls.2), (4, .int .i64 (ls.1 : Int))]) (fun ls w' => (Ext w w') ∧ (Blk w' g1 28 [h, nd, pt, sm, .slice pA ps.length pc, ne]) ∧ (Core.Own scell 9 1 w.heap.size w' ls.2 ((ps.take ls.1).map (·.id))) ∧ (Value.ownBlock ls.2 ≠ some g1) ∧ (ls.1 ≤ ps.length) ∧ (((ps.take ls.1).map (·.id)).Nodup)) (fun ls => ps.length - ls.1) ((0, .slice none 0 0)) ?_ ?_ ?_
  · exact ⟨rfl, rfl, rfl, trivial⟩
  · exact ⟨hX, hB1, Own.nil _ _ _ _ _, (by simp [Value.ownBlock]), Nat.zero_le _, List.nodup_nil⟩
  · rintro ⟨k, ov⟩ σ wr hF
    obtain ⟨hX, hB1, hO, ne_hO_g1, hk, hnd⟩ : (Ext w wr) ∧ (Blk wr g1 28 [h, nd, pt, sm, .slice pA ps.length pc, ne]) ∧ (Core.Own scell 9 1 w.heap.size wr ov ((ps.take k).map (·.id))) ∧ (Value.ownBlock ov ≠ some g1) ∧ (k ≤ ps.length) ∧ (((ps.take k).map (·.id)).Nodup) := hF
    show Code.wp _ _ _ (act 61 [(1, true, .pointer (some ⟨g1, 0, none⟩)), (3, true, ov), (4, true, .int .i64 (k : Int))] _) _
    refine wp_seq ?_
    refine wp_seq ?_
    refine region_s ?_
    refine q_look (look_move rfl rfl) ?_
    refine q_look (look_fieldAddr Try.underlying28 rfl (fun _ _ => rfl) rfl rfl) ?_
    refine q_look (look_load1 Try.underlying25 rfl rfl rfl (eqc (hB1.cell rfl))) ?_
    refine q_look (look_len_slice Try.underlying25 rfl rfl) ?_
    refine q_look (look_lss rfl rfl rfl rfl) ?_
    refine q_nil ?_
    rintro _ rfl
    refine then_normal ?_
    refine cond_split rfl (fun hc11 => ?_) (fun hc11 => ?_)
    · have hlt : k < ps.length := by have := nn_t hc11; omega
      obtain ⟨p, hp⟩ := get_lt hlt
      obtain ⟨b1, o1, rfl, _⟩ := (hD.sl.ext hX).at_ hlt
      obtain ⟨Ao, co, rfl, hSo, hco, _⟩ := hO.sl hce_s
      have htk : ((ps.take k).map (·.id)).length = k := by rw [List.length_map, List.length_take]; omega
      refine wp_skip ?_
      refine then_normal ?_
      refine wp_seq ?_
      refine wp_block ?_
      refine wp_seq ?_
      refine wp_seq ?_
      refine region_q ?_
      refine q_look (look_move rfl rfl) ?_
      refine q_look (look_fieldAddr Try.underlying28 rfl (fun _ _ => rfl) rfl rfl) ?_
      refine q_look (look_load1 Try.underlying25 rfl rfl rfl (ext_cell (hB1.cell rfl))) ?_
      refine q_look (look_move rfl rfl) ?_
      refine q_look (look_indexAddr _ Try.underlying25 szTry_48 rfl rfl rfl rfl rfl (by omega)) ?_
      refine q_look (look_fieldAddr Try.underlying48 rfl (fun _ _ => rfl) rfl rfl) ?_
      refine q_look (look_load1 Try.underlying9 rfl rfl rfl (ext_cell (((hD.sl.ext hX).rd k p hp) _ _ rfl))) ?_
      refine q_call (vs := [_, _]) enTry_27 ⟨⟨_, rfl, rfl⟩, ⟨_, rfl, rfl⟩, trivial⟩ (fun wc hw => cext hw (has_any ((ps.take k).map (·.id)) Ao co p.id wc ((hO.ext hw).slOf hce_s).1 (by have := hD.len; rw [htk]; omega))) ?_
      refine q_nil ?_
      intro w1 hw1
      replace hX := hX.comp hw1
      replace hB1 := hB1.ext hw1
      replace hO := hO.ext hw1
      refine then_normal ?_
      refine cond_split rfl (fun hc21 => ?_) (fun hc21 => ?_)
      · have hin : p.id ∈ (ps.take k).map (·.id) := nn_t hc21
        refine wp_seq ?_
        refine region_s ?_
        refine q_look (look_assign rfl rfl) ?_
        refine q_nil ?_
        rintro _ rfl
        refine then_normal ?_
        refine wp_ret ?_
        refine then_ret ?_
        refine inB_ret ?_
        refine then_ret ?_
        refine then_ret ?_
        refine inB_ret ?_
        refine then_ret ?_
        exact res1 Try.results26 rfl ⟨ret_bool (sound_f1 hp hin).symm, hX⟩
      · have hin : ¬ (p.id ∈ (ps.take k).map (·.id)) := nn_f hc21
        refine wp_skip ?_
        refine then_normal ?_
        refine wp_region_lit ?_
        refine s_look (look_move rfl rfl) ?_
        refine s_look (look_fieldAddr Try.underlying28 rfl (fun _ _ => rfl) rfl rfl) ?_
        refine s_look (look_load1 Try.underlying25 rfl rfl rfl (eqc (hB1.cell rfl))) ?_
        refine s_look (look_move rfl rfl) ?_
        refine s_look (look_indexAddr _ Try.underlying25 szTry_48 rfl rfl rfl rfl rfl (by omega)) ?_
        refine s_look (look_fieldAddr Try.underlying48 rfl (fun _ _ => rfl) rfl rfl) ?_
        refine s_look (look_load1 Try.underlying9 rfl rfl rfl (eqc (((hD.sl.ext hX).rd k p hp) _ _ rfl))) ?_
        refine s_buildSlice (parts := [(0, .tmp 28)]) (vs := [(0, _)]) (cells := scell p.id) Try.underlying31 szTry_9 zeTry_9 rfl rfl ⟨⟨_, rfl, rfl⟩, trivial⟩ rfl (by kernel_rfl) ?_
        intro g2 u2 hu2 hB2 hg2 hs2
        have lt_g1_g2 : g1 < g2 := by have := hB1.lt; omega
        have ne_hO_g2 : (Value.ownBlock (.slice Ao ((ps.take k).map (·.id)).length co)) ≠ some g2 := hO.ne_new (by omega)
        have ge_g2 : w.heap.size ≤ g2 := by have := hX.size; omega
        replace hX := hX.comp hu2
        replace hB1 := hB1.ext hu2
        replace hO := hO.ext hu2
        have hsz3 := hX.size
        refine s_appendL (ce := scell) (news := [p.id]) Try.underlying31 zsbTry_9 rfl rfl rfl hO rfl (Blk.src (x := p.id) rfl (by simp [scell, Value.oneCell']) hB2) (by have := hD.len; simp only [List.length_cons, List.length_nil, htk]; omega) (by simp only [List.length_cons, List.length_nil, htk]; have := hps; omega) (by omega) ?_
        intro v3 u3 hN3 hgr3 hat3
        replace hX := hX.grow hO (Nat.le_refl _) hgr3
        have hn_hB1 := hB1.grown hgr3 ne_hO_g1
        replace ne_hO_g1 := ne_app ne_hO_g1 hB1.lt hat3
        clear hB1
        have hB1 := hn_hB1
        clear hn_hB1
        clear hO
        have hO := hN3
        refine s_look (look_assign rfl rfl) ?_
        refine s_nil ?_
        refine inB_normal ?_
        refine then_normal ?_
        refine region_s ?_
        refine q_look (look_move rfl rfl) ?_
        refine q_look (look_add rfl rfl rfl rfl (by have := hD.len; have := maxLen_is; unfold I64; omega)) ?_
        refine q_look (look_assign rfl rfl) ?_
        refine q_nil ?_
        rintro _ rfl
        exact loop_end ((k + 1, v3)) (by simp only []; omega) ⟨rfl, rfl, rfl, trivial⟩ ⟨hX, hB1, (hO.as (ids_snoc hp).symm), ne_hO_g1, by show k + 1 ≤ ps.length; omega, ids_nodup hp hnd hin⟩
    · obtain rfl : k = ps.length := by have := nn_f hc11; omega
      rw [List.take_length] at hO hnd
      obtain ⟨Ao, co, rfl, hSo, hco, _⟩ := hO.sl hce_s
      clear hO
      refine wp_exit ?_
      refine then_exit ?_
      refine then_exit ?_
      refine inB_exit_same ?_
      refine then_normal ?_
      refine wp_seq ?_
      refine wp_seq ?_
      refine region_s ?_
      refine q_look (look_assign rfl rfl) ?_
      refine q_nil ?_
      rintro _ rfl
      refine then_normal ?_
      refine wp_block ?_
      refine loop_act (fun (i : Nat) => [(1, .pointer (some ⟨g1, 0, none⟩)), (3, .slice Ao (ps.map (·.id)).length co), (5, .int .i64 (i : Int))]) (fun i w' => (Ext w w') ∧ (Sl scell 1 w' Ao (ps.map (·.id))) ∧ (Blk w' g1 28 [h, nd, pt, sm, .slice pA ps.length pc, ne]) ∧ (i ≤ ps.length) ∧ (∀ q ∈ ps.take i, ∀ x ∈ q.after, x ∈ idsP ps)) (fun i => ps.length - i) (0) ?_ ?_ ?_
      · exact ⟨rfl, rfl, rfl, trivial⟩
      · exact ⟨hX, hSo, hB1, Nat.zero_le _, (by intro q hq; cases hq)⟩
      · rintro i σ wr hF
        obtain ⟨hX, hSo, hB1, hi, hall⟩ : (Ext w wr) ∧ (Sl scell 1 wr Ao (ps.map (·.id))) ∧ (Blk wr g1 28 [h, nd, pt, sm, .slice pA ps.length pc, ne]) ∧ (i ≤ ps.length) ∧ (∀ q ∈ ps.take i, ∀ x ∈ q.after, x ∈ idsP ps) := hF
        show Code.wp _ _ _ (act 61 [(1, true, .pointer (some ⟨g1, 0, none⟩)), (3, true, .slice Ao (ps.map (·.id)).length co), (5, true, .int .i64 (i : Int))] _) _
        refine wp_seq ?_
        refine wp_seq ?_
        refine region_s ?_
        refine q_look (look_move rfl rfl) ?_
        refine q_look (look_fieldAddr Try.underlying28 rfl (fun _ _ => rfl) rfl rfl) ?_
        refine q_look (look_load1 Try.underlying25 rfl rfl rfl (eqc (hB1.cell rfl))) ?_
        refine q_look (look_len_slice Try.underlying25 rfl rfl) ?_
        refine q_look (look_lss rfl rfl rfl rfl) ?_
        refine q_nil ?_
        rintro _ rfl
        refine then_normal ?_
        refine cond_split rfl (fun hc35 => ?_) (fun hc35 => ?_)
        · have hlt : i < ps.length := by have := nn_t hc35; omega
          obtain ⟨p, hp⟩ := get_lt hlt
          obtain ⟨b1, o1, rfl, _⟩ := (hD.sl.ext hX).at_ hlt
          have hpo := hD.ok p (mem_get hp)
          refine wp_skip ?_
          refine then_normal ?_
          refine wp_seq ?_
          refine wp_block ?_
          refine wp_seq ?_
          refine region_s ?_
          refine q_look (look_assign rfl rfl) ?_
          refine q_nil ?_
          rintro _ rfl
          refine then_normal ?_
          refine wp_block ?_
          refine loop_act (fun (j : Nat) => [(1, .pointer (some ⟨g1, 0, none⟩)), (3, .slice Ao (ps.map (·.id)).length co), (5, .int .i64 (i : Int)), (6, .int .i64 (j : Int))]) (fun j w' => (Ext w w') ∧ (Sl scell 1 w' Ao (ps.map (·.id))) ∧ (Blk w' g1 28 [h, nd, pt, sm, .slice (some ⟨b1, o1, none⟩) ps.length pc, ne]) ∧ (j ≤ p.after.length) ∧ (∀ x ∈ p.after.take j, x ∈ idsP ps)) (fun j => p.after.length - j) (0) ?_ ?_ ?_
          · exact ⟨rfl, rfl, rfl, rfl, trivial⟩
          · exact ⟨hX, hSo, hB1, Nat.zero_le _, (by intro x hx; cases hx)⟩
          · rintro j σ wr hF
            obtain ⟨hX, hSo, hB1, hj, haf⟩ : (Ext w wr) ∧ (Sl scell 1 wr Ao (ps.map (·.id))) ∧ (Blk wr g1 28 [h, nd, pt, sm, .slice (some ⟨b1, o1, none⟩) ps.length pc, ne]) ∧ (j ≤ p.after.length) ∧ (∀ x ∈ p.after.take j, x ∈ idsP ps) := hF
            show Code.wp _ _ _ (act 61 [(1, true, .pointer (some ⟨g1, 0, none⟩)), (3, true, .slice Ao (ps.map (·.id)).length co), (5, true, .int .i64 (i : Int)), (6, true, .int .i64 (j : Int))] _) _
            refine wp_seq ?_
            refine wp_seq ?_
            refine region_s ?_
            refine q_look (look_move rfl rfl) ?_
            refine q_look (look_fieldAddr Try.underlying28 rfl (fun _ _ => rfl) rfl rfl) ?_
            refine q_look (look_load1 Try.underlying25 rfl rfl rfl (eqc (hB1.cell rfl))) ?_
            refine q_look (look_move rfl rfl) ?_
            refine q_look (look_indexAddr _ Try.underlying25 szTry_48 rfl rfl rfl rfl rfl (by omega)) ?_
            refine q_look (look_fieldAddr Try.underlying48 rfl (fun _ _ => rfl) rfl rfl) ?_
            refine q_look (look_load1 Try.underlying31 rfl rfl rfl (eqc (((hD.sl.ext hX).rd i p hp) _ _ rfl))) ?_
            refine q_look (look_len_slice Try.underlying31 rfl rfl) ?_
            refine q_look (look_lss rfl rfl rfl rfl) ?_
            refine q_nil ?_
            rintro _ rfl
            refine then_normal ?_
            refine cond_split rfl (fun hc46 => ?_) (fun hc46 => ?_)
            · have hlj : j < p.after.length := by have := nn_t hc46; omega
              obtain ⟨x, hx⟩ := get_lt hlj
              obtain ⟨b2, o2, hA2, hr2⟩ := (hpo.1.ext hX).at_ hlj
              refine wp_skip ?_
              refine then_normal ?_
              refine wp_seq ?_
              refine wp_block ?_
              refine wp_seq ?_
              refine region_q ?_
              refine q_look (look_move rfl rfl) ?_
              refine q_look (look_fieldAddr Try.underlying28 rfl (fun _ _ => rfl) rfl rfl) ?_
              refine q_look (look_load1 Try.underlying25 rfl rfl rfl (ext_cell (hB1.cell rfl))) ?_
              refine q_look (look_move rfl rfl) ?_
              refine q_look (look_indexAddr _ Try.underlying25 szTry_48 rfl rfl rfl rfl rfl (by omega)) ?_
              refine q_look (look_fieldAddr Try.underlying48 rfl (fun _ _ => rfl) rfl rfl) ?_
              refine q_look (Look.as (look_load1 Try.underlying31 rfl rfl rfl (ext_cell (((hD.sl.ext hX).rd i p hp) _ _ rfl))) (v' := .slice (some ⟨b2, o2, none⟩) p.after.length p.cap) (by rw [hA2])) ?_
              refine q_look (look_move rfl rfl) ?_
              refine q_look (look_indexAddr _ Try.underlying31 szTry_9 rfl rfl rfl rfl rfl (by omega)) ?_
              refine q_look (look_load1 Try.underlying9 rfl rfl rfl (ext_cell ((hr2 j x hx) 0 _ rfl))) ?_
              refine q_call (vs := [_, _]) enTry_27 ⟨⟨_, rfl, rfl⟩, ⟨_, rfl, rfl⟩, trivial⟩ (fun wc hw => cext hw (has_any (ps.map (·.id)) Ao co x wc (hSo.ext hw) (by rw [List.length_map]; exact hD.len))) ?_
              refine q_look (look_not rfl rfl) ?_
              refine q_nil ?_
              intro w2 hw2
              replace hX := hX.comp hw2
              replace hB1 := hB1.ext hw2
              replace hSo := hSo.ext hw2
              refine then_normal ?_
              refine cond_split rfl (fun hc60 => ?_) (fun hc60 => ?_)
              · have hin2 : ¬ (x ∈ ps.map (·.id)) := nd_t hc60
                refine wp_seq ?_
                refine region_s ?_
                refine q_look (look_assign rfl rfl) ?_
                refine q_nil ?_
                rintro _ rfl
                refine then_normal ?_
                refine wp_ret ?_
                refine inB_ret ?_
                refine then_ret ?_
                refine then_ret ?_
                refine inB_ret ?_
                refine inB_ret ?_
                refine then_ret ?_
                refine then_ret ?_
                refine inB_ret ?_
                refine then_ret ?_
                exact res1 Try.results26 rfl ⟨ret_bool (sound_f2 hp hx hin2).symm, hX⟩
              · have hin2 : x ∈ ps.map (·.id) := nd_f hc60
                refine wp_skip ?_
                refine inB_normal ?_
                refine then_normal ?_
                refine region_s ?_
                refine q_look (look_move rfl rfl) ?_
                refine q_look (look_add rfl rfl rfl rfl (by have := hD.len; have := hpo.2.1; have := maxLen_is; unfold I64; omega)) ?_
                refine q_look (look_assign rfl rfl) ?_
                refine q_nil ?_
                rintro _ rfl
                exact loop_end (j + 1) (by omega) ⟨rfl, rfl, rfl, rfl, trivial⟩ ⟨hX, hSo, hB1, by omega, (by rw [take_get hx]; intro y hy; rcases List.mem_append.1 hy with e | e; exact haf y e; rw [List.mem_singleton.1 e]; exact hin2)⟩
            · obtain rfl : j = p.after.length := by have := nn_f hc46; omega
              rw [List.take_length] at haf
              refine wp_exit ?_
              refine then_exit ?_
              refine then_exit ?_
              refine inB_exit_same ?_
              refine inB_normal ?_
              refine then_normal ?_
              refine region_s ?_
              refine q_look (look_move rfl rfl) ?_
              refine q_look (look_add rfl rfl rfl rfl (by have := hD.len; have := hpo.2.1; have := maxLen_is; unfold I64; omega)) ?_
              refine q_look (look_assign rfl rfl) ?_
              refine q_nil ?_
              rintro _ rfl
              exact loop_end (i + 1) (by omega) ⟨rfl, rfl, rfl, trivial⟩ ⟨hX, hSo, hB1, by omega, (by rw [take_get hp]; intro q hq; rcases List.mem_append.1 hq with e | e; exact hall q e; rw [List.mem_singleton.1 e]; exact haf)⟩
        · obtain rfl : i = ps.length := by have := nn_f hc35; omega
          rw [List.take_length] at hall
          refine wp_exit ?_
          refine then_exit ?_
          refine then_exit ?_
          refine inB_exit_same ?_
          refine then_normal ?_
          refine wp_seq ?_
          refine region_s ?_
          refine q_look (look_assign rfl rfl) ?_
          refine q_nil ?_
          rintro _ rfl
          refine then_normal ?_
          refine wp_ret ?_
          exact res1 Try.results26 rfl ⟨ret_bool (soundB_t.2 ⟨hnd, hall⟩).symm, hX⟩

end Go.Proofs.Ytldgigjapifagaa
