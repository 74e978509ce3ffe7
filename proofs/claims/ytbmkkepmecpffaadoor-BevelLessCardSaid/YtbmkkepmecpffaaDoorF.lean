/- Chapter 22 (bevel): the laws' arguments as plain data; the two tables out of the rows' list. -/
import Derived.Test.YtbmkkepmecpffaaDoorE
import Derived.Test.YtbmkkepmecpffaaDoorOpen
import Derived.Test.YtbmkkepmecpffaaDoorCards
import Derived.Test.YtbmkkepmecpffaaDoorTie
namespace Go.Proofs.YtbmkkepmecpffaaDoor
open Go Go.RowKit Core
open Go.ChangeShapes Go.WideShapes Go.ChangeAt Go.Deep
set_option linter.unusedVariables false
set_option linter.unusedSimpArgs false
attribute [local irreducible] wpQuiet wpList Code.wp Calls bodyPost act


theorem own : ownKnob Tryd.prog.godebug = none := by kernel_rfl
theorem laidOut : laidOutB Tryd.prog = true := by kernel_rfl
theorem gK : Tryd.prog.globalNamed "shipyard/bevel.kinds" = some 0 := by kernel_rfl
theorem gKt : (Tryd.prog.globals[0]?).map (·.type) = some 46 := by kernel_rfl
theorem gM : Tryd.prog.globalNamed "shipyard/bevel.greatest" = some 1 := by kernel_rfl
theorem gMt : (Tryd.prog.globals[1]?).map (·.type) = some 46 := by kernel_rfl
theorem cells46 : Tryd.prog.cellsOf 46 = 2 := by kernel_rfl
theorem cells3 : Tryd.prog.cellsOf 3 = 1 := by kernel_rfl
theorem cells28 : Tryd.prog.cellsOf 28 = 6 := by kernel_rfl
def laidL : List (String × DataW Unit) := [("shipyard/bevel.kinds", Rows.laid_shipyard_bevel_kinds), ("shipyard/bevel.greatest", Rows.laid_shipyard_bevel_greatest)]
theorem tables {W : World} (h : laidMetH Tryd.prog laidL W) : G W := by
  have h : laidMet Tryd.prog laidL W := h
  have t1 : Lib.TabIs Tryd.prog W "shipyard/bevel.kinds" .i64 [1, 2] := Lib.tabIs_of_head (rest := [("shipyard/bevel.greatest", Rows.laid_shipyard_bevel_greatest)]) gK gKt Tryd.underlying46 Tryd.underlying3 cells3 cells46 h
  have t2 : Lib.TabIs Tryd.prog W "shipyard/bevel.greatest" .i64 [20, 300] := Lib.tabIs_of_head (rest := []) gM gMt Tryd.underlying46 Tryd.underlying3 cells3 cells46 (laidMet.tail h)
  exact ⟨t1.cell gK 0 (by decide), t1.cell gK 1 (by decide), t2.cell gM 0 (by decide), t2.cell gM 1 (by decide)⟩

section
variable {H : Type} {enc : TypeId × Value → H} {w : World} {base : Nat} {sp : Nat → Bool} {held : Bool}
theorem elemB (cs : List Value) (k : Nat) (z : DataW H × List MemPlace) (h : DataW.trod enc Tryd.prog w base sp held k 28 cs = some z) : ∃ x : B, cs = bcells x ∧ True := by
  obtain ⟨xs, n, _, _, hlen, hxl, hf⟩ := DataW.trod_struct Tryd.underlying28 h
  rw [cells28] at hlen
  obtain ⟨m0, h0, _⟩ := field_int hxl hf (i := 0) rfl rfl Tryd.underlying3 cells3
  obtain ⟨m1, h1, _⟩ := field_int hxl hf (i := 1) rfl rfl Tryd.underlying3 cells3
  obtain ⟨m2, h2, _⟩ := field_int hxl hf (i := 2) rfl rfl Tryd.underlying3 cells3
  obtain ⟨m3, h3, _⟩ := field_int hxl hf (i := 3) rfl rfl Tryd.underlying3 cells3
  obtain ⟨m4, h4, _⟩ := field_int hxl hf (i := 4) rfl rfl Tryd.underlying3 cells3
  obtain ⟨m5, h5, _⟩ := field_int hxl hf (i := 5) rfl rfl Tryd.underlying3 cells3
  refine ⟨⟨m0, m1, m2, m3, m4, m5⟩, ?_, trivial⟩
  match cs, hlen with
  | [c0, c1, c2, c3, c4, c5], _ =>
    simp at h0 h1 h2 h3 h4 h5
    subst h0 h1 h2 h3 h4 h5
    rfl
theorem sliceB {A : Option Addr} {len cap : Nat} {d : DataW H} {p : List MemPlace} (h : DataW.Trod enc Tryd.prog w base sp held 22 (.slice A len cap) d p) : ∃ l : List B, l.length = len ∧ SlB w A l := by
  obtain ⟨fuel, hf⟩ := h
  obtain ⟨l, h1, _, h3⟩ := open_sl (ce := bcells) Tryd.underlying22 cells28 (by decide) elemB hf
  exact ⟨l, h1, h3⟩
theorem structB {r : Reach} {b0 : Nat} {v : Value} {d : DataW H} {p : List MemPlace} (hv : Value.okWide Tryd.prog w r b0 28 v) (h : DataW.Trod enc Tryd.prog w base sp held 28 v d p) : ∃ x : B, v = .agg (bcells x).toArray := by
  obtain ⟨cs, rfl, hsz⟩ := okWide_struct Tryd.underlying28 hv
  obtain ⟨fuel, hf⟩ := h
  obtain ⟨x, hx, _⟩ := elemB _ _ _ hf
  exact ⟨x, by rw [← hx]; rfl⟩
end
def fillBlk (cs : Array Value) : Obj → Obj
  | .cells _ t frozen => .cells cs t frozen
  | o => o
/-- A world for the witness: the tables hold what their initialisers lay. -/
noncomputable def laidWorld (os : Os) : World :=
  { World.holding Tryd.prog os ⟨#[], #[], []⟩ with heap := ((World.holding Tryd.prog os ⟨#[], #[], []⟩).heap.modify 0 (fillBlk #[.int .i64 1, .int .i64 2])).modify 1 (fillBlk #[.int .i64 20, .int .i64 300]) }

end Go.Proofs.YtbmkkepmecpffaaDoor
