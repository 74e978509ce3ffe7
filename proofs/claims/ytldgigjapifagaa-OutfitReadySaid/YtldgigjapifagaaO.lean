/- Chapter 47 (outfit): the laws' arguments as plain data. -/
import Derived.Test.YtldgigjapifagaaI
import Derived.ProofKit
import Derived.ChangeMaps5
import Derived.RowKit
namespace Go.Proofs.Ytldgigjapifagaa
open Go Go.RowKit Core
open Go.ChangeShapes Go.WideShapes Go.ChangeAt Go.Deep
set_option linter.unusedVariables false
set_option linter.unusedSimpArgs false

theorem own : ownKnob Try.prog.godebug = none := by kernel_rfl
theorem laidOut : laidOutB Try.prog = true := by kernel_rfl
section
variable {H : Type} {enc : TypeId × Value → H} {w : World} {base : Nat} {sp : Nat → Bool} {held : Bool}
theorem elemS (cs : List Value) (k : Nat) (z : DataW H × List MemPlace) (h : DataW.trod enc Try.prog w base sp held k 9 cs = some z) : ∃ x : ByteArray, cs = scell x ∧ True := by
  obtain ⟨m, h2, _, _⟩ := DataW.trod_string Try.underlying9 h
  exact ⟨m, h2, trivial⟩
theorem elemP (cs : List Value) (k : Nat) (z : DataW H × List MemPlace) (h : DataW.trod enc Try.prog w base sp held k 48 cs = some z) : ∃ x : Pk, cs = pcell x ∧ POk w x := by
  obtain ⟨xs, n, _, _, hlen, hxl, hf⟩ := DataW.trod_struct Try.underlying48 h
  rw [show Try.prog.cellsOf 48 = 5 by kernel_rfl] at hlen
  obtain ⟨c0, y0, e0, t0⟩ := field_one hxl hf (i := 0) rfl (j := 0) rfl (by kernel_rfl) (by omega)
  obtain ⟨c1, y1, e1, t1⟩ := field_one hxl hf (i := 1) rfl (j := 1) rfl (by kernel_rfl) (by omega)
  obtain ⟨c2, y2, e2, t2⟩ := field_one hxl hf (i := 2) rfl (j := 2) rfl (by kernel_rfl) (by omega)
  obtain ⟨c3, y3, e3, t3⟩ := field_one hxl hf (i := 3) rfl (j := 3) rfl (by kernel_rfl) (by omega)
  obtain ⟨c4, y4, e4, t4⟩ := field_one hxl hf (i := 4) rfl (j := 4) rfl (by kernel_rfl) (by omega)
  obtain ⟨m0, rfl, w0⟩ := one_str Try.underlying9 t0
  obtain ⟨m1, rfl, w1⟩ := one_str Try.underlying9 t1
  obtain ⟨A2, l2, k2, rfl, q2, s2, u2, v2, o2⟩ := open_slc (ce := scell) (size := 1) Try.underlying31 (by kernel_rfl) (by decide) elemS t2
  obtain ⟨m3, rfl, w3⟩ := one_int Try.underlying3 t3
  obtain ⟨A4, l4, k4, rfl, q4, s4, u4, v4, o4⟩ := open_slc (ce := scell) (size := 1) Try.underlying31 (by kernel_rfl) (by decide) elemS t4
  have hcs : cs = pcell ⟨m0, m1, A2, l2.length, k2, m3, A4, l4, k4⟩ := by
    match cs, hlen with
    | [z0, z1, z2, z3, z4], _ => simp at e0 e1 e2 e3 e4; simp [pcell, *]
  exact ⟨_, hcs, ⟨s4, by show l4.length ≤ maxLen; omega, wf_I64 w3⟩⟩
theorem sliceS {A : Option Addr} {len cap : Nat} {d : DataW H} {p : List MemPlace} (h : DataW.Trod enc Try.prog w base sp held 31 (.slice A len cap) d p) : ∃ l, l.length = len ∧ (∀ x ∈ l, True) ∧ Sl scell 1 w A l ∧ l.length ≤ cap ∧ cap ≤ maxLen ∧ (A = none → cap = 0) := by
  obtain ⟨fuel, hf⟩ := h
  obtain ⟨A', l, cap', he, h2, h3, h4, h5, h6⟩ := open_slc (ce := scell) (size := 1) Try.underlying31 (by kernel_rfl) (by decide) elemS hf
  simp only [Value.slice.injEq] at he
  obtain ⟨rfl, rfl, rfl⟩ := he
  exact ⟨l, rfl, h2, h3, h4, h5, h6⟩

theorem designA {r : Reach} {b0 : Nat} {v : Value} {d : DataW H} {p : List MemPlace} (hv : Value.okWide Try.prog w r b0 28 v) (h0 : DataW.Trod enc Try.prog w base sp held 28 v d p) : ∃ (h nd pt sm : Value) (pA : Option Addr) (ps : List Pk) (pc : Nat) (ne : Value), v = .agg #[h, nd, pt, sm, .slice pA ps.length pc, ne] ∧ DOk w pA ps := by
  obtain ⟨cs, rfl, hsz⟩ := okWide_struct Try.underlying28 hv
  obtain ⟨fuel, h⟩ := h0
  obtain ⟨xs, n, _, _, hlen, hxl, hf⟩ := DataW.trod_struct Try.underlying28 h
  rw [show Try.prog.cellsOf 28 = 6 by kernel_rfl] at hlen
  obtain ⟨c0, y0, e0, t0⟩ := field_one hxl hf (i := 0) rfl (j := 0) rfl (by kernel_rfl) (by omega)
  obtain ⟨c1, y1, e1, t1⟩ := field_one hxl hf (i := 1) rfl (j := 1) rfl (by kernel_rfl) (by omega)
  obtain ⟨c2, y2, e2, t2⟩ := field_one hxl hf (i := 2) rfl (j := 2) rfl (by kernel_rfl) (by omega)
  obtain ⟨c3, y3, e3, t3⟩ := field_one hxl hf (i := 3) rfl (j := 3) rfl (by kernel_rfl) (by omega)
  obtain ⟨c4, y4, e4, t4⟩ := field_one hxl hf (i := 4) rfl (j := 4) rfl (by kernel_rfl) (by omega)
  obtain ⟨c5, y5, e5, t5⟩ := field_one hxl hf (i := 5) rfl (j := 5) rfl (by kernel_rfl) (by omega)
  obtain ⟨A4, l4, k4, rfl, q4, s4, u4, v4, o4⟩ := open_slc (ce := pcell) (size := 5) Try.underlying25 (by kernel_rfl) (by decide) elemP t4
  have hcs : cs.toList = [c0, c1, c2, c3, .slice A4 l4.length k4, c5] := by
    have hl2 : cs.toList.length = 6 := hlen
    change cs.toList[0]? = _ at e0; change cs.toList[1]? = _ at e1; change cs.toList[2]? = _ at e2; change cs.toList[3]? = _ at e3; change cs.toList[4]? = _ at e4; change cs.toList[5]? = _ at e5
    revert e0 e1 e2 e3 e4 e5 hl2
    generalize cs.toList = L
    intro hl2 e0 e1 e2 e3 e4 e5
    match L, hl2 with
    | [z0, z1, z2, z3, z4, z5], _ => simp at e0 e1 e2 e3 e4 e5; simp [*]
  exact ⟨c0, c1, c2, c3, A4, l4, k4, c5, by have hc : cs = #[c0, c1, c2, c3, .slice A4 l4.length k4, c5] := Array.ext' hcs; rw [hc], s4, q4, by omega⟩
theorem pairA {r : Reach} {b0 : Nat} {v : Value} {d : DataW H} {p : List MemPlace} (hv : Value.okWide Try.prog w r b0 46 v) (h0 : DataW.Trod enc Try.prog w base sp held 46 v d p) : ∃ x0 x1 : ByteArray, v = .agg #[.string x0, .string x1] := by
  simp only [Value.okWide, Try.underlying46] at hv
  obtain ⟨cs, rfl, hsz, _⟩ := hv
  obtain ⟨fuel, h⟩ := h0
  obtain ⟨xs, m, _, _, hlen, hl, hel⟩ := DataW.trod_array Try.underlying46 h
  rw [show Try.prog.cellsOf 46 = 2 by kernel_rfl] at hlen
  have c9 : Try.prog.cellsOf 9 = 1 := by kernel_rfl
  have e0 := hel 0 (by omega)
  have e1 := hel 1 (by omega)
  rw [c9, Nat.mul_one, List.getElem?_eq_getElem (by omega)] at e0 e1
  obtain ⟨s0, f0, _⟩ := DataW.trod_string Try.underlying9 e0
  obtain ⟨s1, f1, _⟩ := DataW.trod_string Try.underlying9 e1
  have hcs : cs.toList = [.string s0, .string s1] := by
    have hl2 : cs.toList.length = 2 := hlen
    change (cs.toList.drop 0).take 1 = _ at f0
    change (cs.toList.drop 1).take 1 = _ at f1
    revert f0 f1 hl2
    generalize cs.toList = L
    intro hl2 f0 f1
    match L, hl2 with
    | [z0, z1], _ => simp at f0 f1; simp [*]
  exact ⟨s0, s1, by have hc : cs = #[.string s0, .string s1] := Array.ext' hcs; rw [hc]⟩
end
end Go.Proofs.Ytldgigjapifagaa
