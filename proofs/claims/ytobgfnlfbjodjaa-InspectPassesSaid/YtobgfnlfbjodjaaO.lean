/- Chapter 35 (inspect): the laws' arguments as plain data. -/
import Derived.Test.YtobgfnlfbjodjaaReg
import Derived.Test.YtobgfnlfbjodjaaG
import Derived.ProofKit
namespace Go.Proofs.Ytobgfnlfbjodjaa
open Go Go.RowKit Core
open Go.ChangeShapes Go.WideShapes Go.ChangeAt Go.Deep
set_option linter.unusedVariables false
set_option linter.unusedSimpArgs false
attribute [local irreducible] wpQuiet wpList wpH Code.wp Calls bodyPost act


theorem own : ownKnob Try.prog.godebug = none := by kernel_rfl
theorem laidOut : laidOutB Try.prog = true := by kernel_rfl
section
variable {H : Type} {enc : TypeId × Value → H} {w : World} {base : Nat} {sp : Nat → Bool} {held : Bool}
theorem elemI (cs : List Value) (k : Nat) (z : DataW H × List MemPlace) (h : DataW.trod enc Try.prog w base sp held k 3 cs = some z) : ∃ x : Int, cs = icell x ∧ True := by
  obtain ⟨m, h2, _, _⟩ := DataW.trod_int Try.underlying3 h
  exact ⟨m, h2, trivial⟩
theorem elemS (cs : List Value) (k : Nat) (z : DataW H × List MemPlace) (h : DataW.trod enc Try.prog w base sp held k 9 cs = some z) : ∃ x : ByteArray, cs = scell x ∧ True := by
  obtain ⟨m, h2, _, _⟩ := DataW.trod_string Try.underlying9 h
  exact ⟨m, h2, trivial⟩
theorem lst {cs : List Value} {n : Nat} (h : cs.length = n) : cs = (List.range n).map fun i => cs.getD i undef := by
  subst h
  apply List.ext_getElem?
  intro i
  simp only [List.getElem?_map, List.getElem?_range']
  by_cases hi : i < cs.length
  · simp [hi]
  · simp [hi]

theorem elemM (cs : List Value) (k : Nat) (z : DataW H × List MemPlace) (h : DataW.trod enc Try.prog w base sp held k 47 cs = some z) : ∃ x : Sm, cs = smcell x ∧ True := by
  obtain ⟨xs, n, _, _, hlen, hxl, hf⟩ := DataW.trod_struct Try.underlying47 h
  rw [show Try.prog.cellsOf 47 = 6 by kernel_rfl] at hlen
  obtain ⟨c0, y0, e0, t0⟩ := field_one hxl hf (i := 0) rfl (j := 0) rfl (by kernel_rfl) (by omega)
  obtain ⟨c1, y1, e1, t1⟩ := field_one hxl hf (i := 1) rfl (j := 1) rfl (by kernel_rfl) (by omega)
  obtain ⟨c2, y2, e2, t2⟩ := field_one hxl hf (i := 2) rfl (j := 2) rfl (by kernel_rfl) (by omega)
  obtain ⟨c3, y3, e3, t3⟩ := field_one hxl hf (i := 3) rfl (j := 3) rfl (by kernel_rfl) (by omega)
  obtain ⟨c4, y4, e4, t4⟩ := field_one hxl hf (i := 4) rfl (j := 4) rfl (by kernel_rfl) (by omega)
  obtain ⟨c5, y5, e5, t5⟩ := field_one hxl hf (i := 5) rfl (j := 5) rfl (by kernel_rfl) (by omega)
  obtain ⟨m0, rfl, _⟩ := one_str Try.underlying9 t0
  obtain ⟨m1, rfl, _⟩ := one_str Try.underlying9 t1
  obtain ⟨m2, rfl, _⟩ := one_str Try.underlying9 t2
  obtain ⟨m3, rfl, _⟩ := one_int Try.underlying3 t3
  obtain ⟨m4, rfl, _⟩ := one_int Try.underlying3 t4
  obtain ⟨m5, rfl, _⟩ := one_int Try.underlying3 t5
  have hcs : cs = smcell ⟨m0, m1, m2, m3, m4, m5⟩ := by
    match cs, hlen with
    | [z0, z1, z2, z3, z4, z5], _ => simp at e0 e1 e2 e3 e4 e5; simp [smcell, *]
  exact ⟨_, hcs, trivial⟩
theorem elemT (cs : List Value) (k : Nat) (z : DataW H × List MemPlace) (h : DataW.trod enc Try.prog w base sp held k 52 cs = some z) : ∃ x : Tk, cs = tcell x ∧ True := by
  obtain ⟨xs, n, _, _, hlen, hxl, hf⟩ := DataW.trod_struct Try.underlying52 h
  rw [show Try.prog.cellsOf 52 = 2 by kernel_rfl] at hlen
  obtain ⟨c0, y0, e0, t0⟩ := field_one hxl hf (i := 0) rfl (j := 0) rfl (by kernel_rfl) (by omega)
  obtain ⟨c1, y1, e1, t1⟩ := field_one hxl hf (i := 1) rfl (j := 1) rfl (by kernel_rfl) (by omega)
  obtain ⟨m0, rfl, _⟩ := one_str Try.underlying9 t0
  obtain ⟨m1, rfl, _⟩ := one_int Try.underlying3 t1
  have hcs : cs = tcell ⟨m0, m1⟩ := by
    match cs, hlen with
    | [z0, z1], _ => simp at e0 e1; simp [tcell, *]
  exact ⟨_, hcs, trivial⟩
theorem elemW (cs : List Value) (k : Nat) (z : DataW H × List MemPlace) (h : DataW.trod enc Try.prog w base sp held k 49 cs = some z) : ∃ x : Wd, cs = wdcell x ∧ WOk w x := by
  obtain ⟨xs, n, _, _, hlen, hxl, hf⟩ := DataW.trod_struct Try.underlying49 h
  rw [show Try.prog.cellsOf 49 = 8 by kernel_rfl] at hlen
  obtain ⟨c0, y0, e0, t0⟩ := field_one hxl hf (i := 0) rfl (j := 0) rfl (by kernel_rfl) (by omega)
  obtain ⟨c1, y1, e1, t1⟩ := field_one hxl hf (i := 1) rfl (j := 1) rfl (by kernel_rfl) (by omega)
  obtain ⟨c2, y2, e2, t2⟩ := field_one hxl hf (i := 2) rfl (j := 2) rfl (by kernel_rfl) (by omega)
  obtain ⟨c3, y3, e3, t3⟩ := field_one hxl hf (i := 3) rfl (j := 3) rfl (by kernel_rfl) (by omega)
  obtain ⟨c4, y4, e4, t4⟩ := field_one hxl hf (i := 4) rfl (j := 4) rfl (by kernel_rfl) (by omega)
  obtain ⟨c5, y5, e5, t5⟩ := field_one hxl hf (i := 5) rfl (j := 5) rfl (by kernel_rfl) (by omega)
  obtain ⟨c6, y6, e6, t6⟩ := field_one hxl hf (i := 6) rfl (j := 6) rfl (by kernel_rfl) (by omega)
  obtain ⟨c7, y7, e7, t7⟩ := field_one hxl hf (i := 7) rfl (j := 7) rfl (by kernel_rfl) (by omega)
  obtain ⟨m0, rfl, _⟩ := one_str Try.underlying9 t0
  obtain ⟨m1, rfl, _⟩ := one_int Try.underlying3 t1
  obtain ⟨m2, rfl, _⟩ := one_int Try.underlying3 t2
  obtain ⟨m3, rfl, _⟩ := one_str Try.underlying9 t3
  obtain ⟨m4, rfl, _⟩ := one_str Try.underlying9 t4
  obtain ⟨m5, rfl, _⟩ := one_int Try.underlying3 t5
  obtain ⟨m6, rfl, _⟩ := one_int Try.underlying3 t6
  obtain ⟨A7, l7, k7, rfl, q7, s7, u7, v7, o7⟩ := open_slc (ce := icell) (size := 1) Try.underlying23 (by kernel_rfl) (by decide) elemI t7
  have hcs : cs = wdcell ⟨m0, m1, m2, m3, m4, m5, m6, A7, l7, k7⟩ := by
    match cs, hlen with
    | [z0, z1, z2, z3, z4, z5, z6, z7], _ => simp at e0 e1 e2 e3 e4 e5 e6 e7; simp [wdcell, *]
  exact ⟨_, hcs, ⟨s7, by show l7.length ≤ maxLen; omega⟩⟩
theorem trodOf {t : TypeId} {v : Value} {d : DataW H} {p : List MemPlace} (hv : ∀ cs : List Value, v ≠ .agg cs.toArray) (h : DataW.Trod enc Try.prog w base sp held t v d p) : ∃ fuel, DataW.trod enc Try.prog w base sp held fuel t [v] = some (d, p) := by
  obtain ⟨fuel, hf⟩ := h
  refine ⟨fuel, ?_⟩
  have : v.cells.toList = [v] := by
    cases v <;> first | rfl | (exfalso; exact hv _ (by rfl))
  rw [← this]; exact hf

theorem sliceS {A : Option Addr} {len cap : Nat} {d : DataW H} {p : List MemPlace} (h : DataW.Trod enc Try.prog w base sp held 40 (.slice A len cap) d p) : ∃ l, l.length = len ∧ (∀ x ∈ l, True) ∧ Sl scell 1 w A l ∧ l.length ≤ cap ∧ cap ≤ maxLen ∧ (A = none → cap = 0) := by
  obtain ⟨fuel, hf⟩ := h
  obtain ⟨A', l, cap', he, h2, h3, h4, h5, h6⟩ := open_slc (ce := scell) (size := 1) Try.underlying40 (by kernel_rfl) (by decide) elemS hf
  simp only [Value.slice.injEq] at he
  obtain ⟨rfl, rfl, rfl⟩ := he
  exact ⟨l, rfl, h2, h3, h4, h5, h6⟩

theorem sliceW {A : Option Addr} {len cap : Nat} {d : DataW H} {p : List MemPlace} (h : DataW.Trod enc Try.prog w base sp held 34 (.slice A len cap) d p) : ∃ l, l.length = len ∧ (∀ x ∈ l, WOk w x) ∧ Sl wdcell 8 w A l ∧ l.length ≤ cap ∧ cap ≤ maxLen ∧ (A = none → cap = 0) := by
  obtain ⟨fuel, hf⟩ := h
  obtain ⟨A', l, cap', he, h2, h3, h4, h5, h6⟩ := open_slc (ce := wdcell) (size := 8) Try.underlying34 (by kernel_rfl) (by decide) elemW hf
  simp only [Value.slice.injEq] at he
  obtain ⟨rfl, rfl, rfl⟩ := he
  exact ⟨l, rfl, h2, h3, h4, h5, h6⟩

theorem designA {r : Reach} {b0 : Nat} {v : Value} {d : DataW H} {p : List MemPlace} (hv : Value.okWide Try.prog w r b0 33 v) (h0 : DataW.Trod enc Try.prog w base sp held 33 v d p) : ∃ (h nd pt : Value) (sA : Option Addr) (sl : List Sm) (sc : Nat) (pk ne : Value), v = .agg #[h, nd, pt, .slice sA sl.length sc, pk, ne] ∧ Sl smcell 6 w sA sl ∧ sl.length ≤ maxLen := by
  obtain ⟨cs, rfl, hsz⟩ := okWide_struct Try.underlying33 hv
  obtain ⟨fuel, h⟩ := h0
  obtain ⟨xs, n, _, _, hlen, hxl, hf⟩ := DataW.trod_struct Try.underlying33 h
  rw [show Try.prog.cellsOf 33 = 6 by kernel_rfl] at hlen
  obtain ⟨c0, y0, e0, t0⟩ := field_one hxl hf (i := 0) rfl (j := 0) rfl (by kernel_rfl) (by omega)
  obtain ⟨c1, y1, e1, t1⟩ := field_one hxl hf (i := 1) rfl (j := 1) rfl (by kernel_rfl) (by omega)
  obtain ⟨c2, y2, e2, t2⟩ := field_one hxl hf (i := 2) rfl (j := 2) rfl (by kernel_rfl) (by omega)
  obtain ⟨c3, y3, e3, t3⟩ := field_one hxl hf (i := 3) rfl (j := 3) rfl (by kernel_rfl) (by omega)
  obtain ⟨c4, y4, e4, t4⟩ := field_one hxl hf (i := 4) rfl (j := 4) rfl (by kernel_rfl) (by omega)
  obtain ⟨c5, y5, e5, t5⟩ := field_one hxl hf (i := 5) rfl (j := 5) rfl (by kernel_rfl) (by omega)
  obtain ⟨A3, l3, k3, rfl, q3, s3, u3, v3, o3⟩ := open_slc (ce := smcell) (size := 6) Try.underlying29 (by kernel_rfl) (by decide) elemM t3
  have hcs : cs.toList = [c0, c1, c2, .slice A3 l3.length k3, c4, c5] := by
    have hl2 : cs.toList.length = 6 := hlen
    change cs.toList[0]? = _ at e0; change cs.toList[1]? = _ at e1; change cs.toList[2]? = _ at e2; change cs.toList[3]? = _ at e3; change cs.toList[4]? = _ at e4; change cs.toList[5]? = _ at e5
    revert e0 e1 e2 e3 e4 e5 hl2
    generalize cs.toList = L
    intro hl2 e0 e1 e2 e3 e4 e5
    match L, hl2 with
    | [z0, z1, z2, z3, z4, z5], _ => simp at e0 e1 e2 e3 e4 e5; simp [*]
  exact ⟨c0, c1, c2, A3, l3, k3, c4, c5, by have hc : cs = #[c0, c1, c2, .slice A3 l3.length k3, c4, c5] := Array.ext' hcs; rw [hc], s3, by omega⟩
theorem taskA {r : Reach} {b0 : Nat} {v : Value} {d : DataW H} {p : List MemPlace} (hv : Value.okWide Try.prog w r b0 52 v) (h : DataW.Trod enc Try.prog w base sp held 52 v d p) : ∃ x : Tk, v = .agg #[.string x.seam, .int .i64 x.m] := by
  obtain ⟨cs, rfl, hsz⟩ := okWide_struct Try.underlying52 hv
  obtain ⟨fuel, hf⟩ := h
  obtain ⟨x, hx, _⟩ := elemT _ _ _ hf
  exact ⟨x, by have hc : cs = #[.string x.seam, .int .i64 x.m] := Array.ext' hx; rw [hc]⟩
end
end Go.Proofs.Ytobgfnlfbjodjaa
