/- Chapter 05 (cbor): the laws' arguments as plain data. -/
import Derived.Test.YtcneinajeapbhaaJ
import Derived.ProofKit
import Derived.ChangeMaps5
import Derived.RowKit
namespace Go.Proofs.Ytcneinajeapbhaa
open Go Go.RowKit Core
open Go.ChangeShapes Go.WideShapes Go.ChangeAt Go.Deep
set_option linter.unusedVariables false
set_option linter.unusedSimpArgs false

theorem own : ownKnob Try.prog.godebug = none := by kernel_rfl
theorem laidOut : laidOutB Try.prog = true := by kernel_rfl
section
variable {H : Type} {enc : TypeId × Value → H} {w : World} {base : Nat} {sp : Nat → Bool} {held : Bool}
theorem elemI (cs : List Value) (k : Nat) (z : DataW H × List MemPlace) (h : DataW.trod enc Try.prog w base sp held k 3 cs = some z) : ∃ x : Int, cs = icell x ∧ I64 x := by
  obtain ⟨x, h2, _, hw⟩ := DataW.trod_int Try.underlying3 h
  exact ⟨x, h2, wf_I64 hw⟩
theorem elemS (cs : List Value) (k : Nat) (z : DataW H × List MemPlace) (h : DataW.trod enc Try.prog w base sp held k 9 cs = some z) : ∃ x : List UInt8, cs = tcell x ∧ x.length ≤ maxLen := by
  obtain ⟨x, h2, _, hw⟩ := DataW.trod_string Try.underlying9 h
  exact ⟨x.data.toList, by rw [h2]; unfold tcell; rw [ofL_data], by rw [← ofL_size, ofL_data]; exact hw⟩
theorem elemB (cs : List Value) (k : Nat) (z : DataW H × List MemPlace) (h : DataW.trod enc Try.prog w base sp held k 4 cs = some z) : ∃ x : Bool, cs = bocell x ∧ True := by
  obtain ⟨x, h2, _⟩ := DataW.trod_bool Try.underlying4 h
  exact ⟨x, h2, trivial⟩
theorem elemA (cs : List Value) (k : Nat) (z : DataW H × List MemPlace) (h : DataW.trod enc Try.prog w base sp held k 45 cs = some z) : ∃ x : Ac, cs = acell x ∧ AcOk x := by
  obtain ⟨xs, n, _, _, hlen, hxl, hf⟩ := DataW.trod_struct Try.underlying45 h
  rw [show Try.prog.cellsOf 45 = 3 by kernel_rfl] at hlen
  obtain ⟨c0, y0, e0, t0⟩ := field_one hxl hf (i := 0) rfl (j := 0) rfl (by kernel_rfl) (by omega)
  obtain ⟨c1, y1, e1, t1⟩ := field_one hxl hf (i := 1) rfl (j := 1) rfl (by kernel_rfl) (by omega)
  obtain ⟨c2, y2, e2, t2⟩ := field_one hxl hf (i := 2) rfl (j := 2) rfl (by kernel_rfl) (by omega)
  obtain ⟨m0, rfl, w0⟩ := one_int Try.underlying3 t0
  obtain ⟨m1, rfl, w1⟩ := one_int Try.underlying3 t1
  obtain ⟨m2, rfl, w2⟩ := one_int Try.underlying3 t2
  have hcs : cs = acell ⟨m0, m1, m2⟩ := by
    match cs, hlen with
    | [z0, z1, z2], _ => simp at e0 e1 e2; simp [acell, *]
  exact ⟨_, hcs, ⟨wf_I64 w0, wf_I64 w1, wf_I64 w2⟩⟩
theorem sliceI {A : Option Addr} {len cap : Nat} {d : DataW H} {p : List MemPlace} (h : DataW.Trod enc Try.prog w base sp held 27 (.slice A len cap) d p) : ∃ l, l.length = len ∧ (∀ x ∈ l, I64 x) ∧ Sl icell 1 w A l ∧ l.length ≤ cap ∧ cap ≤ maxLen ∧ (A = none → cap = 0) := by
  obtain ⟨fuel, hf⟩ := h
  obtain ⟨A', l, cap', he, h2, h3, h4, h5, h6⟩ := open_slc (ce := icell) (size := 1) Try.underlying27 (by kernel_rfl) (by decide) elemI hf
  simp only [Value.slice.injEq] at he
  obtain ⟨rfl, rfl, rfl⟩ := he
  exact ⟨l, rfl, h2, h3, h4, h5, h6⟩

theorem sliceS {A : Option Addr} {len cap : Nat} {d : DataW H} {p : List MemPlace} (h : DataW.Trod enc Try.prog w base sp held 38 (.slice A len cap) d p) : ∃ l, l.length = len ∧ (∀ x ∈ l, x.length ≤ maxLen) ∧ Sl tcell 1 w A l ∧ l.length ≤ cap ∧ cap ≤ maxLen ∧ (A = none → cap = 0) := by
  obtain ⟨fuel, hf⟩ := h
  obtain ⟨A', l, cap', he, h2, h3, h4, h5, h6⟩ := open_slc (ce := tcell) (size := 1) Try.underlying38 (by kernel_rfl) (by decide) elemS hf
  simp only [Value.slice.injEq] at he
  obtain ⟨rfl, rfl, rfl⟩ := he
  exact ⟨l, rfl, h2, h3, h4, h5, h6⟩

theorem sliceB {A : Option Addr} {len cap : Nat} {d : DataW H} {p : List MemPlace} (h : DataW.Trod enc Try.prog w base sp held 39 (.slice A len cap) d p) : ∃ l, l.length = len ∧ (∀ x ∈ l, True) ∧ Sl bocell 1 w A l ∧ l.length ≤ cap ∧ cap ≤ maxLen ∧ (A = none → cap = 0) := by
  obtain ⟨fuel, hf⟩ := h
  obtain ⟨A', l, cap', he, h2, h3, h4, h5, h6⟩ := open_slc (ce := bocell) (size := 1) Try.underlying39 (by kernel_rfl) (by decide) elemB hf
  simp only [Value.slice.injEq] at he
  obtain ⟨rfl, rfl, rfl⟩ := he
  exact ⟨l, rfl, h2, h3, h4, h5, h6⟩

theorem sliceA {A : Option Addr} {len cap : Nat} {d : DataW H} {p : List MemPlace} (h : DataW.Trod enc Try.prog w base sp held 41 (.slice A len cap) d p) : ∃ l, l.length = len ∧ (∀ x ∈ l, AcOk x) ∧ Sl acell 3 w A l ∧ l.length ≤ cap ∧ cap ≤ maxLen ∧ (A = none → cap = 0) := by
  obtain ⟨fuel, hf⟩ := h
  obtain ⟨A', l, cap', he, h2, h3, h4, h5, h6⟩ := open_slc (ce := acell) (size := 3) Try.underlying41 (by kernel_rfl) (by decide) elemA hf
  simp only [Value.slice.injEq] at he
  obtain ⟨rfl, rfl, rfl⟩ := he
  exact ⟨l, rfl, h2, h3, h4, h5, h6⟩

theorem actA {r : Reach} {b0 : Nat} {v : Value} {d : DataW H} {p : List MemPlace} (hv : Value.okWide Try.prog w r b0 45 v) (h : DataW.Trod enc Try.prog w base sp held 45 v d p) : ∃ x : Ac, v = .agg (acell x).toArray ∧ AcOk x := by
  obtain ⟨cs, rfl, hsz⟩ := okWide_struct Try.underlying45 hv
  obtain ⟨fuel, hf⟩ := h
  obtain ⟨x, hx, hq⟩ := elemA _ _ _ hf
  exact ⟨x, by have hc : cs = (acell x).toArray := Array.ext' hx; rw [hc], hq⟩
end
end Go.Proofs.Ytcneinajeapbhaa
