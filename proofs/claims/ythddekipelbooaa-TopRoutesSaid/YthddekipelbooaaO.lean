/- TopRoutes: the law's arguments as plain data. -/
import Derived.Test.YthddekipelbooaaA
import Derived.Test.YthddekipelbooaaF
import Derived.ProofKit
import Derived.ChangeMaps5
import Derived.RowKit
namespace Go.Proofs.Ythddekipelbooaa
open Go Go.RowKit Core
open Go.ChangeShapes Go.WideShapes Go.ChangeAt Go.Deep
set_option linter.unusedVariables false
set_option linter.unusedSimpArgs false

theorem own : ownKnob Try.prog.godebug = none := by kernel_rfl
theorem laidOut : laidOutB Try.prog = true := by kernel_rfl
section
variable {H : Type} {enc : TypeId × Value → H} {w : World} {base : Nat} {sp : Nat → Bool} {held : Bool}
theorem elemC (cs : List Value) (k : Nat) (z : DataW H × List MemPlace) (h : DataW.trod enc Try.prog w base sp held k 26 cs = some z) : ∃ x : Cl, cs = ccell x ∧ COk x := by
  obtain ⟨xs, n, _, _, hlen, hxl, hf⟩ := DataW.trod_struct Try.underlying26 h
  rw [show Try.prog.cellsOf 26 = 3 by kernel_rfl] at hlen
  obtain ⟨c0, y0, e0, t0⟩ := field_one hxl hf (i := 0) rfl (j := 0) rfl (by kernel_rfl) (by omega)
  obtain ⟨c1, y1, e1, t1⟩ := field_one hxl hf (i := 1) rfl (j := 1) rfl (by kernel_rfl) (by omega)
  obtain ⟨c2, y2, e2, t2⟩ := field_one hxl hf (i := 2) rfl (j := 2) rfl (by kernel_rfl) (by omega)
  obtain ⟨m0, rfl, w0⟩ := one_int Try.underlying3 t0
  obtain ⟨m1, rfl, w1⟩ := one_int Try.underlying3 t1
  obtain ⟨m2, rfl, w2⟩ := one_int Try.underlying3 t2
  have hcs : cs = ccell ⟨m0, m1, m2⟩ := by
    match cs, hlen with
    | [z0, z1, z2], _ => simp at e0 e1 e2; simp [ccell, *]
  exact ⟨_, hcs, ⟨wf_I64 w0, wf_I64 w1, wf_I64 w2⟩⟩
theorem elemG (cs : List Value) (k : Nat) (z : DataW H × List MemPlace) (h : DataW.trod enc Try.prog w base sp held k 24 cs = some z) : ∃ x : Gr, cs = gcell x ∧ GOk w x := by
  obtain ⟨xs, n, _, _, hlen, hxl, hf⟩ := DataW.trod_struct Try.underlying24 h
  rw [show Try.prog.cellsOf 24 = 4 by kernel_rfl] at hlen
  obtain ⟨c0, y0, e0, t0⟩ := field_one hxl hf (i := 0) rfl (j := 0) rfl (by kernel_rfl) (by omega)
  obtain ⟨c1, y1, e1, t1⟩ := field_one hxl hf (i := 1) rfl (j := 1) rfl (by kernel_rfl) (by omega)
  obtain ⟨c2, y2, e2, t2⟩ := field_one hxl hf (i := 2) rfl (j := 2) rfl (by kernel_rfl) (by omega)
  obtain ⟨c3, y3, e3, t3⟩ := field_one hxl hf (i := 3) rfl (j := 3) rfl (by kernel_rfl) (by omega)
  obtain ⟨m0, rfl, w0⟩ := one_int Try.underlying3 t0
  obtain ⟨m1, rfl, w1⟩ := one_int Try.underlying3 t1
  obtain ⟨m2, rfl, w2⟩ := one_int Try.underlying3 t2
  obtain ⟨A3, l3, k3, rfl, q3, s3, u3, v3, o3⟩ := open_slc (ce := ccell) (size := 3) Try.underlying22 (by kernel_rfl) (by decide) elemC t3
  have hcs : cs = gcell ⟨m0, m1, m2, A3, l3, k3⟩ := by
    match cs, hlen with
    | [z0, z1, z2, z3], _ => simp at e0 e1 e2 e3; simp [gcell, *]
  exact ⟨_, hcs, ⟨s3, by show l3.length ≤ maxLen; omega, wf_I64 w0, wf_I64 w1, wf_I64 w2⟩⟩
theorem gridA {r : Reach} {b0 : Nat} {v : Value} {d : DataW H} {p : List MemPlace} (hv : Value.okWide Try.prog w r b0 24 v) (h : DataW.Trod enc Try.prog w base sp held 24 v d p) : ∃ x : Gr, v = .agg (gcell x).toArray ∧ GOk w x := by
  obtain ⟨cs, rfl, hsz⟩ := okWide_struct Try.underlying24 hv
  obtain ⟨fuel, hf⟩ := h
  obtain ⟨x, hx, hq⟩ := elemG _ _ _ hf
  exact ⟨x, by have hc : cs = (gcell x).toArray := Array.ext' hx; rw [hc], hq⟩
theorem okWide_array {P : Program} {w : World} {r : Reach} {b0 : Nat} {t : TypeId} {v : Value} {n : Nat} {e : TypeId} (ht : P.underlying t = some (.array n e)) (h : Value.okWide P w r b0 t v) : ∃ cs, v = .agg cs ∧ cs.size = P.cellsOf t := by
  simp only [Value.okWide, ht] at h
  obtain ⟨cs, h1, h2, _⟩ := h
  exact ⟨cs, h1, h2⟩
theorem pairA {r : Reach} {b0 : Nat} {v : Value} {d : DataW H} {p : List MemPlace} (hv : Value.okWide Try.prog w r b0 27 v) (h : DataW.Trod enc Try.prog w base sp held 27 v d p) : ∃ x : Cl × Cl, v = .agg (rcell x.1 x.2).toArray ∧ True := by
  obtain ⟨cs, rfl, hsz⟩ := okWide_array Try.underlying27 hv
  obtain ⟨fuel, h⟩ := h
  obtain ⟨xs, m, _, _, hlen, hxl, hf⟩ := DataW.trod_array Try.underlying27 h
  rw [show Try.prog.cellsOf 27 = 6 by kernel_rfl] at hlen
  have h0 := hf 0 (by omega)
  have h1 := hf 1 (by omega)
  rw [show Try.prog.cellsOf 26 = 3 by kernel_rfl] at h0 h1
  match xs, hxl with
  | [y0, y1], _ =>
    obtain ⟨a, ha, _⟩ := elemC _ _ _ h0
    obtain ⟨b, hb, _⟩ := elemC _ _ _ h1
    obtain ⟨l⟩ := cs
    refine ⟨(a, b), ?_, trivial⟩
    match l, hlen with
    | [z0, z1, z2, z3, z4, z5], _ => (simp [ccell, Value.cells] at ha hb; simp [rcell, ha, hb])
end
end Go.Proofs.Ythddekipelbooaa
