/- Chapter 44 (route): the laws' arguments as plain data. -/
import Derived.Test.YtbmchijgejgboaaA
import Derived.Test.YtbmchijgejgboaaF
import Derived.ProofKit
import Derived.ChangeMaps5
import Derived.RowKit
namespace Go.Proofs.Ytbmchijgejgboaa
open Go Go.RowKit Core
open Go.ChangeShapes Go.WideShapes Go.ChangeAt Go.Deep
set_option linter.unusedVariables false
set_option linter.unusedSimpArgs false

theorem own : ownKnob Try.prog.godebug = none := by kernel_rfl
theorem laidOut : laidOutB Try.prog = true := by kernel_rfl
section
variable {H : Type} {enc : TypeId × Value → H} {w : World} {base : Nat} {sp : Nat → Bool} {held : Bool}
theorem elemC (cs : List Value) (k : Nat) (z : DataW H × List MemPlace) (h : DataW.trod enc Try.prog w base sp held k 35 cs = some z) : ∃ x : Cl, cs = ccell x ∧ COk x := by
  obtain ⟨xs, n, _, _, hlen, hxl, hf⟩ := DataW.trod_struct Try.underlying35 h
  rw [show Try.prog.cellsOf 35 = 3 by kernel_rfl] at hlen
  obtain ⟨c0, y0, e0, t0⟩ := field_one hxl hf (i := 0) rfl (j := 0) rfl (by kernel_rfl) (by omega)
  obtain ⟨c1, y1, e1, t1⟩ := field_one hxl hf (i := 1) rfl (j := 1) rfl (by kernel_rfl) (by omega)
  obtain ⟨c2, y2, e2, t2⟩ := field_one hxl hf (i := 2) rfl (j := 2) rfl (by kernel_rfl) (by omega)
  obtain ⟨m0, rfl, w0⟩ := one_int Try.underlying3 t0
  obtain ⟨m1, rfl, w1⟩ := one_int Try.underlying3 t1
  obtain ⟨m2, rfl, w2⟩ := one_int Try.underlying3 t2
  have hcs : cs = ccell ⟨m0, m1, m2⟩ := by
    match cs, hlen with
    | [z0, z1, z2], _ => simp at e0 e1 e2; simp [ccell, *]
  exact ⟨_, hcs, ⟨wf_I64 w0, wf_I64 w1, wf_I64 w2⟩⟩
theorem cellsA {A : Option Addr} {len cap : Nat} {d : DataW H} {p : List MemPlace} (h : DataW.Trod enc Try.prog w base sp held 22 (.slice A len cap) d p) : ∃ l, l.length = len ∧ (∀ x ∈ l, COk x) ∧ Sl ccell 3 w A l ∧ l.length ≤ cap ∧ cap ≤ maxLen ∧ (A = none → cap = 0) := by
  obtain ⟨fuel, hf⟩ := h
  obtain ⟨A', l, cap', he, h2, h3, h4, h5, h6⟩ := open_slc (ce := ccell) (size := 3) Try.underlying22 (by kernel_rfl) (by decide) elemC hf
  simp only [Value.slice.injEq] at he
  obtain ⟨rfl, rfl, rfl⟩ := he
  exact ⟨l, rfl, h2, h3, h4, h5, h6⟩

theorem elemG (cs : List Value) (k : Nat) (z : DataW H × List MemPlace) (h : DataW.trod enc Try.prog w base sp held k 24 cs = some z) : ∃ x : Gr, cs = gcell x ∧ GOk w x := by
  obtain ⟨xs, n, _, _, hlen, hxl, hf⟩ := DataW.trod_struct Try.underlying24 h
  rw [show Try.prog.cellsOf 24 = 4 by kernel_rfl] at hlen
  obtain ⟨c0, y0, e0, t0⟩ := field_one hxl hf (i := 0) rfl (j := 0) rfl (by kernel_rfl) (by omega)
  obtain ⟨c1, y1, e1, t1⟩ := field_one hxl hf (i := 1) rfl (j := 1) rfl (by kernel_rfl) (by omega)
  obtain ⟨c2, y2, e2, t2⟩ := field_one hxl hf (i := 2) rfl (j := 2) rfl (by kernel_rfl) (by omega)
  obtain ⟨c3, y3, e3, t3⟩ := field_one hxl hf (i := 3) rfl (j := 3) rfl (by kernel_rfl) (by omega)
  obtain ⟨m0, rfl, w0⟩ := one_int Try.underlying3 t0
  obtain ⟨m1, rfl, w1⟩ := one_int Try.underlying3 t1
  obtain ⟨m2, rfl, w2⟩ := one_int Try.underlying3 t2
  obtain ⟨A3, l3, k3, rfl, q3, s3, u3, v3, o3⟩ := open_slc (ce := ccell) (size := 3) Try.underlying22 (by kernel_rfl) (by decide) elemC t3
  have hcs : cs = gcell ⟨m0, m1, m2, A3, l3, k3⟩ := by
    match cs, hlen with
    | [z0, z1, z2, z3], _ => simp at e0 e1 e2 e3; simp [gcell, *]
  exact ⟨_, hcs, ⟨s3, by show l3.length ≤ maxLen; omega, wf_I64 w0, wf_I64 w1, wf_I64 w2⟩⟩
theorem gridA {r : Reach} {b0 : Nat} {v : Value} {d : DataW H} {p : List MemPlace} (hv : Value.okWide Try.prog w r b0 24 v) (h : DataW.Trod enc Try.prog w base sp held 24 v d p) : ∃ x : Gr, v = .agg (gcell x).toArray ∧ GOk w x := by
  obtain ⟨cs, rfl, hsz⟩ := okWide_struct Try.underlying24 hv
  obtain ⟨fuel, hf⟩ := h
  obtain ⟨x, hx, hq⟩ := elemG _ _ _ hf
  exact ⟨x, by have hc : cs = (gcell x).toArray := Array.ext' hx; rw [hc], hq⟩
theorem cellA {r : Reach} {b0 : Nat} {v : Value} {d : DataW H} {p : List MemPlace} (hv : Value.okWide Try.prog w r b0 35 v) (h : DataW.Trod enc Try.prog w base sp held 35 v d p) : ∃ x : Cl, v = .agg (ccell x).toArray ∧ COk x := by
  obtain ⟨cs, rfl, hsz⟩ := okWide_struct Try.underlying35 hv
  obtain ⟨fuel, hf⟩ := h
  obtain ⟨x, hx, hq⟩ := elemC _ _ _ hf
  exact ⟨x, by have hc : cs = (ccell x).toArray := Array.ext' hx; rw [hc], hq⟩
theorem elemT (cs : List Value) (k : Nat) (z : DataW H × List MemPlace) (h : DataW.trod enc Try.prog w base sp held k 37 cs = some z) : ∃ x : It, cs = itcell x ∧ (COk x.at_ ∧ COk x.by_ ∧ I64 x.left) := by
  obtain ⟨xs, n, _, _, hlen, hxl, hf⟩ := DataW.trod_struct Try.underlying37 h
  rw [show Try.prog.cellsOf 37 = 7 by kernel_rfl] at hlen
  obtain ⟨c2, y2, e2, t2⟩ := field_one hxl hf (i := 2) rfl (j := 6) rfl (by kernel_rfl) (by omega)
  obtain ⟨m2, rfl, w2⟩ := one_int Try.underlying3 t2
  match xs, hxl with
  | [y0, y1, y2'], _ =>
    have h0 : DataW.trod enc Try.prog w base sp held n 35 ((cs.drop 0).take (Try.prog.cellsOf 35)) = some y0 := by simpa using hf 0 _ rfl
    have h1 : DataW.trod enc Try.prog w base sp held n 35 ((cs.drop 3).take (Try.prog.cellsOf 35)) = some y1 := by simpa using hf 1 _ rfl
    rw [show Try.prog.cellsOf 35 = 3 by kernel_rfl] at h0 h1
    obtain ⟨a, ha, qa⟩ := elemC _ _ _ h0
    obtain ⟨b, hb, qb⟩ := elemC _ _ _ h1
    refine ⟨⟨a, b, m2⟩, ?_, qa, qb, wf_I64 w2⟩
    match cs, hlen with
    | [z0, z1, z2, z3, z4, z5, z6], _ => simp [ccell] at ha hb e2; simp [itcell, *]
theorem tripA {r : Reach} {b0 : Nat} {v : Value} {d : DataW H} {p : List MemPlace} (hv : Value.okWide Try.prog w r b0 37 v) (h : DataW.Trod enc Try.prog w base sp held 37 v d p) : ∃ x : It, v = .agg (itcell x).toArray ∧ (COk x.at_ ∧ COk x.by_ ∧ I64 x.left) := by
  obtain ⟨cs, rfl, hsz⟩ := okWide_struct Try.underlying37 hv
  obtain ⟨fuel, hf⟩ := h
  obtain ⟨x, hx, hq⟩ := elemT _ _ _ hf
  exact ⟨x, by have hc : cs = (itcell x).toArray := Array.ext' hx; rw [hc], hq⟩
end
end Go.Proofs.Ytbmchijgejgboaa
