/- From an argument's reading to lists: slices and structs opened to plain data. No program in sight. -/
import Derived.Test.YthddekipelbooaaCore
import Derived.ProofKit
import Derived.OpenShut
import Derived.Deep.Slices
import Derived.Deep.DeepHandedRow
import Derived.Lib.LaidTab
import Derived.Stop.LaidErr
import Derived.ChangeOld
namespace Go.Proofs.Core
open Go Go.RowKit Go.Deep Go.ChangeShapes Go.WideShapes
variable {ds : List Deferred}

/-- The slice at A reads as l, element i's cells 'enc' of it. -/
def Sl {α : Type} (ce : α → List Value) (size : Nat) (w : World) (A : Option Addr) (l : List α) : Prop :=
  l = [] ∨ ∃ b o, A = some ⟨b, o, none⟩ ∧ ∀ (i : Nat) (x : α), l[i]? = some x → ∀ (j : Nat) (v : Value), (ce x)[j]? = some v → w.cell? ⟨b, o + i * size + j, none⟩ = some v
theorem Sl.ext {α : Type} {ce : α → List Value} {size : Nat} {w w' : World} {A : Option Addr} {l : List α} (h : Sl ce size w A l) (e : Ext w w') : Sl ce size w' A l := by
  rcases h with h | ⟨b, o, h1, h2⟩
  · exact .inl h
  · exact .inr ⟨b, o, h1, fun i x hx j v hv => e.cell (h2 i x hx j v hv)⟩
theorem Sl.at_ {α : Type} {ce : α → List Value} {size : Nat} {w : World} {A : Option Addr} {l : List α} (h : Sl ce size w A l) {k : Nat} (hk : k < l.length) :
    ∃ b o, A = some ⟨b, o, none⟩ ∧ ∀ (i : Nat) (x : α), l[i]? = some x → ∀ (j : Nat) (v : Value), (ce x)[j]? = some v → w.cell? ⟨b, o + i * size + j, none⟩ = some v := by
  rcases h with h | h
  · subst h; simp at hk
  · exact h

section
variable {H : Type} {enc : TypeId × Value → H} {P : Program} {w : World} {base : Nat} {sp : Nat → Bool} {held : Bool}

theorem choose_list {α : Type} {n : Nat} {R : Nat → α → Prop} (h : ∀ i, i < n → ∃ x, R i x) : ∃ l : List α, l.length = n ∧ ∀ i x, l[i]? = some x → R i x := by
  induction n with
  | zero => exact ⟨[], rfl, by simp⟩
  | succ n ih =>
    obtain ⟨l, hl, hr⟩ := ih fun i hi => h i (by omega)
    obtain ⟨x, hx⟩ := h n (by omega)
    refine ⟨l ++ [x], by simp [hl], fun i y hy => ?_⟩
    by_cases hi : i < n
    · rw [List.getElem?_append_left (by omega)] at hy; exact hr i y hy
    · rw [List.getElem?_append_right (by omega)] at hy
      have h0 : i - l.length = 0 := by
        rcases Nat.eq_zero_or_pos (i - l.length) with h | h
        · exact h
        · rw [List.getElem?_eq_none (by simp; omega)] at hy; cases hy
      rw [h0] at hy
      obtain rfl : i = n := by omega
      obtain rfl : x = y := by simpa using hy
      exact hx

theorem open_sl {α : Type} {ce : α → List Value} {Q : α → Prop} {size t e fuel len cap : Nat} {A : Option Addr} {y : DataW H × List MemPlace} (ht : P.underlying t = some (.slice e)) (hC : P.cellsOf e = size) (hs : 0 < size)
    (helem : ∀ (cs : List Value) (k : Nat) (z : DataW H × List MemPlace), DataW.trod enc P w base sp held k e cs = some z → ∃ x, cs = ce x ∧ Q x)
    (h : DataW.trod enc P w base sp held fuel t [.slice A len cap] = some y) : ∃ l : List α, l.length = len ∧ (∀ x ∈ l, Q x) ∧ Sl ce size w A l := by
  rcases open_slice ht h with ⟨h0, _⟩ | ⟨a, len', cap', m, n, D, Pl, hcs, hb, hl, hm, hmm, hx, hi⟩
  · simp at h0
    obtain ⟨rfl, rfl, rfl⟩ := h0
    exact ⟨[], rfl, by simp, .inl rfl⟩
  · simp at hcs
    obtain ⟨rfl, rfl, rfl⟩ := hcs
    have hmle : len ≤ m := by rw [hmm]; split <;> omega
    obtain ⟨l, hll, hlr⟩ := choose_list (n := len) (R := fun i x => Q x ∧ ∀ j v, (ce x)[j]? = some v → w.cell? (a.add (i * size + j)) = some v) fun i hi' => by
      obtain ⟨cs', h1, h2⟩ := hi i (by omega)
      obtain ⟨x, rfl, hq⟩ := helem cs' n _ h2
      refine ⟨x, hq, fun j v hv => ?_⟩
      rw [hC] at h1
      obtain ⟨_, hcl, hat⟩ := World.cells?_some h1
      have hj : j < size := by rw [← hcl]; exact (List.getElem?_eq_some_iff.1 hv).1
      have := hat j hj
      rw [← Go.Deep.add_add, this, hv]
    refine ⟨l, hll, fun x hx => ?_, ?_⟩
    · obtain ⟨i, hi1, rfl⟩ := List.getElem_of_mem hx
      exact (hlr i _ (List.getElem?_eq_getElem hi1)).1
    · rcases Nat.eq_zero_or_pos len with h0 | h0
      · exact .inl (List.eq_nil_of_length_eq_zero (by omega))
      · right
        obtain ⟨cs', h1, h2⟩ := hi 0 (by omega)
        rw [hC] at h1
        obtain ⟨_, hcl, hat⟩ := World.cells?_some h1
        have h3 := hat 0 hs
        have h4 : w.cell? a = some (cs'[0]'(by omega)) := by
          have e0 : (a.add (0 * size)).add 0 = a := by simp [Addr.add]
          rw [e0] at h3; rw [h3]; exact List.getElem?_eq_getElem (by omega)
        obtain ⟨b, o, spot⟩ := a
        obtain rfl : spot = none := World.cell?_spot h4
        refine ⟨b, o, rfl, fun i x hx j v hv => ?_⟩
        have := (hlr i x hx).2 j v hv
        have e1 : (⟨b, o, none⟩ : Addr).add (i * size + j) = ⟨b, o + i * size + j, none⟩ := by unfold Addr.add; split <;> simp_all [Nat.add_assoc]
        rwa [e1] at this

/-- One field of a struct. -/
theorem field_int {fs : Array Field} {k : IntKind} {n i : Nat} {f : Field} {cs : List Value} {xs : List (DataW H × List MemPlace)} (hxl : xs.length = fs.size)
    (hf : ∀ (i : Nat) (f : Field), fs[i]? = some f → DataW.trod enc P w base sp held n f.type ((cs.drop f.offset).take (P.cellsOf f.type)) = xs[i]?) (hi : fs[i]? = some f) (ho : f.offset = i) (hu : P.underlying f.type = some (.int k)) (hc : P.cellsOf f.type = 1) :
    ∃ m, cs[i]? = some (.int k m) ∧ (Lit.int k m).wf = true := by
  have h1 := hf i f hi
  have hlt : i < xs.length := by rw [hxl]; exact (Array.getElem?_eq_some_iff.1 hi).1
  rw [List.getElem?_eq_getElem hlt] at h1
  obtain ⟨m, h2, _, hw⟩ := DataW.trod_int hu h1
  rw [hc, ho] at h2
  refine ⟨m, ?_, hw⟩
  have := congrArg (fun l => l[0]?) h2
  simpa [List.getElem?_take, List.getElem?_drop] using this
theorem wf_I64 {n : Int} (h : (Lit.int .i64 n).wf = true) : I64 n := by
  simp [Lit.wf, IntKind.min, IntKind.max, IntKind.signed, IntKind.bits] at h
  unfold I64; omega
theorem wf_u16 {n : Int} (h : (Lit.int .u16 n).wf = true) : 0 ≤ n ∧ n ≤ 65535 := by
  simpa [Lit.wf, IntKind.min, IntKind.max, IntKind.signed, IntKind.bits] using h
theorem wf_u8 {n : Int} (h : (Lit.int .u8 n).wf = true) : 0 ≤ n ∧ n ≤ 255 := by
  simpa [Lit.wf, IntKind.min, IntKind.max, IntKind.signed, IntKind.bits] using h
end
end Go.Proofs.Core
