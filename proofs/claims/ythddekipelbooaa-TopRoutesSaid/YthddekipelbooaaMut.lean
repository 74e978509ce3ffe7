/- The calculus, more: a call that writes into one block that it was given. No program in sight. -/
import Derived.Test.YthddekipelbooaaBits
namespace Go.Proofs.Core
open Go Go.RowKit Go.Deep Go.WideShapes
variable {ds : List Deferred}
set_option linter.unusedVariables false
set_option linter.unusedSimpArgs false
/-- The world has grown, and of the old blocks only g may have changed. -/
structure Mut (g : Nat) (w w' : World) : Prop where
  os : w'.os = w.os
  tape : w'.tape = w.tape
  output : w'.output = w.output
  size : w.heap.size ≤ w'.heap.size
  block : ∀ k, k < w.heap.size → k ≠ g → w'.heap[k]? = w.heap[k]?
theorem Mut.rfl' (g : Nat) (w : World) : Mut g w w := ⟨rfl, rfl, rfl, Nat.le_refl _, fun _ _ _ => rfl⟩
theorem Mut.of {g : Nat} {a b : World} (h : Ext a b) : Mut g a b := ⟨h.os, h.tape, h.output, h.size, fun k hk _ => h.block k hk⟩
theorem Mut.trans {g : Nat} {a b c : World} (h : Mut g a b) (k : Mut g b c) : Mut g a c :=
  ⟨k.os.trans h.os, k.tape.trans h.tape, k.output.trans h.output, Nat.le_trans h.size k.size, fun i hi hn => (k.block i (Nat.lt_of_lt_of_le hi h.size) hn).trans (h.block i hi hn)⟩
theorem Mut.comp {g : Nat} {a b c : World} (h : Mut g a b) (k : Ext b c) : Mut g a c := h.trans (.of k)
theorem Mut.kp {g g' : Nat} {a b c : World} (h : Mut g a b) (k : Kp g' b c) (hg : g = g') : Mut g a c := by
  subst hg
  exact h.trans ⟨k.os, k.tape, k.output, by rw [k.size]; exact Nat.le_refl _, fun i _ hn => k.block i hn⟩
theorem Mut.mut {g g' : Nat} {a b c : World} (h : Mut g a b) (k : Mut g' b c) (hg : g = g') : Mut g a c := by
  subst hg
  exact h.trans k
theorem Mut.gb {g : Nat} {a b : World} (h : Mut g a b) : a.grownBy b (some g) := ⟨h.os, h.tape, h.output, h.size, fun k hk hn => h.block k hk (fun e => hn (by rw [e]))⟩
theorem ext_mut {g : Nat} {a b c : World} (h : Ext a b) (k : Mut g b c) (hg : a.heap.size ≤ g) : Ext a c :=
  ⟨k.os.trans h.os, k.tape.trans h.tape, k.output.trans h.output, Nat.le_trans h.size k.size, fun i hi => (k.block i (Nat.lt_of_lt_of_le hi h.size) (by omega)).trans (h.block i hi)⟩
theorem Ext.mut {g : Nat} {a b c : World} (h : Ext a b) (k : Mut g b c) (hg : a.heap.size ≤ g) : Ext a c := ext_mut h k hg
theorem Blk.mut {g g' : Nat} {w w' : World} {t : TypeId} {cs : List Value} (h : Blk w g' t cs) (k : Mut g w w') (hne : g' ≠ g) : Blk w' g' t cs := (k.block _ h.lt hne).trans h
theorem Own.mut {α : Type} {ce : α → List Value} {e : TypeId} {size base g : Nat} {w w' : World} {v : Value} {l : List α} (h : Own ce e size base w v l) (k : Mut g w w') (hne : v.ownBlock ≠ some g) : Own ce e size base w' v l :=
  h.grown k.gb (.inr hne)
theorem look_neq_bool {P : Program} {C : World → Prop} {n : Nat} {l : List (Nat × Bool × Value)} {σ : Nat → Value} {d : Option Tmp} {ty : TypeId} {pos : String} {after : Array Edge} {g : Option (Nat × Bool)} {p q : Bool}
    {t t' : TypeId} {x y : Operand} {b b' : Bool} (ht : P.underlying t = some .bool) (hx : ev n l x = some (p, .bool b)) (hp : p = true) (hy : ev n l y = some (q, .bool b')) (hq : q = true) :
    Look P C n l σ ⟨d, .binOp .neq t x y t', ty, pos, after, g⟩ (.bool !(b == b')) := fun w _ => by
  have h1 : (Op.equal t (.bool b) (.bool b')).run P w = .ok (b == b') w := by
    unfold Op.equal Op.maxDepth
    rw [show (10000 : Nat) = 9999 + 1 from rfl, run_equalIn_bool' w 9999 t b b' ht]
  simp only [execOp, eval_ev hx hp, eval_ev hy hq, eqGuard, binOp]
  simp [h1]
theorem one_bool {H : Type} {enc : TypeId × Value → H} {P : Program} {w : World} {base : Nat} {sp : Nat → Bool} {held : Bool} {fuel t : Nat} {c : Value} {y : DataW H × List MemPlace} (hu : P.underlying t = some .bool) (h : DataW.trod enc P w base sp held fuel t [c] = some y) : ∃ b : Bool, c = .bool b := by
  obtain ⟨b, h2, _⟩ := DataW.trod_bool hu h
  exact ⟨b, by simpa using h2⟩
theorem nd_t {p : Prop} [Decidable p] (h : (!decide p) = true) : ¬ p := fun hp => by rw [decide_eq_true hp] at h; cases h
theorem nd_f {p : Prop} [Decidable p] (h : (!decide p) = false) : p := by by_cases hp : p; exact hp; rw [decide_eq_false hp] at h; cases h
theorem nn_t {p : Prop} [Decidable p] (h : decide p = true) : p := of_decide_eq_true h
theorem nn_f {p : Prop} [Decidable p] (h : decide p = false) : ¬ p := of_decide_eq_false h
theorem mem_get {α : Type} {l : List α} {i : Nat} {x : α} (h : l[i]? = some x) : x ∈ l := List.mem_of_getElem? h
/-- The end of a function without a result. -/
theorem resE {P : Program} {fn : Func} {R : Ending → World → Prop} {n : Nat} {l : List (Nat × Bool × Value)} {σ : Nat → Value} {w : World}
    (hr : fn.results = #[]) (h : R (.returned (.tuple #[])) w) : bodyPost P fn R .normal (act (ds := []) n l σ) w :=
  bodyPost_end (v := .tuple #[]) (results_none hr _ _ _) rfl h
end Go.Proofs.Core
