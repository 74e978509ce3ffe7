/- The calculus, more: slices that the call itself grows, slices cut out of slices, conversions. No program in sight. -/
import Derived.Test.YtbmkkepmecpffaaDoorOpen
import Derived.Laws.AppendOwn
import Derived.Laws.OwnMore
import Derived.Laws.Slices
namespace Go.Proofs.Core
open Go Go.RowKit Go.Deep Go.ChangeShapes Go.WideShapes
set_option linter.unusedVariables false
set_option linter.unusedSimpArgs false

/-! ### Lists of cells -/
theorem flat_get {α : Type} {ce : α → List Value} {size : Nat} (hce : ∀ x, (ce x).length = size) : ∀ (l : List α) (j : Nat) (u : Value), (l.flatMap ce)[j]? = some u → ∃ (i k : Nat) (x : α), j = i * size + k ∧ l[i]? = some x ∧ (ce x)[k]? = some u
  | [], j, u, h => by simp at h
  | a :: r, j, u, h => by
    rw [List.flatMap_cons] at h
    by_cases hj : j < size
    · rw [List.getElem?_append_left (by rw [hce]; exact hj)] at h
      exact ⟨0, j, a, by omega, rfl, h⟩
    · rw [List.getElem?_append_right (by rw [hce]; omega), hce] at h
      obtain ⟨i, k, x, h1, h2, h3⟩ := flat_get hce r (j - size) u h
      exact ⟨i + 1, k, x, by rw [Nat.add_mul, Nat.one_mul]; omega, by simpa using h2, h3⟩
theorem flat_at {α : Type} {ce : α → List Value} {size : Nat} (hce : ∀ x, (ce x).length = size) : ∀ (l : List α) (i k : Nat) (x : α) (u : Value), l[i]? = some x → (ce x)[k]? = some u → (l.flatMap ce)[i * size + k]? = some u
  | [], i, k, x, u, h, _ => by simp at h
  | a :: r, i, k, x, u, h, hu => by
    rw [List.flatMap_cons]
    have hk : k < size := by rw [← hce x]; exact (List.getElem?_eq_some_iff.1 hu).1
    cases i with
    | zero =>
      obtain rfl : a = x := by simpa using h
      rw [List.getElem?_append_left (by rw [hce]; omega)]; simpa using hu
    | succ i =>
      rw [List.getElem?_append_right (by rw [hce, Nat.add_mul]; omega), hce]
      have := flat_at hce r i k x u (by simpa using h) hu
      rw [show (i + 1) * size + k - size = i * size + k by rw [Nat.add_mul, Nat.one_mul]; omega]; exact this
theorem flat_len {α : Type} {ce : α → List Value} {size : Nat} (hce : ∀ x, (ce x).length = size) : ∀ (l : List α), (l.flatMap ce).length = l.length * size
  | [] => by simp
  | a :: r => by rw [List.flatMap_cons, List.length_append, hce, flat_len hce r, List.length_cons, Nat.add_mul, Nat.one_mul, Nat.add_comm]

/-! ### Slices of the call's own -/
def Own {α : Type} (ce : α → List Value) (e : TypeId) (size base : Nat) (w : World) (v : Value) (l : List α) : Prop := w.ownsRow base e size v l.length (l.flatMap ce)
section
variable {α : Type} {ce : α → List Value} {e : TypeId} {size base : Nat} {w w' : World} {v : Value} {l : List α}
theorem Own.nil (ce : α → List Value) (e : TypeId) (size base : Nat) (w : World) : Own ce e size base w (.slice none 0 0) [] := World.ownsRow_nil w base e size
theorem Own.ext (h : Own ce e size base w v l) (x : Ext w w') : Own ce e size base w' v l :=
  h.kept (row := none) ⟨x.os, x.tape, x.output, x.size, fun k hk _ => x.block k hk⟩ (by cases hv : v.ownBlock <;> simp)
theorem Own.sl (hce : ∀ x, (ce x).length = size) (h : Own ce e size base w v l) : ∃ A cap, v = .slice A l.length cap ∧ Sl ce size w A l ∧ l.length ≤ cap ∧ cap ≤ maxLen ∧ (A = none → cap = 0) := by
  have h' : w.ownsRow base e size v l.length (l.flatMap ce) := h
  rcases h.2 with ⟨rfl, h0⟩ | ⟨g, cap, cur, rfl, hb, hg, h1, h2, h3, h4⟩
  · exact ⟨none, 0, by rw [h0], .inl (List.eq_nil_of_length_eq_zero h0), by omega, by decide, fun _ => rfl⟩
  · refine ⟨some ⟨g, 0, none⟩, cap, rfl, .inr ⟨g, 0, rfl, fun i x hx j u hu => ?_⟩, h1, h2, fun h => by cases h⟩
    have hj : j < size := by rw [← hce x]; exact (List.getElem?_eq_some_iff.1 hu).1
    have hi : i < l.length := (List.getElem?_eq_some_iff.1 hx).1
    have hm : i * size + j < l.length * size := by
      have : (i + 1) * size ≤ l.length * size := Nat.mul_le_mul_right _ hi
      rw [Nat.add_mul, Nat.one_mul] at this; omega
    rw [Nat.zero_add, World.ownsRow.cellAt h' (i * size + j) hm]
    exact flat_at hce l i j x u hx hu
theorem Own.ge (h : Own ce e size base w v l) {k : Nat} (hk : v.ownBlock = some k) : base ≤ k ∧ k < w.heap.size := World.ownsRow.lt h k hk
theorem grown_below {B : Nat} {w0 : World} (h : Below B w0 w) (ho : Own ce e size base w v l) (hB : B ≤ base) (hg : w.grownBy w' v.ownBlock) (hs : B ≤ w.heap.size) : Below B w0 w' := by
  refine ⟨hg.os.trans h.os, hg.tape.trans h.tape, hg.output.trans h.output, Nat.le_trans h.size hg.size, fun i hi => ?_⟩
  rw [hg.block i (by omega) (fun hne => ?_)]
  · exact h.block i hi
  · have := ho.ge hne.symm; omega
theorem Own.one {w : World} {g : Nat} {x : α} (hB : Blk w g e (ce x)) (hb : base ≤ g) (hce : (ce x).length = size) : Own ce e size base w (.slice (some ⟨g, 0, none⟩) 1 1) [x] := by
  refine ⟨by simp [hce], .inr ⟨g, 1, (ce x).toArray, rfl, hb, hB, Nat.le_refl _, by decide, by simp [hce], by simp [List.take_of_length_le (Nat.le_of_eq hce)]⟩⟩
end

/-- What an append copies. -/
def Src (w : World) (vx : Value) (m size : Nat) (news : List Value) : Prop :=
  (vx = .slice none 0 0 ∧ m = 0 ∧ news = []) ∨ ∃ a c, vx = .slice (some a) m c ∧ news.length = m * size ∧ (∀ j u, news[j]? = some u → w.cell? (a.add j) = some u) ∧ ∀ u ∈ news, u.oneCell' = true
theorem addAt (b o k : Nat) : (⟨b, o, none⟩ : Addr).add k = ⟨b, o + k, none⟩ := by unfold Addr.add; split <;> simp_all
theorem Sl.src {α : Type} {ce : α → List Value} {size : Nat} {w : World} {A : Option Addr} {l : List α} {cap : Nat} (hce : ∀ x, (ce x).length = size) (hone : ∀ x, ∀ u ∈ ce x, u.oneCell' = true)
    (h : Sl ce size w A l) (hn : A = none → cap = 0) : Src w (.slice A l.length cap) l.length size (l.flatMap ce) := by
  have h1 : ∀ u ∈ l.flatMap ce, u.oneCell' = true := by
    intro u hu
    obtain ⟨x, _, hx⟩ := List.mem_flatMap.1 hu
    exact hone x u hx
  rcases h with rfl | ⟨b, o, rfl, h2⟩
  · cases A with
    | none => exact .inl ⟨by rw [hn rfl]; rfl, rfl, rfl⟩
    | some a => exact .inr ⟨a, cap, rfl, by simp, by simp, by simp⟩
  · refine .inr ⟨_, cap, rfl, flat_len hce l, fun j u hj => ?_, h1⟩
    obtain ⟨i, k, x, rfl, hx, hu⟩ := flat_get hce l j u hj
    rw [addAt, ← Nat.add_assoc]
    exact h2 i x hx k u hu
/-- .. a row of one's own. -/
theorem Blk.src {α : Type} {ce : α → List Value} {size g : Nat} {t : TypeId} {w : World} {x : α} (hce : (ce x).length = size) (hone : ∀ u ∈ ce x, u.oneCell' = true)
    (h : Blk w g t (ce x)) : Src w (.slice (some ⟨g, 0, none⟩) 1 1) 1 size ([x].flatMap ce) := by
  refine .inr ⟨_, 1, rfl, by simp [hce], fun j u hj => ?_, by simpa using hone⟩
  rw [addAt, Nat.zero_add]
  exact h.cell (by simpa using hj)

section
variable {P : Program} {ops : Array Oper} {Q : Exit → Act → World → Prop} {n : Nat} {l : List (Nat × Bool × Value)} {σ : Nat → Value} {rest : List Oper} {w : World}
  {d : Tmp} {op : Op} {ty : TypeId} {pos : String} {after : Array Edge}
theorem s_append {s x : Operand} {t e : TypeId} {z v vx : Value} {size bytes base k m : Nat} {xs news : List Value}
    (ht : P.underlying t = some (.slice e)) (hi' : (P.info? e).map (fun i => (i.zero, i.size, i.bytes)) = some (some z, size, bytes)) (hz : z.cells.size = size) (hpos : Nat.ble 1 size = true)
    (hs : ev n l s = some (true, v)) (hown : w.ownsRow base e size v k xs) (hx : ev n l x = some (true, vx)) (hsrc : Src w vx m size news) (h63 : k + m ≤ maxLen) (hb : (k + m) * bytes ≤ 140737488355328) (hbase : base ≤ w.heap.size)
    (next : ∀ v' w', w'.ownsRow base e size v' (k + m) (xs ++ news) → w.grownBy w' v.ownBlock → wpList P ops Q rest (act n ((d, true, v') :: l) σ) w') :
    wpList P ops Q (⟨some d, .call { callee := .builtin .append, args := #[s, x], argTypes := #[t, t] }, ty, pos, after, none⟩ :: rest) (act n l σ) w := by
  obtain ⟨i, hi, hzz⟩ := info_of hi'
  simp only [Prod.mk.injEq] at hzz
  have hp := Nat.le_of_ble_eq_true hpos
  rcases hsrc with ⟨rfl, rfl, rfl⟩ | ⟨a, c, rfl, hl, hc, hone⟩
  · have hr := run_append_owned_none (P := P) w base t ty e i size ht hi v k xs hown
    refine s_val (v := v) (w' := w) ?_ (next v w (by simpa using hown) ⟨rfl, rfl, rfl, Nat.le_refl _, fun _ _ _ => rfl⟩)
    simp only [execOp, resolve, invoke, builtin, Sem.run_bind, Sem.run_pure, Result.andThen_ok, List.map_toArray, List.map_cons, List.map_nil, eval_ev hs rfl, eval_ev hx rfl, hr]
  · obtain ⟨v', w', hr, h1, h2, _⟩ := run_append_own (P := P) w base t ty e i z size bytes ht hi hzz.1 hzz.2.1 hzz.2.2 hz hp v k xs hown a m c news hl hc hone h63 hb hbase
    refine s_val (v := v') (w' := w') ?_ (next v' w' h1 h2)
    simp only [execOp, resolve, invoke, builtin, Sem.run_bind, Sem.run_pure, Result.andThen_ok, List.map_toArray, List.map_cons, List.map_nil, eval_ev hs rfl, eval_ev hx rfl, hr]
/-- .. told by elements. -/
theorem s_appendL {α : Type} {ce : α → List Value} {s x : Operand} {t e : TypeId} {z v vx : Value} {size bytes base : Nat} {xs news : List α}
    (ht : P.underlying t = some (.slice e)) (hi' : (P.info? e).map (fun i => (i.zero, i.size, i.bytes)) = some (some z, size, bytes)) (hz : z.cells.size = size) (hpos : Nat.ble 1 size = true)
    (hs : ev n l s = some (true, v)) (hown : Own ce e size base w v xs) (hx : ev n l x = some (true, vx)) (hsrc : Src w vx news.length size (news.flatMap ce)) (h63 : xs.length + news.length ≤ maxLen) (hb : (xs.length + news.length) * bytes ≤ 140737488355328) (hbase : base ≤ w.heap.size)
    (next : ∀ v' w', Own ce e size base w' v' (xs ++ news) → w.grownBy w' v.ownBlock → wpList P ops Q rest (act n ((d, true, v') :: l) σ) w') :
    wpList P ops Q (⟨some d, .call { callee := .builtin .append, args := #[s, x], argTypes := #[t, t] }, ty, pos, after, none⟩ :: rest) (act n l σ) w :=
  s_append ht hi' hz hpos hs hown hx hsrc h63 hb hbase fun v' w' h1 h2 => next v' w' (by unfold Own; rw [List.length_append, List.flatMap_append]; exact h1) h2
end

/-! ### Cuts -/
def cutA (A : Option Addr) (cap lo size : Nat) : Option Addr := if cap = lo then A else A.map (·.add (lo * size))
section
variable {P : Program} {C : World → Prop} {n : Nat} {l : List (Nat × Bool × Value)} {σ : Nat → Value}
  {d : Option Tmp} {ty : TypeId} {pos : String} {after : Array Edge} {g : Option (Nat × Bool)} {p q r : Bool}
theorem elem_of {t e : TypeId} (ht : P.underlying t = some (.slice e)) : P.elem t = e := by unfold Program.elem; rw [ht]
theorem look_slice_h {t e : TypeId} {x h : Operand} {A : Option Addr} {len cap size hi : Nat} {k : IntKind} {m : Int} (ht : P.underlying t = some (.slice e)) (hi' : (P.info? e).map (fun i => i.size) = some size)
    (hx : ev n l x = some (p, .slice A len cap)) (hp : p = true) (hh : ev n l h = some (q, .int k m)) (hq : q = true) (hm : m = (hi : Int)) (hle : hi ≤ cap) :
    Look P C n l σ ⟨d, .slice t x none (some h) none, ty, pos, after, g⟩ (.slice (cutA A cap 0 size) hi cap) := fun w _ => by
  obtain ⟨ti, hti, hz⟩ := info_of hi'
  subst hm
  have h1 := run_slice_h (P := P) (w := w) t A len cap (by rw [elem_of ht]; exact ht) k (hi : Int) (by omega) (by omega)
  simp only [execOp, Sem.run_bind, Sem.run_pure, Result.andThen_ok, Option.map_some, Option.map_none, eval_ev hx hp, eval_ev hh hq]
  rw [run_sliceAt_slice (P := P) (w := w) t _ _ _ _ (by rw [elem_of ht]; exact ht), h1, elem_of ht]
  simp [sizeOf, typeInfo, program, Sem.run, hti, hz, sliced, cutA]
theorem look_slice_l {t e : TypeId} {x h : Operand} {A : Option Addr} {len cap size lo : Nat} {k : IntKind} {m : Int} (ht : P.underlying t = some (.slice e)) (hi' : (P.info? e).map (fun i => i.size) = some size)
    (hx : ev n l x = some (p, .slice A len cap)) (hp : p = true) (hh : ev n l h = some (q, .int k m)) (hq : q = true) (hm : m = (lo : Int)) (hle : lo ≤ len) :
    Look P C n l σ ⟨d, .slice t x (some h) none none, ty, pos, after, g⟩ (.slice (cutA A cap lo size) (len - lo) (cap - lo)) := fun w _ => by
  obtain ⟨ti, hti, hz⟩ := info_of hi'
  subst hm
  have h1 := run_slice_l (P := P) (w := w) t A len cap (by rw [elem_of ht]; exact ht) k (lo : Int) (by omega) (by omega)
  simp only [execOp, Sem.run_bind, Sem.run_pure, Result.andThen_ok, Option.map_some, Option.map_none, eval_ev hx hp, eval_ev hh hq]
  rw [run_sliceAt_slice (P := P) (w := w) t _ _ _ _ (by rw [elem_of ht]; exact ht), h1, elem_of ht]
  simp [sizeOf, typeInfo, program, Sem.run, hti, hz, sliced, cutA]
theorem look_slice_lh {t e : TypeId} {x h h' : Operand} {A : Option Addr} {len cap size lo hi : Nat} {k k' : IntKind} {m m' : Int} (ht : P.underlying t = some (.slice e)) (hi' : (P.info? e).map (fun i => i.size) = some size)
    (hx : ev n l x = some (p, .slice A len cap)) (hp : p = true) (hh : ev n l h = some (q, .int k m)) (hq : q = true) (hh' : ev n l h' = some (r, .int k' m')) (hr : r = true) (hm : m = (lo : Int)) (hm' : m' = (hi : Int)) (hle : lo ≤ hi) (hle' : hi ≤ cap) :
    Look P C n l σ ⟨d, .slice t x (some h) (some h') none, ty, pos, after, g⟩ (.slice (cutA A cap lo size) (hi - lo) (cap - lo)) := fun w _ => by
  obtain ⟨ti, hti, hz⟩ := info_of hi'
  subst hm
  subst hm'
  have h1 := run_slice_lh (P := P) (w := w) t A len cap (by rw [elem_of ht]; exact ht) k k' (lo : Int) (hi : Int) (by omega) (by omega) (by omega)
  simp only [execOp, Sem.run_bind, Sem.run_pure, Result.andThen_ok, Option.map_some, Option.map_none, eval_ev hx hp, eval_ev hh hq, eval_ev hh' hr]
  rw [run_sliceAt_slice (P := P) (w := w) t _ _ _ _ (by rw [elem_of ht]; exact ht), h1, elem_of ht]
  simp [sizeOf, typeInfo, program, Sem.run, hti, hz, sliced, cutA]
end
theorem Sl.cut {α : Type} {ce : α → List Value} {size : Nat} {w : World} {A : Option Addr} {l : List α} {cap : Nat} (h : Sl ce size w A l) (hc : l.length ≤ cap) (lo hi : Nat) : Sl ce size w (cutA A cap lo size) ((l.take hi).drop lo) := by
  unfold cutA
  by_cases he : cap = lo
  · left
    refine List.drop_eq_nil_of_le ?_
    rw [List.length_take]; omega
  · rw [if_neg he]
    rcases h with rfl | ⟨b, o, rfl, h2⟩
    · left; simp
    · refine .inr ⟨b, o + lo * size, by simp [addAt], fun i x hx j v hv => ?_⟩
      rw [List.getElem?_drop, List.getElem?_take] at hx
      split at hx
      · have := h2 (lo + i) x hx j v hv
        rw [Nat.add_mul] at this
        rw [← this]; congr 2; omega
      · cases hx
theorem cutA_none {A : Option Addr} {cap lo size : Nat} (h : A = none → cap = 0) (hcut : cutA A cap lo size = none) : cap - lo = 0 := by
  have : cap = 0 := by
    apply h
    unfold cutA at hcut
    cases A with
    | none => rfl
    | some a => split at hcut <;> simp at hcut
  omega

section
variable {H : Type} {enc : TypeId × Value → H} {P : Program} {w : World} {base : Nat} {sp : Nat → Bool} {held : Bool}
theorem open_cap {t e fuel len cap : Nat} {A : Option Addr} {y : DataW H × List MemPlace} (ht : P.underlying t = some (.slice e))
    (h : DataW.trod enc P w base sp held fuel t [.slice A len cap] = some y) : len ≤ cap ∧ cap ≤ maxLen ∧ (A = none → cap = 0) := by
  rcases open_slice ht h with ⟨h0, _⟩ | ⟨a, len', cap', m, n, D, Pl, hcs, hb, hl, hm, hmm, hx, hi⟩
  · simp at h0
    obtain ⟨rfl, rfl, rfl⟩ := h0
    exact ⟨Nat.le_refl _, by decide, fun _ => rfl⟩
  · simp at hcs
    obtain ⟨rfl, rfl, rfl⟩ := hcs
    exact ⟨hl, hm, fun h => by cases h⟩
end
end Go.Proofs.Core
