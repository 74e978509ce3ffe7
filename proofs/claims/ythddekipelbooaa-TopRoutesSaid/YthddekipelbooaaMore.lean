/- The calculus, more: slices that the call itself grows, slices cut out of slices, conversions. No program in sight. -/
import Derived.Test.YthddekipelbooaaOpen
import Derived.Laws.AppendOwn
import Derived.Laws.OwnMore
import Derived.Laws.Slices
import Derived.Maps.AppendAt
namespace Go.Proofs.Core
open Go Go.RowKit Go.Deep Go.ChangeShapes Go.WideShapes
variable {ds : List Deferred}
set_option linter.unusedVariables false
set_option linter.unusedSimpArgs false

/-! ### Lists of cells -/
theorem flat_get {α : Type} {ce : α → List Value} {size : Nat} (hce : ∀ x, (ce x).length = size) : ∀ (l : List α) (j : Nat) (u : Value), (l.flatMap ce)[j]? = some u → ∃ (i k : Nat) (x : α), j = i * size + k ∧ l[i]? = some x ∧ (ce x)[k]? = some u
  | [], j, u, h => by simp at h
  | a :: r, j, u, h => by
    rw [List.flatMap_cons] at h
    by_cases hj : j < size
    · rw [List.getElem?_append_left (by rw [hce]; exact hj)] at h
      exact ⟨0, j, a, by omega, rfl, h⟩
    · rw [List.getElem?_append_right (by rw [hce]; omega), hce] at h
      obtain ⟨i, k, x, h1, h2, h3⟩ := flat_get hce r (j - size) u h
      exact ⟨i + 1, k, x, by rw [Nat.add_mul, Nat.one_mul]; omega, by simpa using h2, h3⟩
theorem flat_at {α : Type} {ce : α → List Value} {size : Nat} (hce : ∀ x, (ce x).length = size) : ∀ (l : List α) (i k : Nat) (x : α) (u : Value), l[i]? = some x → (ce x)[k]? = some u → (l.flatMap ce)[i * size + k]? = some u
  | [], i, k, x, u, h, _ => by simp at h
  | a :: r, i, k, x, u, h, hu => by
    rw [List.flatMap_cons]
    have hk : k < size := by rw [← hce x]; exact (List.getElem?_eq_some_iff.1 hu).1
    cases i with
    | zero =>
      obtain rfl : a = x := by simpa using h
      rw [List.getElem?_append_left (by rw [hce]; omega)]; simpa using hu
    | succ i =>
      rw [List.getElem?_append_right (by rw [hce, Nat.add_mul]; omega), hce]
      have := flat_at hce r i k x u (by simpa using h) hu
      rw [show (i + 1) * size + k - size = i * size + k by rw [Nat.add_mul, Nat.one_mul]; omega]; exact this
theorem flat_len {α : Type} {ce : α → List Value} {size : Nat} (hce : ∀ x, (ce x).length = size) : ∀ (l : List α), (l.flatMap ce).length = l.length * size
  | [] => by simp
  | a :: r => by rw [List.flatMap_cons, List.length_append, hce, flat_len hce r, List.length_cons, Nat.add_mul, Nat.one_mul, Nat.add_comm]

/-! ### Slices of the call's own -/
def Own {α : Type} (ce : α → List Value) (e : TypeId) (size base : Nat) (w : World) (v : Value) (l : List α) : Prop := w.ownsRow base e size v l.length (l.flatMap ce)
section
variable {α : Type} {ce : α → List Value} {e : TypeId} {size base : Nat} {w w' : World} {v : Value} {l : List α}
theorem Own.nil (ce : α → List Value) (e : TypeId) (size base : Nat) (w : World) : Own ce e size base w (.slice none 0 0) [] := World.ownsRow_nil w base e size
theorem Own.ext (h : Own ce e size base w v l) (x : Ext w w') : Own ce e size base w' v l :=
  h.kept (row := none) ⟨x.os, x.tape, x.output, x.size, fun k hk _ => x.block k hk⟩ (by cases hv : v.ownBlock <;> simp)
theorem Own.sl (hce : ∀ x, (ce x).length = size) (h : Own ce e size base w v l) : ∃ A cap, v = .slice A l.length cap ∧ Sl ce size w A l ∧ l.length ≤ cap ∧ cap ≤ maxLen ∧ (A = none → cap = 0) := by
  have h' : w.ownsRow base e size v l.length (l.flatMap ce) := h
  rcases h.2 with ⟨rfl, h0⟩ | ⟨g, cap, cur, rfl, hb, hg, h1, h2, h3, h4⟩
  · exact ⟨none, 0, by rw [h0], .inl (List.eq_nil_of_length_eq_zero h0), by omega, by decide, fun _ => rfl⟩
  · refine ⟨some ⟨g, 0, none⟩, cap, rfl, .inr ⟨g, 0, rfl, fun i x hx j u hu => ?_⟩, h1, h2, fun h => by cases h⟩
    have hj : j < size := by rw [← hce x]; exact (List.getElem?_eq_some_iff.1 hu).1
    have hi : i < l.length := (List.getElem?_eq_some_iff.1 hx).1
    have hm : i * size + j < l.length * size := by
      have : (i + 1) * size ≤ l.length * size := Nat.mul_le_mul_right _ hi
      rw [Nat.add_mul, Nat.one_mul] at this; omega
    rw [Nat.zero_add, World.ownsRow.cellAt h' (i * size + j) hm]
    exact flat_at hce l i j x u hx hu
theorem Own.ge (h : Own ce e size base w v l) {k : Nat} (hk : v.ownBlock = some k) : base ≤ k ∧ k < w.heap.size := World.ownsRow.lt h k hk
theorem grown_below {B : Nat} {w0 : World} (h : Below B w0 w) (ho : Own ce e size base w v l) (hB : B ≤ base) (hg : w.grownBy w' v.ownBlock) (hs : B ≤ w.heap.size) : Below B w0 w' := by
  refine ⟨hg.os.trans h.os, hg.tape.trans h.tape, hg.output.trans h.output, Nat.le_trans h.size hg.size, fun i hi => ?_⟩
  rw [hg.block i (by omega) (fun hne => ?_)]
  · exact h.block i hi
  · have := ho.ge hne.symm; omega
theorem Own.one {w : World} {g : Nat} {x : α} (hB : Blk w g e (ce x)) (hb : base ≤ g) (hce : (ce x).length = size) : Own ce e size base w (.slice (some ⟨g, 0, none⟩) 1 1) [x] := by
  refine ⟨by simp [hce], .inr ⟨g, 1, (ce x).toArray, rfl, hb, hB, Nat.le_refl _, by decide, by simp [hce], by simp [List.take_of_length_le (Nat.le_of_eq hce)]⟩⟩
end

/-- What an append copies. -/
def Src (w : World) (vx : Value) (m size : Nat) (news : List Value) : Prop :=
  (vx = .slice none 0 0 ∧ m = 0 ∧ news = []) ∨ ∃ a c, vx = .slice (some a) m c ∧ news.length = m * size ∧ (∀ j u, news[j]? = some u → w.cell? (a.add j) = some u) ∧ ∀ u ∈ news, u.oneCell' = true
theorem addAt (b o k : Nat) : (⟨b, o, none⟩ : Addr).add k = ⟨b, o + k, none⟩ := by unfold Addr.add; split <;> simp_all
theorem Sl.src {α : Type} {ce : α → List Value} {size : Nat} {w : World} {A : Option Addr} {l : List α} {cap : Nat} (hce : ∀ x, (ce x).length = size) (hone : ∀ x, ∀ u ∈ ce x, u.oneCell' = true)
    (h : Sl ce size w A l) (hn : A = none → cap = 0) : Src w (.slice A l.length cap) l.length size (l.flatMap ce) := by
  have h1 : ∀ u ∈ l.flatMap ce, u.oneCell' = true := by
    intro u hu
    obtain ⟨x, _, hx⟩ := List.mem_flatMap.1 hu
    exact hone x u hx
  rcases h with rfl | ⟨b, o, rfl, h2⟩
  · cases A with
    | none => exact .inl ⟨by rw [hn rfl]; rfl, rfl, rfl⟩
    | some a => exact .inr ⟨a, cap, rfl, by simp, by simp, by simp⟩
  · refine .inr ⟨_, cap, rfl, flat_len hce l, fun j u hj => ?_, h1⟩
    obtain ⟨i, k, x, rfl, hx, hu⟩ := flat_get hce l j u hj
    rw [addAt, ← Nat.add_assoc]
    exact h2 i x hx k u hu
/-- .. a row of one's own. -/
theorem Blk.src {α : Type} {ce : α → List Value} {size g : Nat} {t : TypeId} {w : World} {x : α} (hce : (ce x).length = size) (hone : ∀ u ∈ ce x, u.oneCell' = true)
    (h : Blk w g t (ce x)) : Src w (.slice (some ⟨g, 0, none⟩) 1 1) 1 size ([x].flatMap ce) := by
  refine .inr ⟨_, 1, rfl, by simp [hce], fun j u hj => ?_, by simpa using hone⟩
  rw [addAt, Nat.zero_add]
  exact h.cell (by simpa using hj)

section
variable {P : Program} {ops : Array Oper} {Q : Exit → Act → World → Prop} {n : Nat} {l : List (Nat × Bool × Value)} {σ : Nat → Value} {rest : List Oper} {w : World}
  {d : Tmp} {op : Op} {ty : TypeId} {pos : String} {after : Array Edge}
theorem s_append {s x : Operand} {t e : TypeId} {z v vx : Value} {size bytes base k m : Nat} {xs news : List Value}
    (ht : P.underlying t = some (.slice e)) (hi' : (P.info? e).map (fun i => (i.zero, i.size, i.bytes)) = some (some z, size, bytes)) (hz : z.cells.size = size) (hpos : Nat.ble 1 size = true)
    (hs : ev n l s = some (true, v)) (hown : w.ownsRow base e size v k xs) (hx : ev n l x = some (true, vx)) (hsrc : Src w vx m size news) (h63 : k + m ≤ maxLen) (hb : (k + m) * bytes ≤ 140737488355328) (hbase : base ≤ w.heap.size)
    (next : ∀ v' w', w'.ownsRow base e size v' (k + m) (xs ++ news) → w.grownBy w' v.ownBlock → (v'.ownBlock = v.ownBlock ∨ v'.ownBlock = some w.heap.size) → wpList P ops Q rest (act (ds := ds) n ((d, true, v') :: l) σ) w') :
    wpList P ops Q (⟨some d, .call { callee := .builtin .append, args := #[s, x], argTypes := #[t, t] }, ty, pos, after, none⟩ :: rest) (act (ds := ds) n l σ) w := by
  obtain ⟨i, hi, hzz⟩ := info_of hi'
  simp only [Prod.mk.injEq] at hzz
  have hp := Nat.le_of_ble_eq_true hpos
  rcases hsrc with ⟨rfl, rfl, rfl⟩ | ⟨a, c, rfl, hl, hc, hone⟩
  · have hr := run_append_owned_none (P := P) w base t ty e i size ht hi v k xs hown
    refine s_val (v := v) (w' := w) ?_ (next v w (by simpa using hown) ⟨rfl, rfl, rfl, Nat.le_refl _, fun _ _ _ => rfl⟩ (.inl rfl))
    simp only [execOp, resolve, invoke, builtin, Sem.run_bind, Sem.run_pure, Result.andThen_ok, List.map_toArray, List.map_cons, List.map_nil, eval_ev hs rfl, eval_ev hx rfl, hr]
  · obtain ⟨v', w', hr, h1, h2, _, h3⟩ := run_append_own_at (P := P) w base t ty e i z size bytes ht hi hzz.1 hzz.2.1 hzz.2.2 hz hp v k xs hown a m c news hl hc hone h63 hb hbase
    refine s_val (v := v') (w' := w') ?_ (next v' w' h1 h2 h3)
    simp only [execOp, resolve, invoke, builtin, Sem.run_bind, Sem.run_pure, Result.andThen_ok, List.map_toArray, List.map_cons, List.map_nil, eval_ev hs rfl, eval_ev hx rfl, hr]
/-- .. told by elements. -/
theorem s_appendL {α : Type} {ce : α → List Value} {s x : Operand} {t e : TypeId} {z v vx : Value} {size bytes base : Nat} {xs news : List α}
    (ht : P.underlying t = some (.slice e)) (hi' : (P.info? e).map (fun i => (i.zero, i.size, i.bytes)) = some (some z, size, bytes)) (hz : z.cells.size = size) (hpos : Nat.ble 1 size = true)
    (hs : ev n l s = some (true, v)) (hown : Own ce e size base w v xs) (hx : ev n l x = some (true, vx)) (hsrc : Src w vx news.length size (news.flatMap ce)) (h63 : xs.length + news.length ≤ maxLen) (hb : (xs.length + news.length) * bytes ≤ 140737488355328) (hbase : base ≤ w.heap.size)
    (next : ∀ v' w', Own ce e size base w' v' (xs ++ news) → w.grownBy w' v.ownBlock → (v'.ownBlock = v.ownBlock ∨ v'.ownBlock = some w.heap.size) → wpList P ops Q rest (act (ds := ds) n ((d, true, v') :: l) σ) w') :
    wpList P ops Q (⟨some d, .call { callee := .builtin .append, args := #[s, x], argTypes := #[t, t] }, ty, pos, after, none⟩ :: rest) (act (ds := ds) n l σ) w :=
  s_append ht hi' hz hpos hs hown hx hsrc h63 hb hbase fun v' w' h1 h2 h3 => next v' w' (by unfold Own; rw [List.length_append, List.flatMap_append]; exact h1) h2 h3
end

/-! ### What stays while a row of one's own grows -/
theorem Blk.grown {w w' : World} {g : Nat} {t : TypeId} {cs : List Value} {row : Option Nat} (h : Blk w g t cs) (hg : w.grownBy w' row) (hne : row ≠ some g) : Blk w' g t cs := (hg.block g h.lt (fun e => hne e.symm)).trans h
theorem Own.grown {α : Type} {ce : α → List Value} {e : TypeId} {size base : Nat} {w w' : World} {v : Value} {l : List α} {row : Option Nat} (h : Own ce e size base w v l) (hg : w.grownBy w' row) (hne : v.ownBlock = none ∨ v.ownBlock ≠ row) : Own ce e size base w' v l := World.ownsRow.kept h hg hne
theorem Own.kp {α : Type} {ce : α → List Value} {e : TypeId} {size base g : Nat} {w w' : World} {v : Value} {l : List α} (h : Own ce e size base w v l) (k : Kp g w w') (hne : v.ownBlock ≠ some g) : Own ce e size base w' v l :=
  World.ownsRow.kept h (row := some g) ⟨k.os, k.tape, k.output, by rw [k.size]; exact Nat.le_refl _, fun i _ hi => k.block i (fun e => hi (by rw [e]))⟩ (.inr hne)
theorem Own.weak {α : Type} {ce : α → List Value} {e : TypeId} {size base b : Nat} {w : World} {v : Value} {l : List α} (h : Own ce e size base w v l) (hb : b ≤ base) : Own ce e size b w v l := by
  refine ⟨h.1, ?_⟩
  rcases h.2 with hn | ⟨g, cap, cur, rfl, hbg, rest⟩
  · exact .inl hn
  · exact .inr ⟨g, cap, cur, rfl, Nat.le_trans hb hbg, rest⟩
theorem Own.ne_new {α : Type} {ce : α → List Value} {e : TypeId} {size base g : Nat} {w : World} {v : Value} {l : List α} (h : Own ce e size base w v l) (hg : w.heap.size ≤ g) : v.ownBlock ≠ some g := fun e => by have := h.ge e; omega
theorem Own.ne_old {α : Type} {ce : α → List Value} {e : TypeId} {size base g : Nat} {w : World} {v : Value} {l : List α} (h : Own ce e size base w v l) (hg : g < base) : v.ownBlock ≠ some g := fun e => by have := h.ge e; omega
theorem ne_app {v v' : Value} {w : World} {g : Nat} (hne : v.ownBlock ≠ some g) (hg : g < w.heap.size) (h : v'.ownBlock = v.ownBlock ∨ v'.ownBlock = some w.heap.size) : v'.ownBlock ≠ some g := by
  rcases h with h | h
  · rw [h]; exact hne
  · rw [h]; intro e; have := Option.some.inj e; omega
theorem Own.slOf {α : Type} {ce : α → List Value} {e : TypeId} {size base n cap : Nat} {w : World} {A : Option Addr} {l : List α} (hce : ∀ x, (ce x).length = size) (h : Own ce e size base w (.slice A n cap) l) : Sl ce size w A l ∧ n = l.length ∧ n ≤ cap ∧ cap ≤ maxLen ∧ (A = none → cap = 0) := by
  obtain ⟨A', cap', he, h1, h2, h3, h4⟩ := h.sl hce
  simp only [Value.slice.injEq] at he
  obtain ⟨rfl, rfl, rfl⟩ := he
  exact ⟨h1, rfl, h2, h3, h4⟩

theorem Ext.kp {g : Nat} {a w w' : World} (h : Ext a w) (k : Kp g w w') (hg : a.heap.size ≤ g) : Ext a w' := Kp.below h k hg
theorem Ext.grow {α : Type} {ce : α → List Value} {e : TypeId} {size base : Nat} {w0 w w' : World} {v : Value} {l : List α} (h : Ext w0 w) (ho : Own ce e size base w v l) (hB : w0.heap.size ≤ base) (hg : w.grownBy w' v.ownBlock) : Ext w0 w' := grown_below h ho hB hg h.size
/-- Two rows that do not share a block. -/
def Dis (v v' : Value) : Prop := ∀ k, v.ownBlock = some k → v'.ownBlock ≠ some k
theorem Dis.ne {v v' : Value} (h : Dis v v') : v'.ownBlock = none ∨ v'.ownBlock ≠ v.ownBlock := by
  cases hv : v.ownBlock with
  | none => cases hv' : v'.ownBlock with
    | none => exact .inl rfl
    | some k => exact .inr (by simp)
  | some k => exact .inr (h k hv)
theorem Dis.app {v v' v2 : Value} {w : World} (h : Dis v v2) (hlt : ∀ k, v2.ownBlock = some k → k < w.heap.size) (hat : v'.ownBlock = v.ownBlock ∨ v'.ownBlock = some w.heap.size) : Dis v' v2 := by
  intro k hk e
  rcases hat with h1 | h1
  · rw [h1] at hk; exact h k hk e
  · rw [h1] at hk; have := hlt k e; have := Option.some.inj hk; omega
theorem Own.dis_new {α β : Type} {ce : α → List Value} {ce' : β → List Value} {e e' : TypeId} {size size' base : Nat} {w w' : World} {v v' : Value} {l : List α} {l' : List β} (h : Own ce e size base w v l) (h' : Own ce' e' size' w.heap.size w' v' l') : Dis v v' :=
  fun k hk e => by have := (h.ge hk).2; have := (h'.ge e).1; omega
theorem Dis.symm {v v' : Value} (h : Dis v v') : Dis v' v := fun k hk e => h k e hk
theorem eqn {w : World} {b o : Nat} {cs : List Value} (h : ∀ (j : Nat) (v : Value), cs[j]? = some v → w.cell? ⟨b, o + j, none⟩ = some v) : ∀ w', w = w' → ∀ (j : Nat) (v : Value), cs[j]? = some v → w'.cell? ⟨b, o + j, none⟩ = some v := fun _ e => e ▸ h
theorem extn {w : World} {b o : Nat} {cs : List Value} (h : ∀ (j : Nat) (v : Value), cs[j]? = some v → w.cell? ⟨b, o + j, none⟩ = some v) : ∀ w', Ext w w' → ∀ (j : Nat) (v : Value), cs[j]? = some v → w'.cell? ⟨b, o + j, none⟩ = some v := fun _ e j v hv => e.cell (h j v hv)
theorem eqc_n {w : World} {g : Nat} {t : TypeId} {cs : List Value} (h : Blk w g t cs) : ∀ w', w = w' → ∀ (j : Nat) (v : Value), cs[j]? = some v → w'.cell? ⟨g, 0 + j, none⟩ = some v := fun _ e j v hv => e ▸ (by rw [Nat.zero_add]; exact h.cell hv)
theorem ext_cell_n {w : World} {g : Nat} {t : TypeId} {cs : List Value} (h : Blk w g t cs) : ∀ w', Ext w w' → ∀ (j : Nat) (v : Value), cs[j]? = some v → w'.cell? ⟨g, 0 + j, none⟩ = some v := fun _ e j v hv => e.cell (by rw [Nat.zero_add]; exact h.cell hv)
/-- A literal's row. -/
theorem Own.lit {α : Type} {ce : α → List Value} {e : TypeId} {size base g n : Nat} {w : World} {cs : List Value} {l : List α} (hB : Blk w g e cs) (hcs : cs = l.flatMap ce) (hn : n = l.length) (hl : cs.length = n * size) (hb : base ≤ g) (hm : n ≤ maxLen) : Own ce e size base w (.slice (some ⟨g, 0, none⟩) n n) l := by
  subst hn
  exact ⟨by rw [← hcs]; exact hl, .inr ⟨g, l.length, cs.toArray, rfl, hb, hB, Nat.le_refl _, hm, by simpa using hl, by rw [← hcs]; simp [List.take_of_length_le (Nat.le_of_eq hl)]⟩⟩
theorem ret_as {a b : Value} (h : a = b) : Ending.returned a = .returned b := by rw [h]
theorem ret_int {k : IntKind} {a b : Int} (h : a = b) : Ending.returned (.int k a) = .returned (.int k b) := by rw [h]
theorem ret_bool {a b : Bool} (h : a = b) : Ending.returned (.bool a) = .returned (.bool b) := by rw [h]
theorem get_lt {α : Type} {l : List α} {k : Nat} (hk : k < l.length) : ∃ x, l[k]? = some x := ⟨l[k], List.getElem?_eq_getElem hk⟩
theorem drop_get {α : Type} {l : List α} {k : Nat} {x : α} (hx : l[k]? = some x) : l.drop k = x :: l.drop (k + 1) := by
  obtain ⟨hk, rfl⟩ := List.getElem?_eq_some_iff.1 hx
  exact List.drop_eq_getElem_cons hk
theorem take_get {α : Type} {l : List α} {k : Nat} {x : α} (hx : l[k]? = some x) : l.take (k + 1) = l.take k ++ [x] := by
  rw [List.take_add_one, hx]; rfl
theorem maxLen_is : maxLen = 9223372036854775807 := rfl

theorem Sl.rd {α : Type} {ce : α → List Value} {size : Nat} {w : World} {b o : Nat} {l : List α} (h : Sl ce size w (some ⟨b, o, none⟩) l) (i : Nat) (x : α) (hx : l[i]? = some x) : ∀ (j : Nat) (v : Value), (ce x)[j]? = some v → w.cell? ⟨b, o + i * size + j, none⟩ = some v := by
  rcases h with rfl | ⟨b', o', he, h2⟩
  · simp at hx
  · simp only [Option.some.injEq, Addr.mk.injEq, and_true] at he
    obtain ⟨rfl, rfl⟩ := he
    exact h2 i x hx
theorem Own.rd {α : Type} {ce : α → List Value} {e : TypeId} {size base n cap b o : Nat} {w : World} {l : List α} (h : Own ce e size base w (.slice (some ⟨b, o, none⟩) n cap) l) (hce : ∀ x, (ce x).length = size) (i : Nat) (x : α) (hx : l[i]? = some x) : ∀ (j : Nat) (v : Value), (ce x)[j]? = some v → w.cell? ⟨b, o + i * size + j, none⟩ = some v :=
  (h.slOf hce).1.rd i x hx
theorem Blk.sl {α : Type} {ce : α → List Value} {size g : Nat} {t : TypeId} {w : World} {l : List α} (hce : ∀ x, (ce x).length = size) (h : Blk w g t (l.flatMap ce)) : Sl ce size w (some ⟨g, 0, none⟩) l :=
  .inr ⟨g, 0, rfl, fun i x hx j v hv => by rw [Nat.zero_add]; exact h.cell (flat_at hce l i j x v hx hv)⟩
theorem call_true {P : Program} {f : FuncId} {args : Array Value} {w : World} {b : Bool} (h : Calls P f args w fun e w' => e = .returned (.bool b) ∧ Ext w w') (hb : b = true) : Calls P f args w fun e w' => e = .returned (.bool true) ∧ Ext w w' := by
  subst hb; exact h
theorem call_int {P : Program} {f : FuncId} {args : Array Value} {w : World} {k : IntKind} {m m' : Int} (h : Calls P f args w fun e w' => e = .returned (.int k m) ∧ Ext w w') (hb : m = m') : Calls P f args w fun e w' => e = .returned (.int k m') ∧ Ext w w' := by
  subst hb; exact h
theorem Own.as {α : Type} {ce : α → List Value} {e : TypeId} {size base : Nat} {w : World} {v : Value} {l l' : List α} (h : Own ce e size base w v l) (he : l = l') : Own ce e size base w v l' := he ▸ h

/-! ### More that only looks -/
section
variable {P : Program} {C : World → Prop} {n : Nat} {l : List (Nat × Bool × Value)} {σ : Nat → Value}
  {d : Option Tmp} {ty : TypeId} {pos : String} {after : Array Edge} {g : Option (Nat × Bool)} {p q r : Bool}
theorem str_beq (a b : ByteArray) : (a.toList == b.toList) = decide (a = b) := by
  rw [Bool.eq_iff_iff, decide_eq_true_eq, beq_iff_eq, ByteArray.toList_eq, ByteArray.toList_eq]
  exact ⟨fun h => bytes_inj h, fun h => by rw [h]⟩
theorem look_eql_str {t t' : TypeId} {x y : Operand} {a b : ByteArray} (hx : ev n l x = some (p, .string a)) (hp : p = true) (hy : ev n l y = some (q, .string b)) (hq : q = true) :
    Look P C n l σ ⟨d, .binOp .eql t x y t', ty, pos, after, g⟩ (.bool (decide (a = b))) := fun w _ => by
  have h1 : (Op.stringOp .eql a b).run P w = .ok (.bool (decide (a = b))) w := by simp [Op.stringOp, str_beq]
  simp only [execOp, eval_ev hx hp, eval_ev hy hq, eqGuard, binOp]
  simp [h1]
theorem look_neq_str {t t' : TypeId} {x y : Operand} {a b : ByteArray} (hx : ev n l x = some (p, .string a)) (hp : p = true) (hy : ev n l y = some (q, .string b)) (hq : q = true) :
    Look P C n l σ ⟨d, .binOp .neq t x y t', ty, pos, after, g⟩ (.bool (!decide (a = b))) := fun w _ => by
  have h1 : (Op.stringOp .neq a b).run P w = .ok (.bool (!decide (a = b))) w := by simp [Op.stringOp, str_beq]
  simp only [execOp, eval_ev hx hp, eval_ev hy hq, eqGuard, binOp]
  simp [h1]
theorem look_lss_str {t t' : TypeId} {x y : Operand} {a b : ByteArray} (hx : ev n l x = some (p, .string a)) (hp : p = true) (hy : ev n l y = some (q, .string b)) (hq : q = true) :
    Look P C n l σ ⟨d, .binOp .lss t x y t', ty, pos, after, g⟩ (.bool (Op.bytesLess a.toList b.toList)) := fun w _ => by
  have h1 : (Op.stringOp .lss a b).run P w = .ok (.bool (Op.bytesLess a.toList b.toList)) w := by simp [Op.stringOp]
  simp only [execOp, eval_ev hx hp, eval_ev hy hq, eqGuard, binOp]
  simp [h1]
theorem look_gtr_str {t t' : TypeId} {x y : Operand} {a b : ByteArray} (hx : ev n l x = some (p, .string a)) (hp : p = true) (hy : ev n l y = some (q, .string b)) (hq : q = true) :
    Look P C n l σ ⟨d, .binOp .gtr t x y t', ty, pos, after, g⟩ (.bool (!(Op.bytesLess a.toList b.toList || decide (a = b)))) := fun w _ => by
  have h1 : (Op.stringOp .gtr a b).run P w = .ok (.bool (!(Op.bytesLess a.toList b.toList || decide (a = b)))) w := by simp [Op.stringOp, str_beq]
  simp only [execOp, eval_ev hx hp, eval_ev hy hq, eqGuard, binOp]
  simp [h1]
theorem look_leq_str {t t' : TypeId} {x y : Operand} {a b : ByteArray} (hx : ev n l x = some (p, .string a)) (hp : p = true) (hy : ev n l y = some (q, .string b)) (hq : q = true) :
    Look P C n l σ ⟨d, .binOp .leq t x y t', ty, pos, after, g⟩ (.bool (Op.bytesLess a.toList b.toList || decide (a = b))) := fun w _ => by
  have h1 : (Op.stringOp .leq a b).run P w = .ok (.bool (Op.bytesLess a.toList b.toList || decide (a = b))) w := by simp [Op.stringOp, str_beq]
  simp only [execOp, eval_ev hx hp, eval_ev hy hq, eqGuard, binOp]
  simp [h1]
theorem look_geq_str {t t' : TypeId} {x y : Operand} {a b : ByteArray} (hx : ev n l x = some (p, .string a)) (hp : p = true) (hy : ev n l y = some (q, .string b)) (hq : q = true) :
    Look P C n l σ ⟨d, .binOp .geq t x y t', ty, pos, after, g⟩ (.bool (!Op.bytesLess a.toList b.toList)) := fun w _ => by
  have h1 : (Op.stringOp .geq a b).run P w = .ok (.bool (!Op.bytesLess a.toList b.toList)) w := by simp [Op.stringOp]
  simp only [execOp, eval_ev hx hp, eval_ev hy hq, eqGuard, binOp]
  simp [h1]
theorem look_min2 {t t' : TypeId} {x y : Operand} {k : IntKind} {m m' : Int} (hx : ev n l x = some (p, .int k m)) (hp : p = true) (hy : ev n l y = some (q, .int k m')) (hq : q = true) :
    Look P C n l σ ⟨d, .call { callee := .builtin .min, args := #[x, y], argTypes := #[t, t'] }, ty, pos, after, g⟩ (.int k (min m m')) := fun w _ => by
  have e : (if m' < m then m' else m) = min m m' := by rw [Int.min_def]; split <;> split <;> omega
  simp [execOp, resolve, invoke, builtin, Builtin.min_, Builtin.min2, eval_ev hx hp, eval_ev hy hq, e]
theorem look_max2 {t t' : TypeId} {x y : Operand} {k : IntKind} {m m' : Int} (hx : ev n l x = some (p, .int k m)) (hp : p = true) (hy : ev n l y = some (q, .int k m')) (hq : q = true) :
    Look P C n l σ ⟨d, .call { callee := .builtin .max, args := #[x, y], argTypes := #[t, t'] }, ty, pos, after, g⟩ (.int k (max m m')) := fun w _ => by
  have e : (if m < m' then m' else m) = max m m' := by rw [Int.max_def]; split <;> split <;> omega
  simp [execOp, resolve, invoke, builtin, Builtin.max_, Builtin.max2, eval_ev hx hp, eval_ev hy hq, e]
theorem look_len_string {x : Operand} {t : TypeId} {s : ByteArray} (ht : P.underlying t = some .string) (hx : ev n l x = some (p, .string s)) (hp : p = true) :
    Look P C n l σ ⟨d, .call { callee := .builtin .len, args := #[x], argTypes := #[t] }, ty, pos, after, g⟩ (.int .i64 s.size) := fun w _ => by
  simp [execOp, resolve, invoke, eval_ev hx hp, builtin, Builtin.len_, goInt, run_underlying ht]
end

/-! ### Cuts -/
def cutA (A : Option Addr) (cap lo size : Nat) : Option Addr := if cap = lo then A else A.map (·.add (lo * size))
section
variable {P : Program} {C : World → Prop} {n : Nat} {l : List (Nat × Bool × Value)} {σ : Nat → Value}
  {d : Option Tmp} {ty : TypeId} {pos : String} {after : Array Edge} {g : Option (Nat × Bool)} {p q r : Bool}
theorem elem_of {t e : TypeId} (ht : P.underlying t = some (.slice e)) : P.elem t = e := by unfold Program.elem; rw [ht]
theorem look_slice_h {t e : TypeId} {x h : Operand} {A : Option Addr} {len cap size hi : Nat} {k : IntKind} {m : Int} (ht : P.underlying t = some (.slice e)) (hi' : (P.info? e).map (fun i => i.size) = some size)
    (hx : ev n l x = some (p, .slice A len cap)) (hp : p = true) (hh : ev n l h = some (q, .int k m)) (hq : q = true) (hm : m = (hi : Int)) (hle : hi ≤ cap) :
    Look P C n l σ ⟨d, .slice t x none (some h) none, ty, pos, after, g⟩ (.slice (cutA A cap 0 size) hi cap) := fun w _ => by
  obtain ⟨ti, hti, hz⟩ := info_of hi'
  subst hm
  have h1 := run_slice_h (P := P) (w := w) t A len cap (by rw [elem_of ht]; exact ht) k (hi : Int) (by omega) (by omega)
  simp only [execOp, Sem.run_bind, Sem.run_pure, Result.andThen_ok, Option.map_some, Option.map_none, eval_ev hx hp, eval_ev hh hq]
  rw [run_sliceAt_slice (P := P) (w := w) t _ _ _ _ (by rw [elem_of ht]; exact ht), h1, elem_of ht]
  simp [sizeOf, typeInfo, program, Sem.run, hti, hz, sliced, cutA]
theorem look_slice_l {t e : TypeId} {x h : Operand} {A : Option Addr} {len cap size lo : Nat} {k : IntKind} {m : Int} (ht : P.underlying t = some (.slice e)) (hi' : (P.info? e).map (fun i => i.size) = some size)
    (hx : ev n l x = some (p, .slice A len cap)) (hp : p = true) (hh : ev n l h = some (q, .int k m)) (hq : q = true) (hm : m = (lo : Int)) (hle : lo ≤ len) :
    Look P C n l σ ⟨d, .slice t x (some h) none none, ty, pos, after, g⟩ (.slice (cutA A cap lo size) (len - lo) (cap - lo)) := fun w _ => by
  obtain ⟨ti, hti, hz⟩ := info_of hi'
  subst hm
  have h1 := run_slice_l (P := P) (w := w) t A len cap (by rw [elem_of ht]; exact ht) k (lo : Int) (by omega) (by omega)
  simp only [execOp, Sem.run_bind, Sem.run_pure, Result.andThen_ok, Option.map_some, Option.map_none, eval_ev hx hp, eval_ev hh hq]
  rw [run_sliceAt_slice (P := P) (w := w) t _ _ _ _ (by rw [elem_of ht]; exact ht), h1, elem_of ht]
  simp [sizeOf, typeInfo, program, Sem.run, hti, hz, sliced, cutA]
theorem look_slice_lh {t e : TypeId} {x h h' : Operand} {A : Option Addr} {len cap size lo hi : Nat} {k k' : IntKind} {m m' : Int} (ht : P.underlying t = some (.slice e)) (hi' : (P.info? e).map (fun i => i.size) = some size)
    (hx : ev n l x = some (p, .slice A len cap)) (hp : p = true) (hh : ev n l h = some (q, .int k m)) (hq : q = true) (hh' : ev n l h' = some (r, .int k' m')) (hr : r = true) (hm : m = (lo : Int)) (hm' : m' = (hi : Int)) (hle : lo ≤ hi) (hle' : hi ≤ cap) :
    Look P C n l σ ⟨d, .slice t x (some h) (some h') none, ty, pos, after, g⟩ (.slice (cutA A cap lo size) (hi - lo) (cap - lo)) := fun w _ => by
  obtain ⟨ti, hti, hz⟩ := info_of hi'
  subst hm
  subst hm'
  have h1 := run_slice_lh (P := P) (w := w) t A len cap (by rw [elem_of ht]; exact ht) k k' (lo : Int) (hi : Int) (by omega) (by omega) (by omega)
  simp only [execOp, Sem.run_bind, Sem.run_pure, Result.andThen_ok, Option.map_some, Option.map_none, eval_ev hx hp, eval_ev hh hq, eval_ev hh' hr]
  rw [run_sliceAt_slice (P := P) (w := w) t _ _ _ _ (by rw [elem_of ht]; exact ht), h1, elem_of ht]
  simp [sizeOf, typeInfo, program, Sem.run, hti, hz, sliced, cutA]
end
theorem Sl.cut {α : Type} {ce : α → List Value} {size : Nat} {w : World} {A : Option Addr} {l : List α} {cap : Nat} (h : Sl ce size w A l) (hc : l.length ≤ cap) (lo hi : Nat) : Sl ce size w (cutA A cap lo size) ((l.take hi).drop lo) := by
  unfold cutA
  by_cases he : cap = lo
  · left
    refine List.drop_eq_nil_of_le ?_
    rw [List.length_take]; omega
  · rw [if_neg he]
    rcases h with rfl | ⟨b, o, rfl, h2⟩
    · left; simp
    · refine .inr ⟨b, o + lo * size, by simp [addAt], fun i x hx j v hv => ?_⟩
      rw [List.getElem?_drop, List.getElem?_take] at hx
      split at hx
      · have := h2 (lo + i) x hx j v hv
        rw [Nat.add_mul] at this
        rw [← this]; congr 2; omega
      · cases hx
theorem cutA_none {A : Option Addr} {cap lo size : Nat} (h : A = none → cap = 0) (hcut : cutA A cap lo size = none) : cap - lo = 0 := by
  have : cap = 0 := by
    apply h
    unfold cutA at hcut
    cases A with
    | none => rfl
    | some a => split at hcut <;> simp at hcut
  omega

section
variable {H : Type} {enc : TypeId × Value → H} {P : Program} {w : World} {base : Nat} {sp : Nat → Bool} {held : Bool}
theorem open_cap {t e fuel len cap : Nat} {A : Option Addr} {y : DataW H × List MemPlace} (ht : P.underlying t = some (.slice e))
    (h : DataW.trod enc P w base sp held fuel t [.slice A len cap] = some y) : len ≤ cap ∧ cap ≤ maxLen ∧ (A = none → cap = 0) := by
  rcases open_slice ht h with ⟨h0, _⟩ | ⟨a, len', cap', m, n, D, Pl, hcs, hb, hl, hm, hmm, hx, hi⟩
  · simp at h0
    obtain ⟨rfl, rfl, rfl⟩ := h0
    exact ⟨Nat.le_refl _, by decide, fun _ => rfl⟩
  · simp at hcs
    obtain ⟨rfl, rfl, rfl⟩ := hcs
    exact ⟨hl, hm, fun h => by cases h⟩
/-- Whatever reads as a slice is one. -/
theorem open_shape {t e fuel : Nat} {c : Value} {y : DataW H × List MemPlace} (ht : P.underlying t = some (.slice e))
    (h : DataW.trod enc P w base sp held fuel t [c] = some y) : ∃ A len cap, c = .slice A len cap := by
  rcases open_slice ht h with ⟨h0, _⟩ | ⟨a, len', cap', m, n, D, Pl, hcs, hb, hl, hm, hmm, hx, hi⟩
  · simp at h0; exact ⟨_, _, _, h0⟩
  · simp at hcs; exact ⟨_, _, _, hcs⟩
/-- A slice, its elements opened by 'helem', with the bounds on its capacity. -/
theorem open_slc {α : Type} {ce : α → List Value} {Q : α → Prop} {size t e fuel : Nat} {c : Value} {y : DataW H × List MemPlace} (ht : P.underlying t = some (.slice e)) (hC : P.cellsOf e = size) (hs : 0 < size)
    (helem : ∀ (cs : List Value) (k : Nat) (z : DataW H × List MemPlace), DataW.trod enc P w base sp held k e cs = some z → ∃ x, cs = ce x ∧ Q x)
    (h : DataW.trod enc P w base sp held fuel t [c] = some y) : ∃ (A : Option Addr) (l : List α) (cap : Nat), c = .slice A l.length cap ∧ (∀ x ∈ l, Q x) ∧ Sl ce size w A l ∧ l.length ≤ cap ∧ cap ≤ maxLen ∧ (A = none → cap = 0) := by
  obtain ⟨A, len, cap, rfl⟩ := open_shape ht h
  obtain ⟨l, rfl, h2, h3⟩ := open_sl ht hC hs helem h
  have h4 := open_cap ht h
  exact ⟨A, l, cap, rfl, h2, h3, h4.1, h4.2.1, h4.2.2⟩
theorem field_one {fs : Array Field} {n i : Nat} {f : Field} {cs : List Value} {xs : List (DataW H × List MemPlace)} (hxl : xs.length = fs.size)
    (hf : ∀ (i : Nat) (f : Field), fs[i]? = some f → DataW.trod enc P w base sp held n f.type ((cs.drop f.offset).take (P.cellsOf f.type)) = xs[i]?) (hi : fs[i]? = some f) {j : Nat} (ho : f.offset = j) (hc : P.cellsOf f.type = 1) (hlt : j < cs.length) :
    ∃ c y, cs[j]? = some c ∧ DataW.trod enc P w base sp held n f.type [c] = some y := by
  have h1 := hf i f hi
  have hx : i < xs.length := by rw [hxl]; exact (Array.getElem?_eq_some_iff.1 hi).1
  rw [List.getElem?_eq_getElem hx, hc, ho] at h1
  have e : (cs.drop j).take 1 = [cs[j]] := by rw [List.drop_eq_getElem_cons hlt]; rfl
  rw [e] at h1
  exact ⟨cs[j], xs[i], List.getElem?_eq_getElem hlt, h1⟩
theorem one_int {fuel t : Nat} {k : IntKind} {c : Value} {y : DataW H × List MemPlace} (hu : P.underlying t = some (.int k)) (h : DataW.trod enc P w base sp held fuel t [c] = some y) : ∃ m, c = .int k m ∧ (Lit.int k m).wf = true := by
  obtain ⟨m, h2, _, hw⟩ := DataW.trod_int hu h
  exact ⟨m, by simpa using h2, hw⟩
theorem one_str {fuel t : Nat} {c : Value} {y : DataW H × List MemPlace} (hu : P.underlying t = some .string) (h : DataW.trod enc P w base sp held fuel t [c] = some y) : ∃ s : ByteArray, c = .string s ∧ s.size ≤ maxLen := by
  obtain ⟨s, h2, _, hw⟩ := DataW.trod_string hu h
  exact ⟨s, by simpa using h2, hw⟩
end
end Go.Proofs.Core
