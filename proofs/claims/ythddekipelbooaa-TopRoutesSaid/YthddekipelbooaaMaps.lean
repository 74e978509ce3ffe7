/- The calculus, more: maps from plain keys to bools that the call itself has made. No program in sight. -/
import Derived.Test.YthddekipelbooaaMut
import Derived.MapKept
import Derived.Carry
namespace Go.Proofs.Core
open Go Go.RowKit Go.Deep Go.WideShapes
variable {ds : List Deferred}
set_option linter.unusedVariables false
set_option linter.unusedSimpArgs false
set_option linter.unusedSectionVars false
theorem ba_beq (x y : ByteArray) : (x == y) = true ↔ x = y := by
  cases x; cases y
  rw [ByteArray.mk.injEq]
  exact beq_iff_eq (α := Array UInt8)
section
variable {κ : Type} [DecidableEq κ]
/-- A key's type whose values compare at once. -/
structure KeyLaw (P : Program) (k : TypeId) (kv : κ → Value) (td : TypeDesc) : Prop where
  ty : P.underlying k = some td
  plain : (match td with | .interface _ | .array _ _ | .struct _ => false | _ => true) = true
  same : ∀ x y, Instr.sameNow td (kv x) (kv y) = some (decide (x = y))
  bits : ∀ x, Instr.sameBits 10000 (kv x) (kv x) = true
def mfind : List (κ × Bool) → κ → Nat → Option (Nat × Bool)
  | [], _, _ => none
  | (y, v) :: r, x, i => if x = y then some (i, v) else mfind r x (i + 1)
def mget : List (κ × Bool) → κ → Option Bool
  | [], _ => none
  | (y, v) :: r, x => if x = y then some v else mget r x
def mput : List (κ × Bool) → κ → Bool → List (κ × Bool)
  | [], x, v => [(x, v)]
  | (y, u) :: r, x, v => if x = y then (x, v) :: r else (y, u) :: mput r x v
theorem mget_find (m : List (κ × Bool)) (x : κ) : ∀ i, mget m x = (mfind m x i).map (fun p => p.2) := by
  induction m with
  | nil => intro i; rfl
  | cons p r ih =>
    obtain ⟨y, v⟩ := p
    intro i
    simp only [mget, mfind]
    split
    · rfl
    · exact ih (i + 1)
theorem mput_some {m : List (κ × Bool)} {x : κ} {v : Bool} : ∀ {k i : Nat} {u : Bool}, mfind m x k = some (i, u) → k ≤ i ∧ mput m x v = m.set (i - k) (x, v) ∧ m[i - k]? = some (x, u) := by
  induction m with
  | nil => intro k i u h; cases h
  | cons p r ih =>
    obtain ⟨y, u0⟩ := p
    intro k i u h
    simp only [mfind] at h
    simp only [mput]
    by_cases e : x = y
    · rw [if_pos e] at h ⊢
      cases h
      rw [Nat.sub_self]
      exact ⟨Nat.le_refl _, rfl, by rw [e]; rfl⟩
    · rw [if_neg e] at h ⊢
      obtain ⟨h1, h2, h3⟩ := ih h
      have e2 : i - k = (i - (k + 1)) + 1 := by omega
      rw [e2]
      exact ⟨by omega, by rw [h2]; rfl, by simpa using h3⟩
theorem mput_none {m : List (κ × Bool)} {x : κ} {v : Bool} : ∀ {k : Nat}, mfind m x k = none → mput m x v = m ++ [(x, v)] := by
  induction m with
  | nil => intro k h; rfl
  | cons p r ih =>
    obtain ⟨y, u0⟩ := p
    intro k h
    simp only [mfind] at h
    simp only [mput]
    by_cases e : x = y
    · rw [if_pos e] at h; cases h
    · rw [if_neg e] at h ⊢
      rw [ih h]; rfl
theorem mget_put (m : List (κ × Bool)) (x y : κ) (v : Bool) : mget (mput m x v) y = if y = x then some v else mget m y := by
  induction m with
  | nil => simp [mput, mget]
  | cons p r ih =>
    obtain ⟨z, u⟩ := p
    simp only [mput]
    by_cases e : x = z
    · rw [if_pos e]
      subst e
      simp only [mget]
      by_cases e2 : y = x
      · rw [if_pos e2, if_pos e2]
      · rw [if_neg e2, if_neg e2, if_neg e2]
    · rw [if_neg e]
      simp only [mget]
      rw [ih]
      by_cases e2 : y = z
      · rw [if_pos e2, if_pos e2]
        rw [if_neg (fun h => e (h.symm.trans e2))]
      · rw [if_neg e2, if_neg e2]
/-- Block b is a map that holds the pairs m, in this order. -/
def MapB (kv : κ → Value) (w : World) (b : Nat) (m : List (κ × Bool)) : Prop :=
  ∃ es clock, w.heap[b]? = some (.map es clock) ∧ es.toList.map (fun e => (e.key, e.val)) = m.map (fun p => (kv p.1, Value.bool p.2))
variable {kv : κ → Value} {w w' : World} {b g : Nat} {m : List (κ × Bool)}
theorem MapB.lt (h : MapB kv w b m) : b < w.heap.size := by
  obtain ⟨es, c, hb, _⟩ := h
  exact (Array.getElem?_eq_some_iff.1 hb).1
theorem MapB.of_block (h : MapB kv w b m) (e : w'.heap[b]? = w.heap[b]?) : MapB kv w' b m := by
  obtain ⟨es, c, hb, hm⟩ := h
  exact ⟨es, c, e.trans hb, hm⟩
theorem MapB.ext (h : MapB kv w b m) (e : Ext w w') : MapB kv w' b m := h.of_block (e.block b h.lt)
theorem MapB.kp (h : MapB kv w b m) (k : Kp g w w') (hne : b ≠ g) : MapB kv w' b m := h.of_block (k.block b hne)
theorem MapB.mut (h : MapB kv w b m) (k : Mut g w w') (hne : b ≠ g) : MapB kv w' b m := h.of_block (k.block b h.lt hne)
theorem MapB.grown {row : Option Nat} (h : MapB kv w b m) (k : w.grownBy w' row) (hne : row ≠ some b) : MapB kv w' b m := h.of_block (k.block b h.lt (fun e => hne e.symm))
theorem find_now {P : Program} {k : TypeId} {td : TypeDesc} (K : KeyLaw P k kv td) (x : κ) : ∀ (es : List MapEntry) (m : List (κ × Bool)) (i : Nat), es.map (fun e => (e.key, e.val)) = m.map (fun p => (kv p.1, Value.bool p.2)) →
    Instr.findNow td (kv x) es i = some ((mfind m x i).map fun p => (p.1, Value.bool p.2))
  | [], [], i, h => rfl
  | [], _ :: _, i, h => by simp at h
  | _ :: _, [], i, h => by simp at h
  | e :: es, (y, v) :: m, i, h => by
    simp only [List.map_cons, List.cons.injEq, Prod.mk.injEq] at h
    obtain ⟨⟨h1, h2⟩, h3⟩ := h
    have ih := find_now K x es m (i + 1) h3
    unfold Instr.findNow
    rw [h1, K.same, mfind]
    by_cases e2 : x = y
    · rw [decide_eq_true e2, if_pos e2, h2]; rfl
    · rw [decide_eq_false e2, if_neg e2]; exact ih
theorem run_findKey' {P : Program} {k : TypeId} {td : TypeDesc} (K : KeyLaw P k kv td) (x : κ) {es : List MapEntry} {m : List (κ × Bool)} (h : es.map (fun e => (e.key, e.val)) = m.map (fun p => (kv p.1, Value.bool p.2))) (w : World) :
    (Instr.findKey k (kv x) es).run P w = .ok ((mfind m x 0).map fun p => (p.1, Value.bool p.2)) w := by
  simp [Instr.findKey, run_underlying K.ty, find_now K x es m 0 h]
theorem run_checkKey' {P : Program} {k : TypeId} {td : TypeDesc} (K : KeyLaw P k kv td) (x : κ) (b : Bool) (w : World) : (Instr.checkKey b 10000 k (kv x)).run P w = .ok () w := by
  rw [show (10000 : Nat) = 9999 + 1 from rfl]
  unfold Instr.checkKey
  have hp := K.plain
  simp only [Sem.run_bind, run_underlying K.ty, Result.andThen_ok]
  cases td <;> first | rfl | (cases hp) | simp
theorem run_lookup_b {P : Program} {t k e : TypeId} {td : TypeDesc} (K : KeyLaw P k kv td) (ht : P.underlying t = some (.map k e)) (hz : ∀ w, (zeroValue e).run P w = .ok (.bool false) w) (h : MapB kv w b m) (x : κ) (ok : Bool) :
    (Instr.lookup t (.map (some b)) (kv x) ok).run P w = .ok (bif ok then .tuple #[.bool ((mget m x).getD false), .bool (mget m x).isSome] else .bool ((mget m x).getD false)) w := by
  obtain ⟨es, clock, hb, hm⟩ := h
  rw [mget_find m x 0]
  unfold Instr.lookup
  simp only [Sem.run_bind, run_underlying ht, Result.andThen_ok, MapKept.run_getObj_map hb, Sem.run_pure, run_checkKey' K, run_findKey' K x hm]
  cases mfind m x 0 with
  | none => cases ok <;> simp [hz]
  | some p => cases ok <;> simp
theorem run_mapUpdate_b {P : Program} {t k e : TypeId} {td : TypeDesc} (K : KeyLaw P k kv td) (ht : P.underlying t = some (.map k e)) (h : MapB kv w b m) (x : κ) (v : Bool) :
    ∃ w', (Instr.mapUpdate t (.map (some b)) (kv x) (.bool v)).run P w = .ok () w' ∧ Kp b w w' ∧ MapB kv w' b (mput m x v) := by
  obtain ⟨es, clock, hb, hm⟩ := h
  have hlt : b < w.heap.size := (Array.getElem?_eq_some_iff.1 hb).1
  have fin : ∀ (es' : Array MapEntry) (c' : Nat), es'.toList.map (fun e => (e.key, e.val)) = (mput m x v).map (fun p => (kv p.1, Value.bool p.2)) →
      Kp b w { w with heap := w.heap.setIfInBounds b (.map es' c') } ∧ MapB kv { w with heap := w.heap.setIfInBounds b (.map es' c') } b (mput m x v) := fun es' c' he =>
    ⟨⟨rfl, rfl, rfl, by simp, fun i hi => by simp [Array.getElem?_setIfInBounds, Ne.symm hi]⟩, ⟨es', c', by simp [Array.getElem?_setIfInBounds, hlt], he⟩⟩
  unfold Instr.mapUpdate
  simp only [Sem.run_bind, run_underlying ht, Result.andThen_ok, MapKept.run_getObj_map hb, Sem.run_pure, run_checkKey' K, run_findKey' K x hm]
  cases hf : mfind m x 0 with
  | none =>
    simp only [Option.map_none, MapKept.run_setObj_map _ hb]
    refine ⟨_, rfl, fin _ _ ?_⟩
    rw [mput_none hf]
    simp [hm]
  | some p =>
    obtain ⟨i, u⟩ := p
    obtain ⟨_, h2, h3⟩ := mput_some (v := v) hf
    rw [Nat.sub_zero] at h2 h3
    have hi : (es.toList.map (fun e => (e.key, e.val)))[i]? = some (kv x, .bool u) := by rw [hm, List.getElem?_map, h3]; rfl
    rw [List.getElem?_map] at hi
    obtain ⟨en, hen, he2⟩ := Option.map_eq_some_iff.1 hi
    have hk : en.key = kv x := congrArg Prod.fst he2
    have hen' : es[i]? = some en := by simpa using hen
    simp only [Option.map_some, Sem.run_bind, Result.andThen_ok, hen', Option.getD_some, hk, Instr.keyThatStays, K.bits, if_true, Sem.run_pure, MapKept.run_setObj_map _ hb]
    refine ⟨_, rfl, fin _ _ ?_⟩
    rw [h2]
    apply List.ext_getElem?
    intro j
    have hmj : (es.toList.map (fun e => (e.key, e.val)))[j]? = (m.map (fun p => (kv p.1, Value.bool p.2)))[j]? := by rw [hm]
    simp only [List.getElem?_map] at hmj
    simp only [List.getElem?_map, List.getElem?_set, Array.toList_modify, List.getElem?_modify]
    by_cases e : i = j
    · subst e
      have hl : i < m.length := (List.getElem?_eq_some_iff.1 h3).1
      simp [hen, hl]
    · simp only [e, if_false]
      simpa using hmj
theorem KeyLaw.str {P : Program} {k : TypeId} (h : P.underlying k = some .string) : KeyLaw P k (fun s : ByteArray => Value.string s) .string :=
  ⟨h, rfl, fun x y => by simp only [Instr.sameNow]; congr 1; rw [Bool.eq_iff_iff, ba_beq, decide_eq_true_eq], fun x => by simp only [Instr.sameBits]; exact (ba_beq x x).2 rfl⟩
theorem KeyLaw.int {P : Program} {k : TypeId} (h : P.underlying k = some (.int .i64)) : KeyLaw P k (fun n : Int => Value.int .i64 n) (.int .i64) :=
  ⟨h, rfl, fun x y => by simp [Instr.sameNow, int_beq], fun x => by simp [Instr.sameBits]⟩
end
section
variable {κ : Type} [DecidableEq κ] {kv : κ → Value} {P : Program} {C : World → Prop} {n : Nat} {l : List (Nat × Bool × Value)} {σ : Nat → Value}
  {d : Option Tmp} {ty : TypeId} {pos : String} {after : Array Edge} {g : Option (Nat × Bool)} {p q r : Bool} {t k e : TypeId} {td : TypeDesc} {x y z : Operand} {b : Nat} {m : List (κ × Bool)} {a : κ}
theorem look_map_ok (K : KeyLaw P k kv td) (ht : P.underlying t = some (.map k e)) (hz : ∀ w, (zeroValue e).run P w = .ok (.bool false) w) (hx : ev n l x = some (p, .map (some b))) (hp : p = true) (hy : ev n l y = some (q, kv a)) (hq : q = true) (h : ∀ w, C w → MapB kv w b m) :
    Look P C n l σ ⟨d, .lookup t x y true, ty, pos, after, g⟩ (.tuple [Value.bool ((mget m a).getD false), .bool (mget m a).isSome].toArray) := fun w hw => by
  have h1 := run_lookup_b K ht hz (h w hw) a true
  simp only [execOp, eval_ev hx hp, eval_ev hy hq]
  simp only [Sem.run_bind, h1, Result.andThen_ok]; rfl
theorem look_map (K : KeyLaw P k kv td) (ht : P.underlying t = some (.map k e)) (hz : ∀ w, (zeroValue e).run P w = .ok (.bool false) w) (hx : ev n l x = some (p, .map (some b))) (hp : p = true) (hy : ev n l y = some (q, kv a)) (hq : q = true) (h : ∀ w, C w → MapB kv w b m) :
    Look P C n l σ ⟨d, .lookup t x y false, ty, pos, after, g⟩ (.bool ((mget m a).getD false)) := fun w hw => by
  have h1 := run_lookup_b K ht hz (h w hw) a false
  simp only [execOp, eval_ev hx hp, eval_ev hy hq]
  simp only [Sem.run_bind, h1, Result.andThen_ok]; rfl
variable {ops : Array Oper} {Q : Exit → Act → World → Prop} {rest : List Oper} {w : World}
theorem s_mapUpdate {v : Bool} (K : KeyLaw P k kv td) (ht : P.underlying t = some (.map k e)) (hx : ev n l x = some (true, .map (some b))) (hy : ev n l y = some (true, kv a)) (hz : ev n l z = some (true, .bool v)) (h : MapB kv w b m)
    (next : ∀ w', Kp b w w' → MapB kv w' b (mput m a v) → wpList P ops Q rest (act (ds := ds) n l σ) w') :
    wpList P ops Q (⟨none, .mapUpdate t x y z, ty, pos, after, none⟩ :: rest) (act (ds := ds) n l σ) w := by
  obtain ⟨w', h1, h2, h3⟩ := run_mapUpdate_b K ht h a v
  refine wpList_step fun K' hK => ?_
  simp only [Region.wanted, if_true]
  unfold Oper.wp
  have hr : (execOp (act (ds := ds) n l σ).eval ⟨none, .mapUpdate t x y z, ty, pos, after, none⟩).run P w = .ok .skip w' := by
    simp only [execOp, eval_ev hx rfl, eval_ev hy rfl, eval_ev hz rfl, Sem.run_bind, h1, Result.andThen_ok, Sem.run_pure]
  rw [hr]
  show K' _ _
  exact hK _ _ (next w' h2 h3)
theorem s_makeMap (next : ∀ b w', Ext w w' → MapB kv w' b [] → w.heap.size ≤ b → w'.heap.size = w.heap.size + 1 → wpList P ops Q rest (act (ds := ds) n ((d.getD 0, true, .map (some b)) :: l) σ) w') {dd : Tmp} (hd : d = some dd) :
    wpList P ops Q (⟨d, .makeMap t none, ty, pos, after, none⟩ :: rest) (act (ds := ds) n l σ) w := by
  subst hd
  refine s_val (v := .map (some w.heap.size)) (w' := w.alloc (.map #[] 0)) ?_ (next _ _ (ext_alloc w _) ⟨#[], 0, heap_alloc_new w _, rfl⟩ (Nat.le_refl _) (by simp))
  have := run_makeMap (P := P) t w
  simp [execOp, this]
theorem s_clear (ht : P.underlying t = some (.map k e)) (hx : ev n l x = some (true, .map (some b))) (h : MapB kv w b m)
    (next : ∀ w', Kp b w w' → MapB kv w' b [] → wpList P ops Q rest (act (ds := ds) n l σ) w') :
    wpList P ops Q (⟨none, .call { callee := .builtin .clear, args := #[x], argTypes := #[t] }, ty, pos, after, none⟩ :: rest) (act (ds := ds) n l σ) w := by
  obtain ⟨es, clock, hb, hm⟩ := h
  have hlt : b < w.heap.size := (Array.getElem?_eq_some_iff.1 hb).1
  have h2 : Kp b w { w with heap := w.heap.setIfInBounds b (.map #[] clock) } := ⟨rfl, rfl, rfl, by simp, fun i hi => by simp [Array.getElem?_setIfInBounds, Ne.symm hi]⟩
  have h3 : MapB kv { w with heap := w.heap.setIfInBounds b (.map #[] clock) } b [] := ⟨#[], clock, by simp [Array.getElem?_setIfInBounds, hlt], rfl⟩
  refine wpList_step fun K' hK => ?_
  simp only [Region.wanted, if_true]
  unfold Oper.wp
  have hr : (execOp (act (ds := ds) n l σ).eval ⟨none, .call { callee := .builtin .clear, args := #[x], argTypes := #[t] }, ty, pos, after, none⟩).run P w = .ok (.value (.tuple #[])) { w with heap := w.heap.setIfInBounds b (.map #[] clock) } := by
    simp [execOp, resolve, invoke, eval_ev hx rfl, builtin, Builtin.clear_, run_underlying ht, MapKept.run_getObj_map hb, MapKept.run_setObj_map _ hb]
  rw [hr]
  show K' _ _
  exact hK _ _ (next _ h2 h3)
end
end Go.Proofs.Core
