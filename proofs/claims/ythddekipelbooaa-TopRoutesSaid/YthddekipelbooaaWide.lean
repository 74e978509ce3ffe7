/- The calculus, more: arrays, maps with structs as keys, interface values. No program in sight. -/
import Derived.Test.YthddekipelbooaaLast
import Derived.WideKeyRuns
namespace Go.Proofs.Core
open Go Go.RowKit Go.Deep Go.WideShapes
variable {ds : List Deferred}
set_option linter.unusedVariables false
set_option linter.unusedSimpArgs false
set_option linter.unusedSectionVars false
section
variable {P : Program} {C : World → Prop} {n : Nat} {l : List (Nat × Bool × Value)} {σ : Nat → Value} {d : Option Tmp} {ty : TypeId} {pos : String} {after : Array Edge} {g : Option (Nat × Bool)} {p q r : Bool}
theorem look_buildA {t e : TypeId} {len size : Nat} {parts : List (Nat × Operand)} {vs : List (Nat × Value)} {z : Value} {cells : List Value}
    (ht : P.underlying t = some (.array len e)) (hz' : (P.info? t).map (fun i => i.zero) = some (some z)) (hs : (P.info? e).map (fun i => i.size) = some size)
    (hv : Evs n l (parts.map (·.2)) (vs.map (·.2))) (hi : vs.map (·.1) = parts.map (·.1)) (hf : Instr.fill (fun i => some (i * size, size)) z.cells vs = some cells.toArray) :
    Look P C n l σ ⟨d, .build t parts.toArray, ty, pos, after, g⟩ (.agg cells.toArray) := fun w _ => by
  obtain ⟨ti, hti, hz⟩ := info_of hz'
  obtain ⟨te, hte, hsz⟩ : ∃ te, P.info? e = some te ∧ te.size = size := by
    cases he : P.info? e with
    | none => rw [he] at hs; cases hs
    | some te => rw [he] at hs; exact ⟨te, rfl, Option.some.inj hs⟩
  have hm := hv.map (ds := []) (σ := σ)
  have hparts : parts.map (fun x => (x.1, (act (ds := []) n l σ).eval x.2)) = vs := by
    have h1 : (parts.map (fun x => (x.1, (act (ds := []) n l σ).eval x.2))).map (·.2) = vs.map (·.2) := by rw [← hm]; simp
    have h2 : (parts.map (fun x => (x.1, (act (ds := []) n l σ).eval x.2))).map (·.1) = vs.map (·.1) := by rw [hi]; simp
    apply List.ext_getElem?
    intro j
    have h1j := congrArg (fun x => x[j]?) h1
    have h2j := congrArg (fun x => x[j]?) h2
    simp only [List.getElem?_map] at h1j h2j ⊢
    cases hp : parts[j]? <;> cases hvv : vs[j]? <;> simp_all
  simp only [execOp, Instr.build, zeroValue, typeInfo, Sem.run_bind, Sem.run_pure, Result.andThen_ok, program, run_underlying ht, sizeOf]
  simp only [Sem.run, hti, hz, hte, hsz, Result.andThen_ok, Sem.run_pure]
  simp only [List.map_toArray, hparts, hf, Sem.run_pure, Result.andThen_ok]
theorem look_min3 {t t' t'' : TypeId} {x y z : Operand} {k : IntKind} {m m' m'' : Int} (hx : ev n l x = some (p, .int k m)) (hp : p = true) (hy : ev n l y = some (q, .int k m')) (hq : q = true) (hz : ev n l z = some (r, .int k m'')) (hr : r = true) :
    Look P C n l σ ⟨d, .call { callee := .builtin .min, args := #[x, y, z], argTypes := #[t, t', t''] }, ty, pos, after, g⟩ (.int k (min (min m m') m'')) := fun w _ => by
  have e : ∀ a b : Int, (if b < a then b else a) = min a b := fun a b => by rw [Int.min_def]; split <;> split <;> omega
  simp [execOp, resolve, invoke, builtin, Builtin.min_, Builtin.min2, eval_ev hx hp, eval_ev hy hq, eval_ev hz hr, e]
theorem look_max3 {t t' t'' : TypeId} {x y z : Operand} {k : IntKind} {m m' m'' : Int} (hx : ev n l x = some (p, .int k m)) (hp : p = true) (hy : ev n l y = some (q, .int k m')) (hq : q = true) (hz : ev n l z = some (r, .int k m'')) (hr : r = true) :
    Look P C n l σ ⟨d, .call { callee := .builtin .max, args := #[x, y, z], argTypes := #[t, t', t''] }, ty, pos, after, g⟩ (.int k (max (max m m') m'')) := fun w _ => by
  have e : ∀ a b : Int, (if a < b then b else a) = max a b := fun a b => by rw [Int.max_def]; split <;> split <;> omega
  simp [execOp, resolve, invoke, builtin, Builtin.max_, Builtin.max2, eval_ev hx hp, eval_ev hy hq, eval_ev hz hr, e]
end

/-! ### Maps with structs as keys, values of one cell -/
section
variable {κ β : Type} [DecidableEq κ]
structure KeyV (P : Program) (k : TypeId) (kv : κ → Value) : Prop where
  chk : ∀ (x : κ) (b : Bool) (w : World), (Instr.checkKey b 10000 k (kv x)).run P w = .ok () w
  wide : (match P.underlying k with | some (.array _ _) | some (.struct _) => true | _ => false) = true
  eq : ∀ (x y : κ) (w : World), (Op.equal k (kv x) (kv y)).run P w = .ok (decide (x = y)) w
  bits : ∀ x, Instr.sameBits 10000 (kv x) (kv x) = true
def vfind : List (κ × β) → κ → Nat → Option (Nat × β)
  | [], _, _ => none
  | (y, v) :: r, x, i => if x = y then some (i, v) else vfind r x (i + 1)
def vget : List (κ × β) → κ → Option β
  | [], _ => none
  | (y, v) :: r, x => if x = y then some v else vget r x
def vput : List (κ × β) → κ → β → List (κ × β)
  | [], x, v => [(x, v)]
  | (y, u) :: r, x, v => if x = y then (x, v) :: r else (y, u) :: vput r x v
theorem vget_find (m : List (κ × β)) (x : κ) : ∀ i, vget m x = (vfind m x i).map (fun p => p.2) := by
  induction m with
  | nil => intro i; rfl
  | cons p r ih =>
    obtain ⟨y, v⟩ := p
    intro i
    simp only [vget, vfind]
    split
    · rfl
    · exact ih (i + 1)
theorem vput_some {m : List (κ × β)} {x : κ} {v : β} : ∀ {k i : Nat} {u : β}, vfind m x k = some (i, u) → k ≤ i ∧ vput m x v = m.set (i - k) (x, v) ∧ m[i - k]? = some (x, u) := by
  induction m with
  | nil => intro k i u h; cases h
  | cons p r ih =>
    obtain ⟨y, u0⟩ := p
    intro k i u h
    simp only [vfind] at h
    simp only [vput]
    by_cases e : x = y
    · rw [if_pos e] at h ⊢
      cases h
      rw [Nat.sub_self]
      exact ⟨Nat.le_refl _, rfl, by rw [e]; rfl⟩
    · rw [if_neg e] at h ⊢
      obtain ⟨h1, h2, h3⟩ := ih h
      have e2 : i - k = (i - (k + 1)) + 1 := by omega
      rw [e2]
      exact ⟨by omega, by rw [h2]; rfl, by simpa using h3⟩
theorem vput_none {m : List (κ × β)} {x : κ} {v : β} : ∀ {k : Nat}, vfind m x k = none → vput m x v = m ++ [(x, v)] := by
  induction m with
  | nil => intro k h; rfl
  | cons p r ih =>
    obtain ⟨y, u0⟩ := p
    intro k h
    simp only [vfind] at h
    simp only [vput]
    by_cases e : x = y
    · rw [if_pos e] at h; cases h
    · rw [if_neg e] at h ⊢
      rw [ih h]; rfl
theorem vget_put (m : List (κ × β)) (x y : κ) (v : β) : vget (vput m x v) y = if y = x then some v else vget m y := by
  induction m with
  | nil => simp [vput, vget]
  | cons p r ih =>
    obtain ⟨z, u⟩ := p
    simp only [vput]
    by_cases e : x = z
    · rw [if_pos e]
      subst e
      simp only [vget]
      by_cases e2 : y = x
      · rw [if_pos e2, if_pos e2]
      · rw [if_neg e2, if_neg e2, if_neg e2]
    · rw [if_neg e]
      simp only [vget]
      rw [ih]
      by_cases e2 : y = z
      · rw [if_pos e2, if_pos e2]
        rw [if_neg (fun h => e (h.symm.trans e2))]
      · rw [if_neg e2, if_neg e2]
/-- Block b is a map that holds the pairs m, in this order. -/
def MapV (kv : κ → Value) (vv : β → Value) (w : World) (b : Nat) (m : List (κ × β)) : Prop :=
  ∃ es clock, w.heap[b]? = some (.map es clock) ∧ es.toList.map (fun e => (e.key, e.val)) = m.map (fun p => (kv p.1, vv p.2))
variable {kv : κ → Value} {vv : β → Value} {w w' : World} {b g : Nat} {m : List (κ × β)}
theorem MapV.lt (h : MapV kv vv w b m) : b < w.heap.size := by
  obtain ⟨es, c, hb, _⟩ := h
  exact (Array.getElem?_eq_some_iff.1 hb).1
theorem MapV.of_block (h : MapV kv vv w b m) (e : w'.heap[b]? = w.heap[b]?) : MapV kv vv w' b m := by
  obtain ⟨es, c, hb, hm⟩ := h
  exact ⟨es, c, e.trans hb, hm⟩
theorem MapV.ext (h : MapV kv vv w b m) (e : Ext w w') : MapV kv vv w' b m := h.of_block (e.block b h.lt)
theorem MapV.kp (h : MapV kv vv w b m) (k : Kp g w w') (hne : b ≠ g) : MapV kv vv w' b m := h.of_block (k.block b hne)
theorem MapV.mut (h : MapV kv vv w b m) (k : Mut g w w') (hne : b ≠ g) : MapV kv vv w' b m := h.of_block (k.block b h.lt hne)
theorem MapV.grown {row : Option Nat} (h : MapV kv vv w b m) (k : w.grownBy w' row) (hne : row ≠ some b) : MapV kv vv w' b m := h.of_block (k.block b h.lt (fun e => hne e.symm))
theorem find_ask {P : Program} {k : TypeId} (K : KeyV P k kv) (x : κ) (w : World) : ∀ (es : List MapEntry) (m : List (κ × β)) (i : Nat), es.map (fun e => (e.key, e.val)) = m.map (fun p => (kv p.1, vv p.2)) →
    (Instr.findAsking k (kv x) es i).run P w = .ok ((vfind m x i).map fun p => (p.1, vv p.2)) w
  | [], [], i, h => by simp [Instr.findAsking, vfind]
  | [], _ :: _, i, h => by simp at h
  | _ :: _, [], i, h => by simp at h
  | e :: es, (y, v) :: m, i, h => by
    simp only [List.map_cons, List.cons.injEq, Prod.mk.injEq] at h
    obtain ⟨⟨h1, h2⟩, h3⟩ := h
    have ih := find_ask K x w es m (i + 1) h3
    unfold Instr.findAsking
    simp only [Sem.run_bind, h1, K.eq, Result.andThen_ok, vfind]
    by_cases e2 : x = y
    · simp [e2, h2]
    · simp only [e2, decide_false, if_false, Bool.false_eq_true]
      exact ih
theorem run_findKeyV {P : Program} {k : TypeId} (K : KeyV P k kv) (x : κ) {es : List MapEntry} {m : List (κ × β)} (h : es.map (fun e => (e.key, e.val)) = m.map (fun p => (kv p.1, vv p.2))) (w : World) :
    (Instr.findKey k (kv x) es).run P w = .ok ((vfind m x 0).map fun p => (p.1, vv p.2)) w := by
  rw [run_findKey_eq w K.wide]
  exact find_ask K x w es m 0 h
theorem run_lookup_v {P : Program} {t k e : TypeId} {z : β} (K : KeyV P k kv) (ht : P.underlying t = some (.map k e)) (hz : ∀ w, (zeroValue e).run P w = .ok (vv z) w) (h : MapV kv vv w b m) (x : κ) (ok : Bool) :
    (Instr.lookup t (.map (some b)) (kv x) ok).run P w = .ok (bif ok then .tuple #[vv ((vget m x).getD z), .bool (vget m x).isSome] else vv ((vget m x).getD z)) w := by
  obtain ⟨es, clock, hb, hm⟩ := h
  rw [vget_find m x 0]
  unfold Instr.lookup
  simp only [Sem.run_bind, run_underlying ht, Result.andThen_ok, MapKept.run_getObj_map hb, Sem.run_pure, K.chk, run_findKeyV K x hm]
  cases vfind m x 0 with
  | none => cases ok <;> simp [hz]
  | some p => cases ok <;> simp
theorem run_mapUpdate_v {P : Program} {t k e : TypeId} (K : KeyV P k kv) (ht : P.underlying t = some (.map k e)) (h : MapV kv vv w b m) (x : κ) (v : β) :
    ∃ w', (Instr.mapUpdate t (.map (some b)) (kv x) (vv v)).run P w = .ok () w' ∧ Kp b w w' ∧ MapV kv vv w' b (vput m x v) := by
  obtain ⟨es, clock, hb, hm⟩ := h
  have hlt : b < w.heap.size := (Array.getElem?_eq_some_iff.1 hb).1
  have fin : ∀ (es' : Array MapEntry) (c' : Nat), es'.toList.map (fun e => (e.key, e.val)) = (vput m x v).map (fun p => (kv p.1, vv p.2)) →
      Kp b w { w with heap := w.heap.setIfInBounds b (.map es' c') } ∧ MapV kv vv { w with heap := w.heap.setIfInBounds b (.map es' c') } b (vput m x v) := fun es' c' he =>
    ⟨⟨rfl, rfl, rfl, by simp, fun i hi => by simp [Array.getElem?_setIfInBounds, Ne.symm hi]⟩, ⟨es', c', by simp [Array.getElem?_setIfInBounds, hlt], he⟩⟩
  unfold Instr.mapUpdate
  simp only [Sem.run_bind, run_underlying ht, Result.andThen_ok, MapKept.run_getObj_map hb, Sem.run_pure, K.chk, run_findKeyV K x hm]
  cases hf : vfind m x 0 with
  | none =>
    simp only [Option.map_none, MapKept.run_setObj_map _ hb]
    refine ⟨_, rfl, fin _ _ ?_⟩
    rw [vput_none hf]
    simp [hm]
  | some p =>
    obtain ⟨i, u⟩ := p
    obtain ⟨_, h2, h3⟩ := vput_some (v := v) hf
    rw [Nat.sub_zero] at h2 h3
    have hi : (es.toList.map (fun e => (e.key, e.val)))[i]? = some (kv x, vv u) := by rw [hm, List.getElem?_map, h3]; rfl
    rw [List.getElem?_map] at hi
    obtain ⟨en, hen, he2⟩ := Option.map_eq_some_iff.1 hi
    have hk : en.key = kv x := congrArg Prod.fst he2
    have hen' : es[i]? = some en := by simpa using hen
    simp only [Option.map_some, Sem.run_bind, Result.andThen_ok, hen', Option.getD_some, hk, Instr.keyThatStays, K.bits, if_true, Sem.run_pure, MapKept.run_setObj_map _ hb]
    refine ⟨_, rfl, fin _ _ ?_⟩
    rw [h2]
    apply List.ext_getElem?
    intro j
    have hmj : (es.toList.map (fun e => (e.key, e.val)))[j]? = (m.map (fun p => (kv p.1, vv p.2)))[j]? := by rw [hm]
    simp only [List.getElem?_map] at hmj
    simp only [List.getElem?_map, List.getElem?_set, Array.toList_modify, List.getElem?_modify]
    by_cases e : i = j
    · subst e
      have hl : i < m.length := (List.getElem?_eq_some_iff.1 h3).1
      simp [hen, hl]
    · simp only [e, if_false]
      simpa using hmj
end
section
variable {κ β : Type} [DecidableEq κ] {kv : κ → Value} {vv : β → Value} {P : Program} {C : World → Prop} {n : Nat} {l : List (Nat × Bool × Value)} {σ : Nat → Value}
  {d : Option Tmp} {ty : TypeId} {pos : String} {after : Array Edge} {g : Option (Nat × Bool)} {p q r : Bool} {t k e : TypeId} {x y z : Operand} {b : Nat} {m : List (κ × β)} {a : κ} {z0 : β}
theorem look_mapV_ok (K : KeyV P k kv) (ht : P.underlying t = some (.map k e)) (hz : ∀ w, (zeroValue e).run P w = .ok (vv z0) w) (hx : ev n l x = some (p, .map (some b))) (hp : p = true) (hy : ev n l y = some (q, kv a)) (hq : q = true) (h : ∀ w, C w → MapV kv vv w b m) :
    Look P C n l σ ⟨d, .lookup t x y true, ty, pos, after, g⟩ (.tuple [vv ((vget m a).getD z0), .bool (vget m a).isSome].toArray) := fun w hw => by
  have h1 := run_lookup_v K ht hz (h w hw) a true
  simp only [execOp, eval_ev hx hp, eval_ev hy hq]
  simp only [Sem.run_bind, h1, Result.andThen_ok]; rfl
theorem look_mapV (K : KeyV P k kv) (ht : P.underlying t = some (.map k e)) (hz : ∀ w, (zeroValue e).run P w = .ok (vv z0) w) (hx : ev n l x = some (p, .map (some b))) (hp : p = true) (hy : ev n l y = some (q, kv a)) (hq : q = true) (h : ∀ w, C w → MapV kv vv w b m) :
    Look P C n l σ ⟨d, .lookup t x y false, ty, pos, after, g⟩ (vv ((vget m a).getD z0)) := fun w hw => by
  have h1 := run_lookup_v K ht hz (h w hw) a false
  simp only [execOp, eval_ev hx hp, eval_ev hy hq]
  simp only [Sem.run_bind, h1, Result.andThen_ok]; rfl
variable {ops : Array Oper} {Q : Exit → Act → World → Prop} {rest : List Oper} {w : World}
theorem s_mapUpdateV {v : β} (K : KeyV P k kv) (ht : P.underlying t = some (.map k e)) (hx : ev n l x = some (true, .map (some b))) (hy : ev n l y = some (true, kv a)) (hz : ev n l z = some (true, vv v)) (h : MapV kv vv w b m)
    (next : ∀ w', Kp b w w' → MapV kv vv w' b (vput m a v) → wpList P ops Q rest (act (ds := ds) n l σ) w') :
    wpList P ops Q (⟨none, .mapUpdate t x y z, ty, pos, after, none⟩ :: rest) (act (ds := ds) n l σ) w := by
  obtain ⟨w', h1, h2, h3⟩ := run_mapUpdate_v K ht h a v
  refine wpList_step fun K' hK => ?_
  simp only [Region.wanted, if_true]
  unfold Oper.wp
  have hr : (execOp (act (ds := ds) n l σ).eval ⟨none, .mapUpdate t x y z, ty, pos, after, none⟩).run P w = .ok .skip w' := by
    simp only [execOp, eval_ev hx rfl, eval_ev hy rfl, eval_ev hz rfl, Sem.run_bind, h1, Result.andThen_ok, Sem.run_pure]
  rw [hr]
  show K' _ _
  exact hK _ _ (next w' h2 h3)
theorem s_makeMapV (next : ∀ b w', Ext w w' → MapV kv vv w' b [] → w.heap.size ≤ b → w'.heap.size = w.heap.size + 1 → wpList P ops Q rest (act (ds := ds) n ((d.getD 0, true, .map (some b)) :: l) σ) w') {dd : Tmp} (hd : d = some dd) :
    wpList P ops Q (⟨d, .makeMap t none, ty, pos, after, none⟩ :: rest) (act (ds := ds) n l σ) w := by
  subst hd
  refine s_val (v := .map (some w.heap.size)) (w' := w.alloc (.map #[] 0)) ?_ (next _ _ (ext_alloc w _) ⟨#[], 0, heap_alloc_new w _, rfl⟩ (Nat.le_refl _) (by simp))
  have := run_makeMap (P := P) t w
  simp [execOp, this]
end
section
variable {P : Program} {C : World → Prop} {Q : Act → Prop} {n : Nat} {l : List (Nat × Bool × Value)} {σ : Nat → Value} {d : Tmp} {op : Op} {ty : TypeId} {pos : String} {after : Array Edge} {L rest : List Oper}
/-- A guarded operation whose guard fails. -/
theorem q_dead {v : Value} {j dj : Nat} {want p b : Bool} {oj : Oper} (hj' : opAt L j = some oj) (hd : oj.dst = some dj) (hv : ev n l (.tmp dj) = some (p, .bool b)) (hf : gq p b want = false)
    (next : wpQuiet P L.toArray C Q rest (act (ds := ds) n ((d, false, v) :: l) σ)) :
    wpQuiet P L.toArray C Q (⟨some d, op, ty, pos, after, some (j, want)⟩ :: rest) (act (ds := ds) n l σ) := by
  refine wpQuiet_step fun K hK => ?_
  rw [wanted_act (opAt_spec hj') hd hv, if_neg (by rw [hf]; decide)]
  refine hK _ ?_
  have := put_act (ds := ds) n l σ d false v
  show wpQuiet P L.toArray C Q rest ((act (ds := ds) n l σ).put (some d) undef)
  rw [show undef = gv false v from rfl, this]; exact next
theorem q_callgv {f : FuncId} {x : Operand} {xs : List Operand} {ts : Array TypeId} {vs cap : List Value} {v : Value} {j dj : Nat} {want p b : Bool} {oj : Oper} (hj' : opAt L j = some oj) (hd : oj.dst = some dj) (hv : ev n l (.tmp dj) = some (p, .bool b))
    (he : Enters P f) (hx : gq p b want = true → ev n l x = some (true, .func (.func f) #[] cap.toArray)) (ha : gq p b want = true → Evs n l xs vs)
    (h : gq p b want = true → ∀ w, C w → Calls P f (vs ++ cap).toArray w fun e w' => e = .returned v ∧ C w') (next : wpQuiet P L.toArray C Q rest (act (ds := ds) n ((d, gq p b want, v) :: l) σ)) :
    wpQuiet P L.toArray C Q (⟨some d, .call { callee := .value x, args := xs.toArray, argTypes := ts }, ty, pos, after, some (j, want)⟩ :: rest) (act (ds := ds) n l σ) := by
  refine wpQuiet_step fun K hK => ?_
  rw [wanted_act (opAt_spec hj') hd hv]
  by_cases hw : gq p b want = true
  · rw [if_pos hw]
    refine ⟨v, fun w hw' => ?_, hK _ (by rw [put_act', ← hw]; exact next)⟩
    unfold Oper.quietAt; rw [run_callv he (hx hw) rfl (ha hw) w]; exact ⟨rfl, h hw w hw'⟩
  · rw [if_neg hw]
    refine hK _ ?_
    have hw' : gq p b want = false := by simpa using hw
    have := put_act (ds := ds) n l σ d (gq p b want) v
    rw [hw'] at this next
    show wpQuiet P L.toArray C Q rest ((act (ds := ds) n l σ).put (some d) undef)
    rw [show undef = gv false v from rfl, this]; exact next
end

/-! ### Interface values, elements of arrays -/
section
variable {P : Program} {C : World → Prop} {n : Nat} {l : List (Nat × Bool × Value)} {σ : Nat → Value} {d : Option Tmp} {ty : TypeId} {pos : String} {after : Array Edge} {g : Option (Nat × Bool)} {p q r : Bool}
theorem look_makeIface {t : TypeId} {x : Operand} {v : Value} (ht : P.concrete t = true) (hx : ev n l x = some (p, v)) (hp : p = true) : Look P C n l σ ⟨d, .makeInterface t x, ty, pos, after, g⟩ (.iface t v) := fun w _ => by
  simp only [execOp, eval_ev hx hp, Sem.run_bind, run_makeInterface w t v ht, Result.andThen_ok]; rfl
theorem look_typeAssert {t t' : TypeId} {td : TypeDesc} {x : Operand} {v : Value} (ht : P.underlying t = some td) (htd : (match td with | .interface _ => false | _ => true) = true) (hx : ev n l x = some (p, .iface t v)) (hp : p = true) :
    Look P C n l σ ⟨d, .typeAssert x t' t false, ty, pos, after, g⟩ v := fun w _ => by
  simp only [execOp, eval_ev hx hp, Instr.typeAssert, Sem.run_bind, run_underlying ht, Result.andThen_ok]
  cases td <;> simp_all
theorem look_index_arr {t e : TypeId} {td : TypeDesc} {x i : Operand} {len size : Nat} {cs : List Value} {k : IntKind} {j : Int} (m : Nat) (ht : P.underlying t = some (.array len e)) (he : P.underlying e = some td) (hag : (match td with | .struct _ | .array _ _ => true | _ => false) = true)
    (hs : (P.info? e).map (fun i => i.size) = some size) (hx : ev n l x = some (p, .agg cs.toArray)) (hp : p = true) (hy : ev n l i = some (q, .int k j)) (hq : q = true) (hm : j = (m : Int)) (hlt : m < len) {us : List Value} (hu : (cs.drop (m * size)).take size = us) :
    Look P C n l σ ⟨d, .index t x i, ty, pos, after, g⟩ (.agg us.toArray) := fun w _ => by
  subst hm
  obtain ⟨te, hte, hsz⟩ : ∃ te, P.info? e = some te ∧ te.size = size := by
    cases he : P.info? e with
    | none => rw [he] at hs; cases hs
    | some te => rw [he] at hs; exact ⟨te, rfl, Option.some.inj hs⟩
  have hext : cs.toArray.extract (m * size) (m * size + size) = us.toArray := by
    apply Array.ext'
    rw [Array.toList_extract, List.extract_eq_take_drop, ← hu]
    simp
  have hpart : (part e cs.toArray (m * size)).run P w = .ok (.agg us.toArray) w := by
    simp only [part, isAgg, Sem.run_bind, run_underlying he, Result.andThen_ok, sizeOf, typeInfo, program, Sem.run, hte, hsz]
    cases td <;> simp_all [Sem.run]
  have hsz' : (sizeOf e).run P w = .ok size w := by simp [sizeOf, typeInfo, program, Sem.run, hte, hsz]
  simp only [execOp, eval_ev hx hp, eval_ev hy hq, Instr.index, asIntOf, Sem.run_bind, Sem.run_pure, Result.andThen_ok, run_underlying ht]
  rw [if_pos ⟨by omega, by omega⟩]
  simp only [Sem.run_bind, hsz', Result.andThen_ok, Int.toNat_natCast, hpart]
end
section
variable {P : Program} {ops : Array Oper} {Q : Exit → Act → World → Prop} {n : Nat} {l : List (Nat × Bool × Value)} {σ : Nat → Value} {w : World} {d : Tmp} {ty : TypeId} {pos : String} {after : Array Edge} {rest : List Oper}
/-- A call through an interface value whose method is found. -/
theorem s_invoke {f : FuncId} {name : String} {r : Operand} {xs : List Operand} {ts : Array TypeId} {vs as : List Value} {rv : Value} {R : Ending → World → Prop} (hr : ev n l r = some (true, rv)) (ha : Evs n l xs vs)
    (hm : (callMethod rv name vs.toArray).run P w = .ok (.enter f as.toArray) w) (h : Calls P f as.toArray w R) (next : ∀ e w', R e w' → ∃ v, e = .returned v ∧ wpList P ops Q rest (act (ds := ds) n ((d, true, v) :: l) σ) w') :
    wpList P ops Q (⟨some d, .call { callee := .invoke r name, args := xs.toArray, argTypes := ts }, ty, pos, after, none⟩ :: rest) (act (ds := ds) n l σ) w := by
  refine wpList_step fun K hK => ?_
  simp only [Region.wanted, if_true]
  unfold Oper.wp
  have hx : (execOp (act (ds := ds) n l σ).eval ⟨some d, .call { callee := .invoke r name, args := xs.toArray, argTypes := ts }, ty, pos, after, none⟩).run P w = .ok (.enter f as.toArray) w := by
    simp only [execOp, resolve, Sem.run_bind, Sem.run_pure, Result.andThen_ok, invoke, eval_ev hr rfl]
    have e1 : (xs.toArray.map (act (ds := ds) n l σ).eval) = vs.toArray := by simp [ha.map]
    rw [e1]
    have e2 : (#[rv] ++ vs.toArray)[0]? = some rv := by simp
    have e3 : (#[rv] ++ vs.toArray).extract 1 (#[rv] ++ vs.toArray).size = vs.toArray := by
      apply Array.ext'
      simp [List.extract_eq_take_drop]
    simp only [e2, e3]
    exact hm
  rw [hx]
  refine h.mono fun e w' hR => ?_
  obtain ⟨v, rfl, hn⟩ := next e w' hR
  refine hK _ _ ?_
  rw [put_act']; exact hn
/-- Cells of a row of one's own, one after the other. -/
theorem run_storeCells_row {g base size k cap : Nat} {e : TypeId} {off : Nat} : ∀ (vs : List Value) (i : Nat) (xs : List Value) (w : World), w.ownsRow base e size (.slice (some ⟨g, 0, none⟩) k cap) k xs → off + i + vs.length ≤ xs.length → (∀ v ∈ vs, v.oneCell' = true) →
    ∃ w', (storeCells ⟨g, off, none⟩ vs i).run P w = .ok () w' ∧ Kp g w w' ∧ w'.ownsRow base e size (.slice (some ⟨g, 0, none⟩) k cap) k (xs.take (off + i) ++ vs ++ xs.drop (off + i + vs.length))
  | [], i, xs, w, hB, _, _ => ⟨w, by simp [storeCells], ⟨rfl, rfl, rfl, rfl, fun _ _ => rfl⟩, by simpa using hB⟩
  | v :: vs, i, xs, w, hB, hlen, hone => by
    simp only [List.length_cons] at hlen
    have hi : off + i < xs.length := by omega
    have e0 : ∀ j : Nat, (⟨g, 0, none⟩ : Addr).add j = ⟨g, j, none⟩ := fun j => by unfold Addr.add; split <;> simp_all
    have hc : w.cell? ⟨g, off + i, none⟩ = some xs[off + i] := by
      have := World.ownsRow.cells hB (g := g) rfl (off + i) _ (List.getElem?_eq_getElem hi)
      rw [e0] at this; exact this
    have e1 : (⟨g, off, none⟩ : Addr).add i = ⟨g, off + i, none⟩ := by unfold Addr.add; split <;> simp_all
    have hst : (store ⟨g, off + i, none⟩ v).run P w = .ok () (w.setCell ⟨g, off + i, none⟩ v) := by
      rw [run_store P w ⟨g, off + i, none⟩ v .plain (hone v (by simp))]
      simp [hc, World.ownsRow.frozenAt hB (off + i)]
    obtain ⟨hB', _⟩ := World.ownsRow.stored hB (off + i) v
    have hk : Kp g w (w.setCell ⟨g, off + i, none⟩ v) := ⟨rfl, rfl, rfl, by simp [World.setCell], fun k hk => Below.heap_setCell w _ v k hk⟩
    obtain ⟨w', h1, h2, h3⟩ := run_storeCells_row (off := off) vs (i + 1) (xs.set (off + i) v) _ hB' (by simp; omega) (fun u hu => hone u (by simp [hu]))
    refine ⟨w', ?_, ⟨h2.os.trans hk.os, h2.tape.trans hk.tape, h2.output.trans hk.output, h2.size.trans hk.size, fun k hne => (h2.block k hne).trans (hk.block k hne)⟩, ?_⟩
    · simp only [storeCells, Sem.run_bind, e1, hst, Result.andThen_ok, h1]
    · have e2 : List.take (off + (i + 1)) (xs.set (off + i) v) ++ vs ++ List.drop (off + (i + 1) + vs.length) (xs.set (off + i) v) = List.take (off + i) xs ++ v :: vs ++ List.drop (off + i + (v :: vs).length) xs := by
        rw [show off + (i + 1) = off + i + 1 by omega]
        generalize off + i = m at *
        rw [List.take_succ_eq_append_getElem (by simpa using hi), List.take_set_of_le (Nat.le_refl _), List.getElem_set_self, List.drop_set_of_lt (by omega)]
        simp only [List.length_cons, List.append_assoc, List.cons_append, List.nil_append]
        rw [show m + 1 + vs.length = m + (vs.length + 1) by omega]
      rw [e2] at h3; exact h3
theorem flat_setN {α : Type} {ce : α → List Value} {size : Nat} (hce : ∀ x, (ce x).length = size) (u : α) : ∀ (xs : List α) (j : Nat), j < xs.length → (xs.flatMap ce).take (j * size) ++ ce u ++ (xs.flatMap ce).drop (j * size + size) = (xs.set j u).flatMap ce
  | [], j, h => by cases h
  | x :: xs, 0, _ => by
    simp only [Nat.zero_mul, List.take_zero, List.nil_append, Nat.zero_add, List.set_cons_zero, List.flatMap_cons]
    rw [List.drop_append_of_le_length (by rw [hce]; omega), List.drop_eq_nil_of_le (by rw [hce]; omega), List.nil_append]
  | x :: xs, j + 1, h => by
    have ih := flat_setN hce u xs j (by simpa using h)
    simp only [List.set_cons_succ, List.flatMap_cons]
    rw [← ih, Nat.add_mul, Nat.one_mul]
    rw [List.take_append, List.drop_append, List.take_of_length_le (by rw [hce]; omega), List.drop_eq_nil_of_le (as := ce x) (by rw [hce]; omega), hce, Nat.add_sub_cancel, show j * size + size + size - size = j * size + size by omega]
    simp
/-- A store into a row of one's own, elements of several cells. -/
theorem s_storeRowN {α : Type} {ce : α → List Value} {size : Nat} {t e : TypeId} {x y : Operand} {g off j k cap base : Nat} {u : α} {xs : List α} (hi' : (P.info? t).map (fun i => i.size) = some size) (hce : ∀ x, (ce x).length = size) (hone : ∀ v ∈ ce u, v.oneCell' = true)
    (hx : ev n l x = some (true, .pointer (some ⟨g, off, none⟩))) (hy : ev n l y = some (true, .agg (ce u).toArray)) (hO : Own ce e size base w (.slice (some ⟨g, 0, none⟩) k cap) xs) (hoff : off = j * size) (hj : j < xs.length)
    (next : ∀ w', Kp g w w' → Own ce e size base w' (.slice (some ⟨g, 0, none⟩) k cap) (xs.set j u) → wpList P ops Q rest (act (ds := ds) n l σ) w') :
    wpList P ops Q (⟨none, .store t x y, ty, pos, after, none⟩ :: rest) (act (ds := ds) n l σ) w := by
  subst hoff
  obtain ⟨ti, hi, hz0⟩ := info_of hi'
  have hfl : ∀ xs : List α, (xs.flatMap ce).length = xs.length * size := by
    intro xs
    induction xs with
    | nil => simp
    | cons a r ih => rw [List.flatMap_cons, List.length_append, ih, hce, List.length_cons, Nat.add_mul]; omega
  obtain ⟨hS, hk, _⟩ := hO.slOf hce
  subst hk
  have hle : j * size + 0 + (ce u).length ≤ (xs.flatMap ce).length := by
    rw [hfl, hce, Nat.add_zero]
    have := Nat.mul_le_mul_right size (show j + 1 ≤ xs.length from hj)
    rw [Nat.add_mul, Nat.one_mul] at this; exact this
  obtain ⟨w', h1, h2, h3⟩ := run_storeCells_row (P := P) (off := j * size) (ce u) 0 _ w hO hle hone
  refine wpList_step fun K hK => ?_
  simp only [Region.wanted, if_true]
  unfold Oper.wp
  have hr : (execOp (act (ds := ds) n l σ).eval ⟨none, .store t x y, ty, pos, after, none⟩).run P w = .ok .skip w' := by
    simp [execOp, Instr.storeAt, Instr.sureAddr, eval_ev hx rfl, eval_ev hy rfl, storeVar, sizeOf, typeInfo, hi, hz0, Value.cells, hce, h1, program, Sem.run] at *
  rw [hr]
  show K _ _
  refine hK _ _ (next _ h2 ?_)
  unfold Own
  rw [List.length_set, ← flat_setN hce u xs j hj]
  rw [Nat.add_zero, hce] at h3
  exact h3
end
end Go.Proofs.Core
