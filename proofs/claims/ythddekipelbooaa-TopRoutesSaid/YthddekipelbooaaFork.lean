/- Regions that draw their order, where two loud operations may come in either order: the walk along a tree of orders. No program in sight. -/
import Derived.Test.YthddekipelbooaaReg
namespace Go.Proofs.Core
open Go Go.RowKit
variable {ds : List Deferred}
set_option linter.unusedVariables false
set_option linter.unusedSimpArgs false

inductive Ord where
  | nil
  | eager (i : Nat) (r : Ord)
  | alone (i : Nat) (r : Ord)
  | fork (i j : Nat) (a b : Ord)
def Ord.len : Ord → Nat
  | .nil => 0
  | .eager _ r => r.len + 1
  | .alone _ r => r.len + 1
  | .fork _ _ a _ => a.len + 1

section
variable {P : Program} {ops : Array Oper} {Q : Exit → Act → World → Prop} {S : World → Prop}
def loudAt (P : Program) (ops : Array Oper) (S : World → Prop) (Q : Exit → Act → World → Prop) (i : Nat) (K : Act → World → Prop) (a : Act) (w : World) : Prop :=
  match ops[i]? with
  | none => False
  | some o => if Region.wanted o (yielded ops a.tmps) then (o.wp P a w (fun a' w' => S w' ∧ K a' w') Q ∨ (o.asks P a w ∧ LetsOut Q)) else K (a.put o.dst undef) w
def wpT (P : Program) (ops : Array Oper) (S : World → Prop) (Q : Exit → Act → World → Prop) : Ord → Act → World → Prop
  | .nil, a, w => Q .normal a w
  | .eager i r, a, w =>
    match ops[i]? with
    | none => False
    | some o =>
      if Region.wanted o (yielded ops a.tmps) then ∃ v, (∀ w', S w' → (execOp a.eval o).run P w' = .ok (.value v) w') ∧ wpT P ops S Q r (a.put o.dst v) w
      else wpT P ops S Q r (a.put o.dst undef) w
  | .alone i r, a, w => loudAt P ops S Q i (wpT P ops S Q r) a w
  | .fork i j x y, a, w => loudAt P ops S Q i (wpT P ops S Q x) a w ∧ loudAt P ops S Q j (wpT P ops S Q y) a w
def okT (ops : Array Oper) : Ord → Array Bool → Bool
  | .nil, listed => (Region.ready .any ops listed).isEmpty
  | .eager i r, listed => (Region.ready .any ops listed).contains i && Region.free .any ops listed i && okT ops r (listed.setIfInBounds i true)
  | .alone i r, listed => Region.ready .any ops listed == [i] && okT ops r (listed.setIfInBounds i true)
  | .fork i j x y, listed => Region.ready .any ops listed == [i, j] && okT ops x (listed.setIfInBounds i true) && okT ops y (listed.setIfInBounds j true) && (x.len == y.len)

theorem wpOp_loud {i : Nat} {K : Act → World → Prop} {K' : Act → World → Prop} {a : Act} {w : World} (hS : S w) (h : loudAt P ops S Q i K a w) (hk : ∀ a' w', S w' → K a' w' → K' a' w') :
    wpOp P ops Q i (fun a' w' => S w' ∧ K' a' w') a w := by
  unfold loudAt at h
  unfold wpOp
  cases ho : ops[i]? with
  | none => rw [ho] at h; exact h.elim
  | some o =>
    simp only [ho] at h ⊢
    split
    · rename_i hw
      simp only [hw, if_true] at h
      rcases h with h | h
      · exact .inl (Oper.wp_mono (fun a' w' ⟨h1, h2⟩ => ⟨h1, hk _ _ h1 h2⟩) h)
      · exact .inr h
    · rename_i hw
      simp only [hw, Bool.false_eq_true, if_false] at h
      exact ⟨hS, hk _ _ hS h⟩
theorem wpAnyH_of_wpT (hs : Region.noSelect ops = true) (hQ : PanicOk Q) :
    ∀ (t : Ord) (listed : Array Bool) (a : Act) (w : World), okT ops t listed = true → S w → wpT P ops S Q t a w → wpAnyH P .any ops Q S t.len listed a w
  | .nil, listed, a, w, hB, _, h => wpAnyH_done (by simpa [okT] using hB) h 0
  | .eager i r, listed, a, w, hB, hS, h => by
    simp only [okT, Bool.and_eq_true] at hB
    obtain ⟨⟨hr, hf⟩, hB'⟩ := hB
    unfold wpT at h
    cases ho : ops[i]? with
    | none => rw [ho] at h; exact h.elim
    | some o =>
      simp only [ho] at h
      by_cases hw : Region.wanted o (yielded ops a.tmps) = true
      · simp only [hw, if_true] at h
        obtain ⟨v, hv, hn⟩ := h
        exact wpAnyH_take ho hs hf hr (fun c a w => hQ c a w _ _) (.inl ⟨hw, hv⟩) hS (wpAnyH_of_wpT hs hQ r _ _ _ hB' hS hn)
      · have hw' : Region.wanted o (yielded ops a.tmps) = false := by simpa using hw
        simp only [hw', Bool.false_eq_true, if_false] at h
        exact wpAnyH_take ho hs hf hr (fun c a w => hQ c a w _ _) (.inr ⟨hw', rfl⟩) hS (wpAnyH_of_wpT hs hQ r _ _ _ hB' hS h)
  | .alone i r, listed, a, w, hB, hS, h => by
    simp only [okT, Bool.and_eq_true, beq_iff_eq] at hB
    obtain ⟨hr, hB'⟩ := hB
    refine wpAnyH_all hr (by simp) ?_
    intro j hj
    obtain rfl : j = i := by simpa using hj
    exact wpOp_loud hS h fun a' w' h1 h2 => wpAnyH_of_wpT hs hQ r _ _ _ hB' h1 h2
  | .fork i j x y, listed, a, w, hB, hS, h => by
    simp only [okT, Bool.and_eq_true, beq_iff_eq] at hB
    obtain ⟨⟨⟨hr, hx⟩, hy⟩, hl⟩ := hB
    refine wpAnyH_all hr (by simp) ?_
    intro k hk
    obtain ⟨h1, h2⟩ := h
    rcases (by simpa using hk : k = i ∨ k = j) with rfl | rfl
    · exact wpOp_loud hS h1 fun a' w' h3 h4 => wpAnyH_of_wpT hs hQ x _ _ _ hx h3 h4
    · refine wpOp_loud hS h2 fun a' w' h3 h4 => ?_
      show wpAnyH P .any ops Q S x.len _ a' w'
      rw [hl]; exact wpAnyH_of_wpT hs hQ y _ _ _ hy h3 h4

variable {n : Nat} {l : List (Nat × Bool × Value)} {σ : Nat → Value} {w : World} {L : List Oper}
theorem region_t {id : Nat} {a : Act} (S : World → Prop) (t : Ord) (hm : P.follows .mixedOrders = true) (hs : Region.noSelect L.toArray = true) (hl : Nat.beq t.len L.length = true)
    (hB : okT L.toArray t (Array.replicate t.len false) = true) (hQ : PanicOk Q) (h : ∀ w', Ext w w' → S w' ∧ wpT P L.toArray S Q t a w') : (Code.region id L.toArray true).wp P Q a w := by
  have hl' : t.len = L.toArray.size := by rw [List.size_toArray]; exact Nat.eq_of_beq_eq_true hl
  have h' := h _ (ext_drew w)
  exact wp_region_held hm (by rw [← hl']; exact wpAnyH_of_wpT hs hQ t _ a _ hB h'.1 h'.2)

variable {d : Tmp} {op : Op} {ty : TypeId} {pos : String} {after : Array Edge} {i : Nat} {r : Ord}
theorem t_look {v : Value} (hi : opAt L i = some ⟨some d, op, ty, pos, after, none⟩) (h : Look P S n l σ ⟨some d, op, ty, pos, after, none⟩ v) (next : wpT P L.toArray S Q r (act (ds := ds) n ((d, true, v) :: l) σ) w) :
    wpT P L.toArray S Q (.eager i r) (act (ds := ds) n l σ) w := by
  unfold wpT
  simp only [opAt_spec hi, Region.wanted, if_true]
  exact ⟨v, h, by rw [put_act']; exact next⟩
theorem t_lookg {v : Value} {j dj : Nat} {want p b : Bool} {oj : Oper} (hi : opAt L i = some ⟨some d, op, ty, pos, after, some (j, want)⟩) (hj' : opAt L j = some oj) (hd : oj.dst = some dj) (hv : ev n l (.tmp dj) = some (p, .bool b))
    (h : gq p b want = true → Look P S n l σ ⟨some d, op, ty, pos, after, some (j, want)⟩ v) (next : wpT P L.toArray S Q r (act (ds := ds) n ((d, gq p b want, v) :: l) σ) w) :
    wpT P L.toArray S Q (.eager i r) (act (ds := ds) n l σ) w := by
  unfold wpT
  simp only [opAt_spec hi]
  rw [wanted_act (opAt_spec hj') hd hv]
  by_cases hw : gq p b want = true
  · rw [if_pos hw]
    exact ⟨v, h hw, by rw [put_act', ← hw]; exact next⟩
  · rw [if_neg hw]
    have hw' : gq p b want = false := by simpa using hw
    have := put_act (ds := ds) n l σ d (gq p b want) v
    rw [hw'] at this next
    show wpT P L.toArray S Q r ((act (ds := ds) n l σ).put (some d) undef) w
    rw [show undef = gv false v from rfl, this]; exact next
theorem loud_seq {o : Oper} {a : Act} {K : Act → World → Prop} (hi : opAt L i = some o) (h : wpList P L.toArray (Exit.then (fun a' w' => S w' ∧ K a' w') Q) [o] a w) : loudAt P L.toArray S Q i K a w := by
  unfold loudAt
  simp only [opAt_spec hi]
  unfold wpList at h
  split
  · rename_i hw
    rw [if_pos hw] at h
    rcases h with h | h
    · exact .inl (wp_monoQ (fun a' w' h' => h') h)
    · exact .inr h
  · rename_i hw
    rw [if_neg hw] at h
    exact h.2
theorem t_seq {o : Oper} {a : Act} (hi : opAt L i = some o) (h : wpList P L.toArray (Exit.then (fun a' w' => S w' ∧ wpT P L.toArray S Q r a' w') Q) [o] a w) : wpT P L.toArray S Q (.alone i r) a w := loud_seq hi h
theorem t_fork {oi oj : Oper} {a : Act} {j : Nat} {x y : Ord} (hi : opAt L i = some oi) (hj : opAt L j = some oj) (h1 : wpList P L.toArray (Exit.then (fun a' w' => S w' ∧ wpT P L.toArray S Q x a' w') Q) [oi] a w)
    (h2 : wpList P L.toArray (Exit.then (fun a' w' => S w' ∧ wpT P L.toArray S Q y a' w') Q) [oj] a w) : wpT P L.toArray S Q (.fork i j x y) a w := ⟨loud_seq hi h1, loud_seq hj h2⟩
theorem t_nil {a : Act} (h : Q .normal a w) : wpT P L.toArray S Q .nil a w := h

variable {ops : Array Oper} {rest : List Oper}
/-- An empty slice literal. -/
theorem s_buildSlice0 {t e size : Nat} (ht : P.underlying t = some (.slice e)) (hs' : (P.info? e).map (fun i => i.size) = some size)
    (next : ∀ g w', Ext w w' → Blk w' g e [] → w.heap.size = g → w'.heap.size = g + 1 → wpList P ops Q rest (act (ds := ds) n ((d, true, .slice (some ⟨g, 0, none⟩) 0 0) :: l) σ) w') :
    wpList P ops Q (⟨some d, .buildSlice t 0 #[], ty, pos, after, none⟩ :: rest) (act (ds := ds) n l σ) w := by
  obtain ⟨ti, hti, hsz⟩ := info_of hs'
  refine s_val (w' := w.alloc (.cells #[] e)) ?_ (next w.heap.size _ (ext_alloc w _) (by have := Blk.new w e []; simpa using this) rfl (by simp))
  simp only [execOp, Instr.buildSlice, zeroValue, typeInfo, sizeOf, Sem.run_bind, Sem.run_pure, Result.andThen_ok, program, run_underlying ht]
  simp [Sem.run, hti, Instr.fill, newRow, newObj]
  rw [show Array.range 0 = #[] from rfl, Array.map_empty]
end
end Go.Proofs.Core
