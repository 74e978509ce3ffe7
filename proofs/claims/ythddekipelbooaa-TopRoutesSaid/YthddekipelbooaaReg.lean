/- Regions that draw their order, where calls leave fresh memory: one walk along a given list of the operations: those that only look are taken first, each loud one stands alone. No program in sight. -/
import Derived.Test.YthddekipelbooaaMore
import Derived.Maps.AppendAt
namespace Go.Proofs.Core
open Go Go.RowKit
variable {ds : List Deferred}
set_option linter.unusedVariables false
set_option linter.unusedSimpArgs false

section
variable {P : Program} {ops : Array Oper} {Q : Exit → Act → World → Prop} {S : World → Prop}

/-- The walk along a list: (number, eager). Eager: it yields its value in every world of S. Else: it stands alone, and S is shown anew behind it. -/
def wpH (P : Program) (ops : Array Oper) (S : World → Prop) (Q : Exit → Act → World → Prop) : List (Nat × Bool) → Act → World → Prop
  | [], a, w => Q .normal a w
  | (i, eager) :: rest, a, w =>
    match ops[i]? with
    | none => False
    | some o =>
      if Region.wanted o (yielded ops a.tmps) then
        if eager then ∃ v, (∀ w', S w' → (execOp a.eval o).run P w' = .ok (.value v) w') ∧ wpH P ops S Q rest (a.put o.dst v) w
        else (o.wp P a w (fun a' w' => S w' ∧ wpH P ops S Q rest a' w') Q ∨ (o.asks P a w ∧ LetsOut Q))
      else wpH P ops S Q rest (a.put o.dst undef) w

/-- The static side: at each step the operation may come up, and is either free or the only one. -/
def okOrd (ops : Array Oper) : List (Nat × Bool) → Array Bool → Bool
  | [], listed => (Region.ready .any ops listed).isEmpty
  | (i, eager) :: rest, listed =>
    (if eager then (Region.ready .any ops listed).contains i && Region.free .any ops listed i else Region.ready .any ops listed == [i]) && okOrd ops rest (listed.setIfInBounds i true)

theorem wpAnyH_of_wpH (hs : Region.noSelect ops = true) (hQ : ∀ c a w (d : Option Tmp) v, Q (.panic c) (a.put d v) w → Q (.panic c) a w) :
    ∀ (l : List (Nat × Bool)) (listed : Array Bool) (a : Act) (w : World), okOrd ops l listed = true → S w → wpH P ops S Q l a w → wpAnyH P .any ops Q S l.length listed a w
  | [], listed, a, w, hB, _, h => wpAnyH_done (by simpa [okOrd] using hB) h 0
  | (i, true) :: rest, listed, a, w, hB, hS, h => by
    simp only [okOrd, if_true, Bool.and_eq_true] at hB
    obtain ⟨⟨hr, hf⟩, hB'⟩ := hB
    unfold wpH at h
    cases ho : ops[i]? with
    | none => rw [ho] at h; exact h.elim
    | some o =>
      simp only [ho, if_true] at h
      by_cases hw : Region.wanted o (yielded ops a.tmps) = true
      · simp only [hw, if_true] at h
        obtain ⟨v, hv, hn⟩ := h
        exact wpAnyH_take ho hs hf hr (fun c a w => hQ c a w _ _) (.inl ⟨hw, hv⟩) hS (wpAnyH_of_wpH hs hQ rest _ _ _ hB' hS hn)
      · have hw' : Region.wanted o (yielded ops a.tmps) = false := by simpa using hw
        simp only [hw', Bool.false_eq_true, if_false] at h
        exact wpAnyH_take ho hs hf hr (fun c a w => hQ c a w _ _) (.inr ⟨hw', rfl⟩) hS (wpAnyH_of_wpH hs hQ rest _ _ _ hB' hS h)
  | (i, false) :: rest, listed, a, w, hB, hS, h => by
    simp only [okOrd, Bool.false_eq_true, if_false, Bool.and_eq_true, beq_iff_eq] at hB
    obtain ⟨hr, hB'⟩ := hB
    refine wpAnyH_all hr (by simp) ?_
    intro j hj
    obtain rfl : j = i := by simpa using hj
    unfold wpH at h
    unfold wpOp
    cases ho : ops[j]? with
    | none => rw [ho] at h; exact h.elim
    | some o =>
      simp only [ho, Bool.false_eq_true, if_false] at h ⊢
      split
      · rename_i hw
        simp only [hw, if_true] at h
        rcases h with h | h
        · exact .inl (Oper.wp_mono (fun a' w' ⟨h1, h2⟩ => ⟨h1, wpAnyH_of_wpH hs hQ rest _ _ _ hB' h1 h2⟩) h)
        · exact .inr h
      · rename_i hw
        simp only [hw, Bool.false_eq_true, if_false] at h
        exact ⟨hS, wpAnyH_of_wpH hs hQ rest _ _ _ hB' hS h⟩

/-- What is asked of a panic says nothing of the temporaries. -/
def PanicOk (Q : Exit → Act → World → Prop) : Prop := ∀ c a w (d : Option Tmp) v, Q (.panic c) (a.put d v) w → Q (.panic c) a w
theorem pk_then {next : Act → World → Prop} (h : PanicOk Q) : PanicOk (Exit.then next Q) := h
theorem pk_block {i : Nat} (h : PanicOk Q) : PanicOk (Exit.inBlock i Q) := h
theorem pk_body {fn : Func} {R : Ending → World → Prop} : PanicOk (bodyPost P fn R) := by
  intro c a w d v h
  cases d <;> exact h

variable {n : Nat} {l : List (Nat × Bool × Value)} {σ : Nat → Value} {w : World} {L : List Oper}
theorem region_h {id : Nat} {a : Act} (S : World → Prop) (ord : List (Nat × Bool)) (hm : P.follows .mixedOrders = true) (hs : Region.noSelect L.toArray = true) (hl : Nat.beq ord.length L.length = true)
    (hB : okOrd L.toArray ord (Array.replicate ord.length false) = true) (hQ : PanicOk Q) (h : ∀ w', Ext w w' → S w' ∧ wpH P L.toArray S Q ord a w') : (Code.region id L.toArray true).wp P Q a w := by
  have hl' : ord.length = L.toArray.size := by rw [List.size_toArray]; exact Nat.eq_of_beq_eq_true hl
  have h' := h _ (ext_drew w)
  exact wp_region_held hm (by rw [← hl']; exact wpAnyH_of_wpH hs hQ ord _ a _ hB h'.1 h'.2)

variable {d : Tmp} {op : Op} {ty : TypeId} {pos : String} {after : Array Edge} {i : Nat} {rest : List (Nat × Bool)}
theorem h_look {v : Value} (hi : opAt L i = some ⟨some d, op, ty, pos, after, none⟩) (h : Look P S n l σ ⟨some d, op, ty, pos, after, none⟩ v) (next : wpH P L.toArray S Q rest (act (ds := ds) n ((d, true, v) :: l) σ) w) :
    wpH P L.toArray S Q ((i, true) :: rest) (act (ds := ds) n l σ) w := by
  unfold wpH
  simp only [opAt_spec hi, Region.wanted, if_true]
  exact ⟨v, h, by rw [put_act']; exact next⟩
theorem h_lookg {v : Value} {j dj : Nat} {want p b : Bool} {oj : Oper} (hi : opAt L i = some ⟨some d, op, ty, pos, after, some (j, want)⟩) (hj' : opAt L j = some oj) (hd : oj.dst = some dj) (hv : ev n l (.tmp dj) = some (p, .bool b))
    (h : gq p b want = true → Look P S n l σ ⟨some d, op, ty, pos, after, some (j, want)⟩ v) (next : wpH P L.toArray S Q rest (act (ds := ds) n ((d, gq p b want, v) :: l) σ) w) :
    wpH P L.toArray S Q ((i, true) :: rest) (act (ds := ds) n l σ) w := by
  unfold wpH
  simp only [opAt_spec hi]
  rw [wanted_act (opAt_spec hj') hd hv]
  by_cases hw : gq p b want = true
  · rw [if_pos hw]
    simp only [if_true]
    exact ⟨v, h hw, by rw [put_act', ← hw]; exact next⟩
  · rw [if_neg hw]
    have hw' : gq p b want = false := by simpa using hw
    have := put_act (ds := ds) n l σ d (gq p b want) v
    rw [hw'] at this next
    show wpH P L.toArray S Q rest ((act (ds := ds) n l σ).put (some d) undef) w
    rw [show undef = gv false v from rfl, this]; exact next
theorem wp_monoQ {o : Oper} {a : Act} {w : World} {K K' : Act → World → Prop} {N : Act → World → Prop} (h : ∀ a w, K a w → K' a w) (hh : o.wp P a w K (Exit.then N Q)) : o.wp P a w K' Q := by
  unfold Oper.wp at *
  generalize (execOp a.eval o).run P w = r at *
  cases r with
  | ok n w' =>
    cases n <;> simp only [Oper.upon] at hh ⊢ <;>
      first
        | exact h _ _ hh
        | exact Calls.mono hh (fun e w'' he => by cases e <;> first | exact h _ _ he | exact he)
        | exact Rows.mono hh (fun _ _ he => h _ _ he)
  | halt x w' => cases x <;> simp only [Oper.upon] at hh ⊢ <;> exact hh
/-- A loud one: by the laws of the walk in sequence. -/
theorem h_seq {o : Oper} {a : Act} (hi : opAt L i = some o) (h : wpList P L.toArray (Exit.then (fun a' w' => S w' ∧ wpH P L.toArray S Q rest a' w') Q) [o] a w) (hS : S w) : wpH P L.toArray S Q ((i, false) :: rest) a w := by
  unfold wpH
  simp only [opAt_spec hi, Bool.false_eq_true, if_false]
  unfold wpList at h
  split
  · rename_i hw
    rw [if_pos hw] at h
    rcases h with h | h
    · exact .inl (wp_monoQ (fun a' w' h' => h') h)
    · exact .inr h
  · rename_i hw
    rw [if_neg hw] at h
    exact h.2
theorem h_nil {a : Act} (h : Q .normal a w) : wpH P L.toArray S Q [] a w := h
end

/-- The order by program: eager ones (by kind) first, else the only one that is ready. -/
def eagerKind : Op → Bool
  | .move _ | .assign _ | .pick .. | .load .. | .nilCheck _ | .binOp .. | .unOp .. | .fieldAddr .. | .field .. | .indexAddr .. | .index .. | .extract .. | .slice .. | .makeInterface .. | .build .. | .convert .. => true
  | .call c => match c.callee with
    | .builtin .len => true
    | _ => false
  | _ => false
def findOrd (ops : Array Oper) : Nat → Array Bool → List (Nat × Bool) → Option (List (Nat × Bool))
  | 0, _, acc => some acc.reverse
  | fuel + 1, listed, acc =>
    let rs := Region.ready .any ops listed
    match rs.find? (fun i => ((ops[i]?).map (fun o => eagerKind o.op)).getD false && Region.free .any ops listed i) with
    | some i => findOrd ops fuel (listed.setIfInBounds i true) ((i, true) :: acc)
    | none => match rs with
      | [i] => findOrd ops fuel (listed.setIfInBounds i true) ((i, false) :: acc)
      | _ => none
end Go.Proofs.Core
