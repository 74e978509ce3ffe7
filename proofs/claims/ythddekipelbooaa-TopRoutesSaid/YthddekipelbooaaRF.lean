/- The calculus, more: ranges over a function, and the rounds of their bodies. No program in sight. -/
import Derived.Test.YthddekipelbooaaQue
import Derived.RangeFuncNested
import Derived.RangeFuncBound
import Derived.RangeFuncCalls
import Derived.RangeFuncLeaves
import Derived.TacticsIn
import Derived.OrdersIn
namespace Go.Proofs.Core
open Go Go.RowKit Go.Deep Go.WideShapes
variable {ds : List Deferred}
set_option linter.unusedVariables false
set_option linter.unusedSimpArgs false
set_option linter.unusedSectionVars false
section
variable {P : Program} {lp m : Nat} {Q : Exit → Act → World → Prop} {a : Act} {w : World}
def noDefer (o : Oper) : Bool := match o.op with | .defer _ => false | _ => true
theorem noDefer_spec {o : Oper} (h : noDefer o = true) : ∀ c, o.op ≠ .defer c := fun c e => by unfold noDefer at h; rw [e] at h; cases h
theorem oper_in {o : Oper} {K : Act → World → Prop} (hd : noDefer o = true) (h : o.wp P a w K Q) : o.wpIn (Fence.wide.inRound lp) m P a w K Q := by
  refine ⟨fun f _ => trivial, ?_⟩
  rw [Oper.semAt_eq _ _ _ (noDefer_spec hd)]
  unfold Oper.wp at h
  revert h
  cases (execOp a.eval o).run P w with
  | ok x w' =>
    cases x with
    | enter f args => exact fun h => ⟨(fun h0 => by cases h0), CallsIn.inRound lp (callsIn_wide.2 h)⟩
    | row r args => exact fun h => ⟨(fun h0 => by cases h0), fun c cs _ => let ⟨v, w', r, s⟩ := h c cs; ⟨v, w', r, stepsIn_wide.2 s⟩⟩
    | value v => exact id
    | skip => exact id
    | defer d => exact id
    | _ => exact fun h => h.elim
  | halt c w' =>
    cases c with
    | panic v => exact id
    | _ => exact fun h => h.elim
theorem list_in {ops : Array Oper} (hL : ¬ LetsOut Q) : ∀ (l : List Oper) (a : Act) (w : World), l.all noDefer = true → wpList P ops Q l a w → wpListIn (Fence.wide.inRound lp) m P ops Q l a w
  | [], a, w, _, h => h
  | o :: rest, a, w, hd, h => by
    rw [List.all_cons, Bool.and_eq_true] at hd
    unfold wpList at h
    unfold wpListIn
    split
    · rename_i hw
      rw [if_pos hw] at h
      rcases h with h | h
      · exact oper_in hd.1 (Oper.wp_mono (fun a' w' h' => list_in hL rest a' w' hd.2 h') h)
      · exact (hL h.2).elim
    · rename_i hw
      rw [if_neg hw] at h
      exact ⟨fun f _ => trivial, list_in hL rest _ _ hd.2 h⟩
theorem rin_lit {id : Nat} {l : List Oper} (hL : ¬ LetsOut Q) (hd : l.all noDefer = true) (h : wpList P l.toArray Q l a w) : (Code.region id l.toArray false).wpIn (Fence.wide.inRound lp) m P Q a w :=
  wpIn_region_lit (list_in hL l a w hd h)
theorem op_in {ops : Array Oper} {K : Act → World → Prop} {i : Nat} (hL : ¬ LetsOut Q) (hd : ops.toList.all noDefer = true) (h : wpOp P ops Q i K a w) : wpOpIn (Fence.wide.inRound lp) m P ops Q i K a w := by
  unfold wpOp at h
  unfold wpOpIn
  cases ho : ops[i]? with
  | none => rw [ho] at h; exact h
  | some o =>
    rw [ho] at h
    simp only at h ⊢
    have hdo : noDefer o = true := List.all_eq_true.1 hd o (List.mem_of_getElem? (by simpa using ho))
    split
    · rename_i hw
      rw [if_pos hw] at h
      rcases h with h | h
      · exact oper_in hdo h
      · exact (hL h.2).elim
    · rename_i hw
      rw [if_neg hw] at h
      exact ⟨fun f _ => trivial, h⟩
theorem any_in {ops : Array Oper} (hL : ¬ LetsOut Q) (hd : ops.toList.all noDefer = true) : ∀ (fuel : Nat) (listed : Array Bool) (a : Act) (w : World), wpAny P .any ops Q fuel listed a w → wpAnyIn (Fence.wide.inRound lp) m P .any ops Q fuel listed a w
  | 0, _, _, _, h => h
  | fuel + 1, _, _, _, h => ⟨h.1, fun i hi => op_in hL hd (wpOp_mono (fun a' w' h' => any_in hL hd fuel _ a' w' h') (h.2 i hi))⟩
theorem rin_h {L : List Oper} {id : Nat} (S : World → Prop) (ord : List (Nat × Bool)) (hm : P.follows .mixedOrders = true) (hs : Region.noSelect L.toArray = true) (hl : Nat.beq ord.length L.length = true)
    (hB : okOrd L.toArray ord (Array.replicate ord.length false) = true) (hQ : PanicOk Q) (hL : ¬ LetsOut Q) (hd : L.all noDefer = true) (h : ∀ w', Ext w w' → S w' ∧ wpH P L.toArray S Q ord a w') : (Code.region id L.toArray true).wpIn (Fence.wide.inRound lp) m P Q a w := by
  have hl' : ord.length = L.toArray.size := by rw [List.size_toArray]; exact Nat.eq_of_beq_eq_true hl
  have h' := h _ (ext_drew w)
  exact wpIn_region_any hm (any_in hL hd _ _ _ _ (wpAny_of_held _ _ _ _ (by rw [← hl']; exact wpAnyH_of_wpH hs hQ ord _ a _ hB h'.1 h'.2)))
end

/-! ### Yield -/
section
variable {P : Program} {m n lp : Nat} {l : List (Nat × Bool × Value)} {σ : Nat → Value} {ops : Array Oper} {Q : Exit → Act → World → Prop} {rest : List Oper} {w : World} {d : Tmp} {op : Op} {ty : TypeId} {pos : String} {after : Array Edge}
theorem si_look {v : Value} (h : Look P (fun w' => w = w') n l σ ⟨some d, op, ty, pos, after, none⟩ v) (next : wpListIn Fence.wide m P ops Q rest (act (ds := ds) n ((d, true, v) :: l) σ) w) :
    wpListIn Fence.wide m P ops Q (⟨some d, op, ty, pos, after, none⟩ :: rest) (act (ds := ds) n l σ) w := by
  refine wpListIn_plain rfl fun K hK => ⟨fun f _ => trivial, ?_⟩
  show Oper.uponIn _ _ _ _ _ _ _ ((execOp (act (ds := ds) n l σ).eval ⟨some d, op, ty, pos, after, none⟩).run P w)
  rw [h.at_ w rfl]
  refine hK _ _ ?_
  rw [put_act']; exact next
theorem si_yield {x : Operand} {xs : List Operand} {ts : Array TypeId} {vs : List Value} {R : Ending → World → Prop} (hx : ev n l x = some (true, .func (.yield lp) #[] #[])) (ha : Evs n l xs vs)
    (h : YieldAt Fence.wide (m - 1) P lp vs.toArray w R) (next : ∀ e w', R e w' → ∃ v, e = .returned v ∧ wpListIn Fence.wide m P ops Q rest (act (ds := ds) n ((d, true, v) :: l) σ) w') :
    wpListIn Fence.wide m P ops Q (⟨some d, .call { callee := .value x, args := xs.toArray, argTypes := ts }, ty, pos, after, none⟩ :: rest) (act (ds := ds) n l σ) w := by
  obtain ⟨fn, tmps, assign, body, hy, hR⟩ := h
  refine wpListIn_plain rfl fun K hK => ⟨fun f _ => trivial, ?_⟩
  show Oper.uponIn _ _ _ _ _ _ _ ((execOp (act (ds := ds) n l σ).eval ⟨some d, .call { callee := .value x, args := xs.toArray, argTypes := ts }, ty, pos, after, none⟩).run P w)
  have hr : (execOp (act (ds := ds) n l σ).eval ⟨some d, .call { callee := .value x, args := xs.toArray, argTypes := ts }, ty, pos, after, none⟩).run P w = .ok (.round lp fn tmps assign body) w := by
    simp only [execOp, resolve, Deferred.ofValue, eval_ev hx rfl, Sem.run_bind, Sem.run_pure, Result.andThen_ok, invoke]
    have e : (#[] ++ (xs.toArray).map (act (ds := ds) n l σ).eval) = vs.toArray := by simp [ha.map]
    rw [e]; exact hy
  rw [hr]
  refine ⟨(fun h0 => by cases h0), hR.mono fun e w' hR' => ?_⟩
  obtain ⟨v, rfl, hn⟩ := next e w' hR'
  refine hK _ _ ?_
  rw [put_act']; exact hn
end

/-! ### A range over a function whose body writes one map -/
section
variable {P : Program} {κ : Type} [DecidableEq κ] {kv : κ → Value} {w : World}
/-- What a round keeps: all old blocks but the map. -/
def KpM (n0 mb : Nat) (A B : World) : Prop := A.heap.size ≤ B.heap.size ∧ ∀ k, k < n0 → k ≠ mb → B.heap[k]? = A.heap[k]?
theorem KpM.trans {n0 mb : Nat} {A B C : World} (h : KpM n0 mb A B) (k : KpM n0 mb B C) : KpM n0 mb A C := ⟨Nat.le_trans h.1 k.1, fun i hi hn => (k.2 i hi hn).trans (h.2 i hi hn)⟩
theorem KpM.of_mut {n0 mb : Nat} {A B : World} (h : Mut mb A B) (hn : n0 ≤ A.heap.size) : KpM n0 mb A B := ⟨h.size, fun k hk hne => h.block k (by omega) hne⟩
theorem mut_grown {mb : Nat} {A B C : World} {row : Option Nat} (h : Mut mb A B) (hg : B.grownBy C row) (hr : ∀ r, row = some r → A.heap.size ≤ r) : Mut mb A C :=
  ⟨hg.os.trans h.os, hg.tape.trans h.tape, hg.output.trans h.output, Nat.le_trans h.size hg.size, fun k hk hne => (hg.block k (Nat.lt_of_lt_of_le hk h.size) (fun e => by have := hr k e.symm; omega)).trans (h.block k hk hne)⟩
theorem wp_rangeFunc {α : Type} {gx : Operand} {ps : Array Tmp} {assign body : Code} {Q : Exit → Act → World → Prop} {n : Nat} {l : List (Nat × Bool × Value)} {σ : Nat → Value} {gf mb bt : Nat} {lb : Array Value} {encs : α → Array Value} {S Sp : List α → Prop} {N : Nat}
    (hg : ev n l gx = some (true, .func (.func gf) #[] lb)) (he : Enters P gf) (hseq : SeqStopsK Fence.wide 2 P gf lb encs (KpM w.heap.size mb) S Sp N w) (hps : ∀ x, (encs x).size = ps.size)
    (mm : List α → List (κ × Bool)) (h0 : MapB kv w mb (mm [])) (bc : α → List Value) (lx : α → List (Nat × Bool × Value)) (la : α → Nat → List (Nat × Bool × Value))
    (hlx : ∀ x, ({ tmps := (ps.zip (encs x)).foldl (fun t (p, v) => t.setIfInBounds p v) (act (ds := ds) n l σ).tmps, defers := [] } : Act) = act (ds := []) n (lx x) σ)
    (hassign : ∀ (lp : Nat) (x : α) (W : World) (K : Act → World → Prop), (∀ g W', Ext W W' → Blk W' g bt (bc x) → W.heap.size ≤ g → K (act (ds := []) n (la x g) σ) W') → assign.wpIn (Fence.wide.inRound lp) 1 P (Exit.then K (fun _ _ _ => False)) (act (ds := []) n (lx x) σ) W)
    (hbody : ∀ (lp : Nat) (pre : List α) (x : α) (g : Nat) (W : World), Mut mb w W → MapB kv W mb (mm pre) → Blk W g bt (bc x) → mb ≠ g → body.wpIn (Fence.wide.inRound lp) 1 P (fun e _ W' => e = .normal ∧ Mut mb W W' ∧ MapB kv W' mb (mm (pre ++ [x]))) (act (ds := []) n (la x g) σ) W)
    (hdone : ∀ (D : Nat) (xs : List α) (W : World), w.heap.size ≤ D → S xs → Mut mb w W → MapB kv W mb (mm xs) → W.heap[D]? = some (.deferred (some [])) → Q .normal (act (ds := { target := .collected D, args := #[] } :: ds) n l σ) W) :
    (Code.rangeFunc gx ps assign body).wp P Q (act (ds := ds) n l σ) w := by
  have hmb := h0.lt
  refine (wpIn_wide (n := 3)).1 (wpIn_rangeFunc_ownH (F := Fence.wide) (n := 3) (Kp := KpM w.heap.size mb) (S := S) (Sp := Sp) (N := N) (w0 := w) rfl (by omega) (gf := gf) (lb := lb) (eval_ev hg rfl) trivial he hseq (fun h k => h.trans k) ?_ (Below.refl _ _) hps
    (fun pre W => Mut mb w W ∧ MapB kv W mb (mm pre)) (fun _ _ _ => False) ?_ (fun _ _ _ _ _ h _ _ => h) ⟨Mut.rfl' _ _, h0⟩ (fun x a' W => ∃ g, w.heap.size ≤ g ∧ Blk W g bt (bc x) ∧ a' = act (ds := []) n (la x g) σ) ?_ ?_ ?_ ?_ ?_)
  · intro W lw o o' hl _ _ _
    exact ⟨by simp [World.putObj], fun k hk hne => World.putObj_heap_other (by omega)⟩
  · intro pre A B row ⟨h1, h2⟩ hgr hr
    exact ⟨mut_grown h1 hgr (fun r e => (hr r e).1), h2.grown hgr (fun e => by have := (hr mb e).1; omega)⟩
  · intro x a' _ A B row ⟨g, hgs, hB, ha⟩ hgr hr
    refine ⟨g, hgs, hB.grown hgr (fun e => ?_), ha⟩
    obtain ⟨o, ho, hc⟩ := (hr g e).2
    rw [show A.heap[g]? = _ from hB] at ho
    cases ho; cases hc
  · intro lp pre x W K ⟨h1, h2⟩ hK
    rw [hlx x]
    refine hassign lp x W K fun g W' hE hB hgs => hK _ W' ⟨hE.size, fun k o _ hk ho => (hE.block k (Array.getElem?_eq_some_iff.1 hk).1).trans hk⟩ (KpM.of_mut (.of hE) h1.size) ⟨h1.comp hE, h2.ext hE⟩ ⟨g, by have := h1.size; omega, hB, rfl⟩
  · intro lp pre x a' W _ _ ⟨h1, h2⟩ ⟨g, hgs, hB, ha⟩ _
    subst ha
    refine wpIn_mono (hbody lp pre x g W h1 h2 hB (by omega)) ?_
    rintro e a2 W2 ⟨rfl, h3, h4⟩
    exact ⟨⟨h3.size, fun k o hk ho _ => (h3.block k (Array.getElem?_eq_some_iff.1 ho).1 (by omega)).trans ho⟩, KpM.of_mut h3 h1.size, h1.mut h3 rfl, h4⟩
  · intro D xs W hD hS ⟨h1, h2⟩ hK
    exact hdone D xs W hD hS h1 h2 hK
  · intro D c pre W _ _ h
    exact h.elim
/-- .. with two loop variables, the second of which lies in a block of its own. -/
theorem wp_rangeFunc2 {α : Type} {gx : Operand} {p1 p2 s1 s2 : Nat} {assign body : Code} {Q : Exit → Act → World → Prop} {n : Nat} {l : List (Nat × Bool × Value)} {σ : Nat → Value} {gf mb bt : Nat} {lb : Array Value} {v1 : α → Value} {bc : α → List Value} {S Sp : List α → Prop} {N : Nat}
    (hg : ev n l gx = some (true, .func (.func gf) #[] lb)) (he : Enters P gf) (hseq : SeqStopsK Fence.wide 2 P gf lb (fun x => #[v1 x, .agg (bc x).toArray]) (KpM w.heap.size mb) S Sp N w)
    (mm : List α → List (κ × Bool)) (h0 : MapB kv w mb (mm []))
    (hassign : ∀ (lp : Nat) (x : α) (W : World) (K : Act → World → Prop), (∀ g W', Ext W W' → Blk W' g bt (bc x) → W.heap.size ≤ g → K (act (ds := []) n ((s2, true, .pointer (some ⟨g, 0, none⟩)) :: (s1, true, v1 x) :: (p2, true, .agg (bc x).toArray) :: (p1, true, v1 x) :: l) σ) W') → assign.wpIn (Fence.wide.inRound lp) 1 P (Exit.then K (fun _ _ _ => False)) (act (ds := []) n ((p2, true, .agg (bc x).toArray) :: (p1, true, v1 x) :: l) σ) W)
    (hbody : ∀ (lp : Nat) (pre : List α) (x : α) (g : Nat) (W : World), Mut mb w W → MapB kv W mb (mm pre) → Blk W g bt (bc x) → mb ≠ g → body.wpIn (Fence.wide.inRound lp) 1 P (fun e _ W' => e = .normal ∧ Mut mb W W' ∧ MapB kv W' mb (mm (pre ++ [x]))) (act (ds := []) n ((s2, true, .pointer (some ⟨g, 0, none⟩)) :: (s1, true, v1 x) :: (p2, true, .agg (bc x).toArray) :: (p1, true, v1 x) :: l) σ) W)
    (hdone : ∀ (D : Nat) (xs : List α) (W : World), w.heap.size ≤ D → S xs → Mut mb w W → MapB kv W mb (mm xs) → W.heap[D]? = some (.deferred (some [])) → Q .normal (act (ds := { target := .collected D, args := #[] } :: ds) n l σ) W) :
    (Code.rangeFunc gx #[p1, p2] assign body).wp P Q (act (ds := ds) n l σ) w :=
  wp_rangeFunc hg he hseq (fun _ => rfl) mm h0 bc _ _ (fun x => by
    have e1 := put_act' (ds := []) n l σ p1 (v1 x)
    have e2 := put_act' (ds := []) n ((p1, true, v1 x) :: l) σ p2 (.agg (bc x).toArray)
    rw [← e1] at e2
    refine Eq.trans ?_ e2
    have hz : (#[p1, p2].zip #[v1 x, Value.agg (bc x).toArray]) = #[(p1, v1 x), (p2, Value.agg (bc x).toArray)] := by simp
    rw [hz]
    rfl) hassign hbody hdone
end
end Go.Proofs.Core
