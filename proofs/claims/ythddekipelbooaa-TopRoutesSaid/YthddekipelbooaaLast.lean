/- Drawn regions whose last operation (a store, say) waits for all the others: the condition S need not hold behind it. No program in sight. -/
import Derived.Test.YthddekipelbooaaMarks
namespace Go.Proofs.Core
open Go Go.RowKit
variable {ds : List Deferred}
set_option linter.unusedVariables false
set_option linter.unusedSimpArgs false
section
variable {P : Program} {ops : Array Oper} {Q : Exit → Act → World → Prop} {S : World → Prop} {md : Region.Mode} {lates : List Nat} {last : Nat}

def wpAnyL (P : Program) (md : Region.Mode) (ops : Array Oper) (Q : Exit → Act → World → Prop) (S : World → Prop) (lates : List Nat) : Nat → Array Bool → Act → World → Prop
  | 0, listed, a, w => Region.ready md ops listed = [] ∧ Q .normal a w
  | fuel + 1, listed, a, w =>
    (Region.ready md ops listed = [] → Q .normal a w) ∧
    ∀ i ∈ Region.ready md ops listed, wpOp P ops Q i (fun a' w' => (¬ i ∈ lates → S w') ∧ wpAnyL P md ops Q S lates fuel (listed.setIfInBounds i true) a' w') a w
theorem wpAny_of_last : ∀ (fuel : Nat) (listed : Array Bool) (a : Act) (w : World), wpAnyL P md ops Q S lates fuel listed a w → wpAny P md ops Q fuel listed a w
  | 0, _, _, _, h => h
  | fuel + 1, _, _, _, h => ⟨h.1, fun i hi => wpOp_mono (fun a' w' h' => wpAny_of_last fuel _ a' w' h'.2) (h.2 i hi)⟩

/-- Those that number k waits for, and those that they wait for. -/
inductive Bef (ops : Array Oper) (md : Region.Mode) (k : Nat) : Nat → Prop
  | one {o : Oper} {e : Edge} (h : ops[k]? = some o) (he : e ∈ o.after) (hb : Region.binds md e = true) : Bef ops md k e.on
  | more {m : Nat} {o : Oper} {e : Edge} (h0 : Bef ops md k m) (h : ops[m]? = some o) (he : e ∈ o.after) (hb : Region.binds md e = true) : Bef ops md k e.on
def Closed (ops : Array Oper) (md : Region.Mode) (listed : Array Bool) : Prop :=
  ∀ k o, ops[k]? = some o → listed.getD k false = true → ∀ e ∈ o.after, Region.binds md e = true → listed.getD e.on false = true
theorem Closed.bef {listed : Array Bool} {k i : Nat} {o : Oper} (hc : Closed ops md listed) (ho : ops[k]? = some o) (h : ∀ e ∈ o.after, Region.binds md e = true → listed.getD e.on false = true) (hb : Bef ops md k i) : listed.getD i false = true := by
  induction hb with
  | one h1 he hb' => rw [ho] at h1; cases h1; exact h _ he hb'
  | more h0 h1 he hb' ih => exact hc _ _ h1 ih _ he hb'
theorem getD_tf {listed : Array Bool} {i : Nat} (h : listed.getD i false = true) (h' : listed.getD i true = false) : False := by
  rcases Nat.lt_or_ge i listed.size with h1 | h1
  · simp [h1] at h h'; rw [h] at h'; cases h'
  · simp [Array.getElem?_eq_none h1] at h
theorem Closed.set {listed : Array Bool} {i : Nat} (hc : Closed ops md listed) (hr : i ∈ Region.ready md ops listed) : Closed ops md (listed.setIfInBounds i true) := by
  intro k o ho hk e he hb
  by_cases hki : k = i
  · subst hki
    obtain ⟨_, o', ho', hall⟩ := mem_ready.1 hr
    rw [ho] at ho'; cases ho'
    exact getD_set_true (hall e he hb)
  · rw [getD_set_ne false (Ne.symm hki)] at hk
    exact getD_set_true (hc k o ho hk e he hb)
theorem Closed.zero (n : Nat) : Closed ops md (Array.replicate n false) := by
  intro k o _ hk
  exfalso
  rcases Nat.lt_or_ge k n with h | h
  · simp [h] at hk
  · simp [h] at hk

theorem wpAnyL_first {i : Nat} {oi : Oper} {v : Value} (hi : ops[i]? = some oi) (hsel : ∀ (j : Nat) (o : Oper) cs b, ops[j]? = some o → o.op ≠ .select cs b)
    (hQ : ∀ c a w, Q (.panic c) (a.put oi.dst v) w → Q (.panic c) a w) (hbef : ∀ k ∈ lates, Bef ops md k i) (hne : ¬ i ∈ lates) :
    ∀ (fuel : Nat) (listed : Array Bool) (a : Act) (w : World),
      (∀ j oj, ops[j]? = some oj → j ≠ i → listed.getD j true = false → (∀ e ∈ oj.after, Region.binds md e = true → e.on ≠ i) → oi.apart ops oj = true) →
      Closed ops md listed → i ∈ Region.ready md ops listed → YieldsIf P ops S oi v a → S w →
      wpAnyL P md ops Q S lates fuel (listed.setIfInBounds i true) (a.put oi.dst v) w → wpAnyL P md ops Q S lates (fuel + 1) listed a w := by
  intro fuel
  induction fuel with
  | zero =>
    intro listed a w _ hc hr hy hS H
    refine ⟨fun h => (by rw [h] at hr; cases hr), fun j hj => ?_⟩
    by_cases hji : j = i
    · subst hji; exact hy.wpOp hi hS ⟨fun _ => hS, H⟩
    · have := ready_mono hj hji
      rw [H.1] at this
      cases this
  | succ fuel ih =>
    intro listed a w hfree hc hr hy hS H
    refine ⟨fun h => (by rw [h] at hr; cases hr), fun j hj => ?_⟩
    by_cases hji : j = i
    · subst hji; exact hy.wpOp hi hS ⟨fun _ => hS, H⟩
    · have h1 := H.2 j (ready_mono hj hji)
      obtain ⟨hjun, oj, hoj, hall⟩ := mem_ready.1 hj
      by_cases hjl : j ∈ lates
      · exact (getD_tf (hc.bef hoj hall (hbef j hjl)) (mem_ready.1 hr).1).elim
      have hnot : ∀ e ∈ oj.after, Region.binds md e = true → e.on ≠ i := fun e he hb heq => by
        have h1 := hall e he hb
        have h0 := (mem_ready.1 hr).1
        rw [heq] at h1
        exact getD_tf h1 h0
      have h2 := wpOp_putIf hoj (hfree j oj hoj hji hjun hnot) (fun cs b => hsel i oi cs b hi) (fun cs b => hsel j oj cs b hoj) hQ hy h1
      have hfree' : ∀ k ok, ops[k]? = some ok → k ≠ i → (listed.setIfInBounds j true).getD k true = false →
          (∀ e ∈ ok.after, Region.binds md e = true → e.on ≠ i) → oi.apart ops ok = true := fun k ok hk hki hun hno => by
        refine hfree k ok hk hki ?_ hno
        by_cases hjk : j = k
        · subst hjk; exact hjun
        · rw [getD_set_ne true hjk] at hun; exact hun
      refine wpOp_mono (fun a' w' h3 => ⟨h3.2.1, ih (listed.setIfInBounds j true) a' w' hfree' (hc.set hj) (ready_mono hr (Ne.symm hji)) h3.1 (h3.2.1 hjl) ?_⟩) h2
      rw [Array.setIfInBounds_comm _ _ hji]
      exact h3.2.2

/-- The numbers that number k waits for. -/
def aftOf (ops : Array Oper) (md : Region.Mode) (k : Nat) : List Nat := match ops[k]? with
  | none => []
  | some o => (o.after.toList.filter (Region.binds md)).map (·.on)
def befList (ops : Array Oper) (md : Region.Mode) : Nat → List Nat → List Nat
  | 0, acc => acc
  | k + 1, acc => befList ops md k (if acc.contains k then (aftOf ops md k).foldl (fun a x => if a.contains x then a else x :: a) acc else acc)
theorem foldl_mem {l acc : List Nat} {x : Nat} (h : x ∈ l.foldl (fun a x => if a.contains x then a else x :: a) acc) : x ∈ acc ∨ x ∈ l := by
  induction l generalizing acc with
  | nil => exact .inl h
  | cons y l ih =>
    rw [List.foldl_cons] at h
    rcases ih h with h | h
    · split at h
      · exact .inl h
      · rcases List.mem_cons.1 h with h | h
        · subst h; exact .inr (List.mem_cons_self ..)
        · exact .inl h
    · exact .inr (List.mem_cons_of_mem _ h)
theorem aftOf_spec {k x : Nat} (h : x ∈ aftOf ops md k) : ∃ o e, ops[k]? = some o ∧ e ∈ o.after ∧ Region.binds md e = true ∧ e.on = x := by
  unfold aftOf at h
  split at h
  · cases h
  · rename_i o ho
    obtain ⟨e, he, hx⟩ := List.mem_map.1 h
    obtain ⟨h1, h2⟩ := List.mem_filter.1 he
    exact ⟨o, e, ho, Array.mem_toList_iff.1 h1, h2, hx⟩
theorem befList_spec {n : Nat} : ∀ {acc : List Nat}, (∀ x ∈ acc, Bef ops md last x) → ∀ x ∈ befList ops md n acc, Bef ops md last x := by
  induction n with
  | zero => intro acc h; exact h
  | succ k ih =>
    intro acc h
    unfold befList
    refine ih ?_
    split
    · rename_i hk
      intro x hx
      rcases foldl_mem hx with hx | hx
      · exact h x hx
      · obtain ⟨o, e, ho, he, hb, rfl⟩ := aftOf_spec hx
        exact .more (h k (by simpa using hk)) ho he hb
    · exact h
def befs (ops : Array Oper) (last : Nat) : List Nat := befList ops .any last (aftOf ops .any last)
theorem befs_spec {x : Nat} (h : x ∈ befs ops last) : Bef ops .any last x := by
  refine befList_spec ?_ x h
  intro y hy
  obtain ⟨o, e, ho, he, hb, rfl⟩ := aftOf_spec hy
  exact .one ho he hb

def tailOk (ops : Array Oper) : List Nat → Array Bool → Bool
  | [], listed => (Region.ready .any ops listed).isEmpty
  | k :: r, listed => Region.ready .any ops listed == [k] && tailOk ops r (listed.setIfInBounds k true)
def okOrdL (ops : Array Oper) (lates : List Nat) : List (Nat × Bool) → Array Bool → Bool
  | [], listed => tailOk ops lates listed
  | (i, eager) :: rest, listed =>
    (if eager then (Region.ready .any ops listed).contains i && Region.free .any ops listed i && lates.all (fun k => (befs ops k).contains i) else Region.ready .any ops listed == [i]) && !(lates.contains i) && okOrdL ops lates rest (listed.setIfInBounds i true)

theorem tail_wp : ∀ (ks : List Nat) (tl : List Oper) (listed : Array Bool) (a : Act) (w : World), ks.map (fun k => ops[k]?) = tl.map some → (∀ k ∈ ks, k ∈ lates) → tailOk ops ks listed = true → wpList P ops Q tl a w → wpAnyL P .any ops Q S lates ks.length listed a w
  | [], [], listed, a, w, _, _, hB, h => ⟨by simpa [tailOk] using hB, h⟩
  | [], _ :: _, _, _, _, he, _, _, _ => by simp at he
  | _ :: _, [], _, _, _, he, _, _, _ => by simp at he
  | k :: ks, o :: tl, listed, a, w, he, hin, hB, h => by
    simp only [tailOk, Bool.and_eq_true, beq_iff_eq] at hB
    simp only [List.map_cons, List.cons.injEq] at he
    have hk := hin k (.head _)
    refine ⟨fun h0 => (by rw [hB.1] at h0; cases h0), fun i hi => ?_⟩
    rw [hB.1] at hi
    obtain rfl : i = k := by simpa using hi
    unfold wpList at h
    unfold wpOp
    simp only [he.1] at h ⊢
    have ih := fun a' w' => tail_wp ks tl (listed.setIfInBounds i true) a' w' he.2 (fun x hx => hin x (.tail _ hx)) hB.2
    split
    · rename_i hw
      rw [if_pos hw] at h
      rcases h with h | h
      · exact .inl (Oper.wp_mono (fun a' w' h1 => ⟨fun hh => (hh hk).elim, ih a' w' h1⟩) h)
      · exact .inr h
    · rename_i hw
      rw [if_neg hw] at h
      exact ⟨fun hh => (hh hk).elim, ih _ _ h⟩

theorem wpAnyL_of_wpH (hs : Region.noSelect ops = true) (hQ : ∀ c a w (d : Option Tmp) v, Q (.panic c) (a.put d v) w → Q (.panic c) a w) {tl : List Oper} (hol : lates.map (fun k => ops[k]?) = tl.map some) :
    ∀ (l : List (Nat × Bool)) (listed : Array Bool) (a : Act) (w : World), okOrdL ops lates l listed = true → Closed ops .any listed → S w →
      wpH P ops S (Exit.then (fun a' w' => wpList P ops Q tl a' w') Q) l a w → wpAnyL P .any ops Q S lates (l.length + lates.length) listed a w
  | [], listed, a, w, hB, hc, _, h => by
    simp only [okOrdL] at hB
    rw [List.length_nil, Nat.zero_add]
    exact tail_wp lates tl listed a w hol (fun k hk => hk) hB h
  | (i, true) :: rest, listed, a, w, hB, hc, hS, h => by
    simp only [okOrdL, if_true, Bool.and_eq_true] at hB
    obtain ⟨⟨⟨⟨hr, hf⟩, hb⟩, hne⟩, hB'⟩ := hB
    have hne' : ¬ i ∈ lates := by intro e; simp [e] at hne
    have hb' : ∀ k ∈ lates, Bef ops .any k i := fun k hk => befs_spec (ops := ops) (last := k) (x := i) (by simpa using List.all_eq_true.1 hb k hk)
    have hr' : i ∈ Region.ready .any ops listed := by simpa using hr
    rw [show (((i, true) :: rest).length + lates.length) = (rest.length + lates.length) + 1 by rw [List.length_cons]; omega]
    unfold wpH at h
    cases ho : ops[i]? with
    | none => rw [ho] at h; exact h.elim
    | some o =>
      simp only [ho, if_true] at h
      by_cases hw : Region.wanted o (yielded ops a.tmps) = true
      · simp only [hw, if_true] at h
        obtain ⟨v, hv, hn⟩ := h
        exact wpAnyL_first ho (Region.noSelect_spec hs) (fun c a w => hQ c a w _ _) hb' hne' _ _ _ _ (Region.free_spec ho hf) hc hr' (.inl ⟨hw, hv⟩) hS (wpAnyL_of_wpH hs hQ hol rest _ _ _ hB' (hc.set hr') hS hn)
      · have hw' : Region.wanted o (yielded ops a.tmps) = false := by simpa using hw
        simp only [hw', Bool.false_eq_true, if_false] at h
        exact wpAnyL_first ho (Region.noSelect_spec hs) (fun c a w => hQ c a w _ _) hb' hne' _ _ _ _ (Region.free_spec ho hf) hc hr' (.inr ⟨hw', rfl⟩) hS (wpAnyL_of_wpH hs hQ hol rest _ _ _ hB' (hc.set hr') hS h)
  | (i, false) :: rest, listed, a, w, hB, hc, hS, h => by
    simp only [okOrdL, Bool.false_eq_true, if_false, Bool.and_eq_true, beq_iff_eq] at hB
    obtain ⟨⟨hr, hne⟩, hB'⟩ := hB
    have hr' : i ∈ Region.ready .any ops listed := by rw [hr]; exact List.mem_singleton.2 rfl
    rw [show (((i, false) :: rest).length + lates.length) = (rest.length + lates.length) + 1 by rw [List.length_cons]; omega]
    refine ⟨fun h0 => (by rw [h0] at hr; cases hr), ?_⟩
    intro j hj
    obtain rfl : j = i := by rw [hr] at hj; simpa using hj
    unfold wpH at h
    unfold wpOp
    cases ho : ops[j]? with
    | none => rw [ho] at h; exact h.elim
    | some o =>
      simp only [ho, Bool.false_eq_true, if_false] at h ⊢
      split
      · rename_i hw
        simp only [hw, if_true] at h
        rcases h with h | h
        · exact .inl (wp_monoQ (fun a' w' ⟨h1, h2⟩ => ⟨fun _ => h1, wpAnyL_of_wpH hs hQ hol rest _ _ _ hB' (hc.set hr') h1 h2⟩) h)
        · exact .inr h
      · rename_i hw
        simp only [hw, Bool.false_eq_true, if_false] at h
        exact ⟨fun _ => hS, wpAnyL_of_wpH hs hQ hol rest _ _ _ hB' (hc.set hr') hS h⟩

variable {n : Nat} {l : List (Nat × Bool × Value)} {σ : Nat → Value} {w : World} {L : List Oper}
theorem then_wpl {ops : Array Oper} {tl : List Oper} {a : Act} (h : wpList P ops Q tl a w) : Exit.then (fun a' w' => wpList P ops Q tl a' w') Q .normal a w := h
theorem opAt_map {ks : List Nat} {tl : List Oper} (h : ks.map (opAt L) = tl.map some) : ks.map (fun k => L.toArray[k]?) = tl.map some := by
  rw [← h]
  apply List.map_congr_left
  intro k hk
  obtain ⟨o, ho⟩ : ∃ o, opAt L k = some o := by
    have h1 : opAt L k ∈ tl.map some := h ▸ List.mem_map_of_mem hk
    obtain ⟨o, _, e⟩ := List.mem_map.1 h1
    exact ⟨o, e.symm⟩
  rw [ho]; exact opAt_spec ho
/-- The last operations apart: S holds up to them. -/
theorem region_hl {id : Nat} {a : Act} {tl : List Oper} (S : World → Prop) (lates : List Nat) (hol : lates.map (opAt L) = tl.map some) (ord : List (Nat × Bool)) (hm : P.follows .mixedOrders = true) (hs : Region.noSelect L.toArray = true) (hl : Nat.beq (ord.length + lates.length) L.length = true)
    (hB : okOrdL L.toArray lates ord (Array.replicate (ord.length + lates.length) false) = true) (hQ : PanicOk Q) (h : ∀ w', Ext w w' → S w' ∧ wpH P L.toArray S (Exit.then (fun a' w'' => wpList P L.toArray Q tl a' w'') Q) ord a w') : (Code.region id L.toArray true).wp P Q a w := by
  have hl' : ord.length + lates.length = L.toArray.size := by rw [List.size_toArray]; exact Nat.eq_of_beq_eq_true hl
  have h' := h _ (ext_drew w)
  refine wp_region_any hm (wpAny_of_last (S := S) (lates := lates) _ _ _ _ ?_)
  rw [← hl']
  exact wpAnyL_of_wpH hs hQ (opAt_map hol) ord _ a _ hB (.zero _) h'.1 h'.2
end
/-- One result that is a struct in a cell. -/
theorem resC {P : Program} {fn : Func} {R : Ending → World → Prop} {n : Nat} {l : List (Nat × Bool × Value)} {σ : Nat → Value} {w : World} {t : Nat} {ty : TypeId} {b o size : Nat} {cs : List Value} {td : TypeDesc}
    (hr : fn.results = #[.cell t ty]) (ht : P.underlying ty = some td) (hag : (match td with | .struct _ | .array _ _ => true | _ => false) = true) (hi' : (P.info? ty).map (fun i => i.size) = some size) (hlen : cs.length = size)
    (hv : ev n l (.tmp t) = some (true, .pointer (some ⟨b, o, none⟩))) (hc : ∀ j v, cs[j]? = some v → w.cell? ⟨b, o + j, none⟩ = some v)
    (h : R (.returned (.agg cs.toArray)) w) : bodyPost P fn R .ret (act (ds := []) n l σ) w := by
  refine bodyPost_ret (v := .agg cs.toArray) ?_ rfl h
  have e1 := eval_ev (ds := []) (σ := σ) (x := .tmp t) hv rfl
  simp only [Act.eval] at e1
  have h1 : (asAddr (.pointer (some ⟨b, o, none⟩))).run P w = .ok ⟨b, o, none⟩ w := rfl
  have h2 := run_loadN (P := P) ht hag hi' hlen hc
  have e2 : (act (ds := []) n l σ).tmps[t]?.getD undef = .pointer (some ⟨b, o, none⟩) := by simpa using e1
  simp [results, hr, e2, asAddr, h2]
end Go.Proofs.Core
