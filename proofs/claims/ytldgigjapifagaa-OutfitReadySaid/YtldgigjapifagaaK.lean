/- Chapter 47 (outfit) in plain terms: what the order, the list of those missing and the starts fulfil. No program in sight. -/
import Derived.Test.YtldgigjapifagaaI
namespace Go.Proofs.Ytldgigjapifagaa
open Go Go.RowKit Core
set_option linter.unusedVariables false
set_option linter.unusedSimpArgs false
attribute [local irreducible] wpQuiet wpList wpH wpT Code.wp Calls bodyPost act


/-! ### Places -/
theorem fiG_at {α : Type} (q : α → Bool) : ∀ (l : List α) (k : Int) (i : Nat) (x : α), l[i]? = some x → q x = true → (∀ j y, j < i → l[j]? = some y → q y = false) → fiG q l k = k + (i : Int)
  | [], k, i, x, h, _, _ => by cases h
  | y :: r, k, 0, x, h, hq, _ => by
    have e : y = x := Option.some.inj h
    subst e
    unfold fiG; rw [if_pos hq]; simp
  | y :: r, k, i + 1, x, h, hq, hb => by
    unfold fiG
    have h0 : q y = false := hb 0 y (by omega) rfl
    rw [if_neg (by rw [h0]; decide), fiG_at q r (k + 1) i x h hq (fun j z hj hz => hb (j + 1) z (by omega) hz)]
    push_cast; omega
theorem fiG_spec {α : Type} (q : α → Bool) : ∀ (l : List α) (k : Int), 0 ≤ k → 0 ≤ fiG q l k → ∃ (i : Nat) (x : α), l[i]? = some x ∧ q x = true ∧ fiG q l k = k + (i : Int)
  | [], k, hk, h => by unfold fiG at h; omega
  | y :: r, k, hk, h => by
    unfold fiG at h ⊢
    by_cases hq : q y = true
    · exact ⟨0, y, rfl, hq, by rw [if_pos hq]; simp⟩
    · rw [if_neg hq] at h ⊢
      obtain ⟨i, x, h1, h2, h3⟩ := fiG_spec q r (k + 1) (by omega) h
      exact ⟨i + 1, x, h1, h2, by rw [h3]; push_cast; omega⟩
theorem find_spec {x : ByteArray} {ps : List Pk} (h : 0 ≤ findP x ps) : ∃ (i : Nat) (p : Pk), ps[i]? = some p ∧ p.id = x ∧ findP x ps = (i : Int) := by
  obtain ⟨i, p, h1, h2, h3⟩ := fiG_spec _ ps 0 (by omega) h
  exact ⟨i, p, h1, of_decide_eq_true h2, by unfold findP; rw [h3]; omega⟩
theorem ids_inj {ps : List Pk} {i j : Nat} {p q : Pk} (hn : (idsP ps).Nodup) (hp : ps[i]? = some p) (hq : ps[j]? = some q) (e : p.id = q.id) : i = j := by
  have hi : i < (idsP ps).length := by unfold idsP; rw [List.length_map]; exact (List.getElem?_eq_some_iff.1 hp).1
  refine (List.getElem?_inj hi hn).1 ?_
  unfold idsP
  rw [List.getElem?_map, List.getElem?_map, hp, hq]; simp [e]
theorem find_id {ps : List Pk} {i : Nat} {p : Pk} (hn : (idsP ps).Nodup) (hp : ps[i]? = some p) : findP p.id ps = (i : Int) := by
  unfold findP
  rw [fiG_at (fun q : Pk => decide (q.id = p.id)) ps 0 i p hp (decide_eq_true rfl) (fun j q hj hq => decide_eq_false (fun e => by have := ids_inj hn hq hp e; omega))]
  omega
theorem find_mem {ps : List Pk} {x : ByteArray} (h : x ∈ idsP ps) : 0 ≤ findP x ps := by
  have h1 := fiG_ge (fun p : Pk => decide (p.id = x)) ps 0 (by omega)
  have h2 : (ps.any fun p => decide (p.id = x)) = true := by
    obtain ⟨p, hp, e⟩ := List.mem_map.1 h
    exact List.any_eq_true.2 ⟨p, hp, decide_eq_true e⟩
  rw [h2] at h1
  exact of_decide_eq_true h1

/-! ### The order -/
structure Good (ps : List Pk) (od : List Int) : Prop where
  nod : od.Nodup
  at_ : ∀ (j : Nat) (k : Int), od[j]? = some k → 0 ≤ k ∧ k < (ps.length : Int) ∧ ∀ x ∈ aft ps k, 0 ≤ findP x ps → findP x ps ∈ od.take j
theorem nxtG_free (ps : List Pk) (od : List Int) : ∀ (l : List Pk) (k : Int), 0 ≤ k → 0 ≤ nxtG ps od l k → ∃ (i : Nat) (p : Pk), l[i]? = some p ∧ nxtG ps od l k = k + (i : Int) ∧ freeP ps od p = true
  | [], k, hk, h => by unfold nxtG at h; omega
  | p :: r, k, hk, h => by
    unfold nxtG at h ⊢
    split at h
    · rename_i h1
      rw [if_pos h1]
      exact ⟨0, p, rfl, by simp, h1.2⟩
    · rename_i h1
      rw [if_neg h1]
      obtain ⟨i, q, h2, h3, h4⟩ := nxtG_free ps od r (k + 1) (by omega) h
      exact ⟨i + 1, q, h2, by rw [h3]; push_cast; omega, h4⟩
theorem free_spec {ps : List Pk} {od : List Int} {p : Pk} (h : freeP ps od p = true) {x : ByteArray} (hx : x ∈ p.after) (h0 : 0 ≤ findP x ps) : findP x ps ∈ od := by
  unfold freeP at h
  rw [Bool.not_eq_true', List.any_eq_false] at h
  have h1 := h x hx
  unfold openP at h1
  rw [decide_eq_true h0, Bool.true_and, Bool.not_eq_true', Bool.not_eq_false] at h1
  exact of_decide_eq_true h1
theorem Good.snoc {ps : List Pk} {od : List Int} (h : Good ps od) (h0 : ¬ nextI ps od < 0) : Good ps (od ++ [nextI ps od]) := by
  have hb := (next_bd ps od).resolve_left (by omega)
  obtain ⟨i, p, h1, h2, h3⟩ := nxtG_free ps od ps 0 (by omega) (by unfold nextI at hb; exact hb.1)
  have h2' : nextI ps od = (i : Int) := by unfold nextI; rw [h2]; omega
  refine ⟨?_, ?_⟩
  · rw [List.nodup_append]
    exact ⟨h.nod, by simp, fun a ha b hb' e => hb.2.2 (by rw [← List.mem_singleton.1 hb', ← e]; exact ha)⟩
  · intro j k hk
    by_cases hj : j < od.length
    · rw [List.getElem?_append_left hj] at hk
      rw [List.take_append_of_le_length (by omega)]
      exact h.at_ j k hk
    · rw [List.getElem?_append_right (by omega)] at hk
      have hj2 : j = od.length := by
        have := (List.getElem?_eq_some_iff.1 hk).1
        simp at this; omega
      subst hj2
      simp at hk
      subst hk
      refine ⟨hb.1, hb.2.1, fun x hx hx0 => ?_⟩
      rw [List.take_append_of_le_length (by omega), List.take_length]
      rw [h2', aft_eq h1] at hx
      exact free_spec h3 hx hx0
theorem Good.run {ps : List Pk} : ∀ (f : Nat) (od od' : List Int), Good ps od → ordRun ps f od = some od' → Good ps od'
  | 0, od, od', h, e => by cases e; exact h
  | f + 1, od, od', h, e => by
    unfold ordRun at e
    split at e
    · cases e
    · rename_i h0
      exact Good.run f _ od' (h.snoc h0) e
theorem Good.nil (ps : List Pk) : Good ps [] := ⟨List.nodup_nil, fun j k h => by cases h⟩
theorem oList_good (ps : List Pk) : Good ps (oList ps) := by
  unfold oList
  split
  · exact .nil ps
  · cases hr : ordRun ps ps.length [] with
    | none => exact .nil ps
    | some od => exact Good.run _ _ _ (.nil ps) hr
theorem oList_all {ps : List Pk} (h : oErr ps = 0) {k : Nat} (hk : k < ps.length) : (k : Int) ∈ oList ps := by
  refine Classical.byContradiction fun hn => ?_
  have h1 := nodup_len (n := ps.length) (l := (k : Int) :: oList ps) (List.nodup_cons.2 ⟨hn, (oList_good ps).nod⟩) (fun m hm => by
    rcases List.mem_cons.1 hm with e | e
    · subst e; omega
    · exact oList_bd e)
  rw [List.length_cons, oList_full h] at h1
  omega
theorem mem_take {α : Type} {l : List α} {i : Nat} {x : α} (h : x ∈ l.take i) : ∃ j, j < i ∧ l[j]? = some x := by
  obtain ⟨j, hj⟩ := List.getElem?_of_mem h
  have h1 := (List.getElem?_eq_some_iff.1 hj).1
  rw [List.length_take] at h1
  rw [List.getElem?_take_of_lt (by omega)] at hj
  exact ⟨j, by omega, hj⟩
theorem not_mem_take {l : List Int} {i : Nat} {k : Int} (hn : l.Nodup) (h : l[i]? = some k) : ¬ k ∈ l.take i := fun hm => by
  obtain ⟨j, hj, e⟩ := mem_take hm
  have := (List.getElem?_inj (i := j) (j := i) (List.getElem?_eq_some_iff.1 e).1 hn).1 (by rw [e, h])
  omega
theorem take_sub {α : Type} {l : List α} {i j : Nat} {x : α} (h : x ∈ l.take j) (hij : j ≤ i) : x ∈ l.take i := by
  obtain ⟨m, hm, e⟩ := mem_take h
  exact List.mem_of_getElem? (i := m) (by rw [List.getElem?_take_of_lt (by omega)]; exact e)

/-! ### What is missing -/
theorem mem_misL (dn : List ByteArray) (nd : List Int) (first : Int) (x : ByteArray) : ∀ (ps : List Pk) (k : Nat), x ∈ misL dn nd first ps k → ∃ (i : Nat) (p : Pk), ps[i]? = some p ∧ ((k + i : Nat) : Int) ∈ nd ∧ ((k + i : Nat) : Int) ≠ first ∧ ¬ p.id ∈ dn ∧ p.id = x
  | [], k, h => by cases h
  | p :: r, k, h => by
    unfold misL at h
    rcases List.mem_append.1 h with h | h
    · split at h
      · rename_i h1
        exact ⟨0, p, rfl, h1.1, h1.2.1, h1.2.2, (List.mem_singleton.1 h).symm⟩
      · cases h
    · obtain ⟨i, q, h1, h2, h3, h4, h5⟩ := mem_misL dn nd first x r (k + 1) h
      rw [show k + 1 + i = k + (i + 1) by omega] at h2 h3
      exact ⟨i + 1, q, h1, h2, h3, h4, h5⟩
theorem miss_self {dn : List ByteArray} {ps : List Pk} {i : Nat} {p : Pk} (hn : (idsP ps).Nodup) (hp : ps[i]? = some p) : ¬ p.id ∈ missP dn p.id ps := fun h => by
  obtain ⟨j, q, h1, h2, h3, h4, h5⟩ := mem_misL _ _ _ _ _ _ h
  have := ids_inj hn hp h1 h5.symm
  subst this
  rw [find_id hn hp] at h3
  exact h3 (by omega)
theorem foldA_inv {ps : List Pk} {S C : Int → Prop} (hSC : ∀ m, S m → C m) : ∀ (l : List ByteArray) (s : List Int × List Int), (∀ x ∈ l, 0 ≤ findP x ps → S (findP x ps)) → (∀ k ∈ s.1, C k) → (∀ m ∈ s.2, S m) → (∀ k ∈ (foldA ps l s).1, C k) ∧ ∀ m ∈ (foldA ps l s).2, S m
  | [], s, _, h1, h2 => ⟨h1, h2⟩
  | x :: l, s, h0, h1, h2 => by
    show (∀ k ∈ (foldA ps l (stepA ps s x)).1, C k) ∧ ∀ m ∈ (foldA ps l (stepA ps s x)).2, S m
    refine foldA_inv hSC l _ (fun y hy => h0 y (.tail _ hy)) ?_ ?_
    all_goals
      unfold stepA
      split
      · rename_i hc
        intro k hk
        rcases List.mem_append.1 hk with e | e
        · first | exact h1 k e | exact h2 k e
        · rw [List.mem_singleton.1 e]; first | exact hSC _ (h0 x (.head _) hc.1) | exact h0 x (.head _) hc.1
      · first | exact h1 | exact h2
theorem run_inv {ps : List Pk} {S C : Int → Prop} (hSC : ∀ m, S m → C m) (hC : ∀ m, C m → 0 ≤ m → ∀ x ∈ aft ps m, 0 ≤ findP x ps → S (findP x ps)) : ∀ (f : Nat) (q nd : List Int), (∀ k ∈ q, C k) → (∀ m ∈ nd, S m) → ∀ m ∈ run ps f q nd, S m
  | 0, q, nd, _, h2 => h2
  | f + 1, [], nd, _, h2 => h2
  | f + 1, k :: r, nd, h1, h2 => by
    unfold run
    split
    · exact run_inv hSC hC f r nd (fun x hx => h1 x (.tail _ hx)) h2
    · rename_i hk
      have h3 := foldA_inv hSC (aft ps k) (r, nd) (hC k (h1 k (.head _)) (by omega)) (fun x hx => h1 x (.tail _ hx)) h2
      exact run_inv hSC hC f _ _ h3.1 h3.2

/-! ### Done one after the other -/
def doneP (ps : List Pk) (i : Nat) : List ByteArray := (ordS ps).take i
theorem done_eq (ps : List Pk) (i : Nat) : (ordS ps).take i = ((oList ps).take i).map (idAt ps) := by unfold ordS; rw [← List.map_take]; rfl
theorem ord_at {ps : List Pk} {i : Nat} {x : ByteArray} (h : (ordS ps)[i]? = some x) : ∃ (k : Nat) (p : Pk), (oList ps)[i]? = some (k : Int) ∧ ps[k]? = some p ∧ p.id = x := by
  unfold ordS at h
  rw [List.getElem?_map] at h
  cases hk : (oList ps)[i]? with
  | none => rw [hk] at h; cases h
  | some k0 =>
    rw [hk] at h
    have hb := oList_bd (List.mem_of_getElem? hk)
    obtain ⟨k, rfl⟩ : ∃ k : Nat, k0 = (k : Int) := ⟨k0.toNat, by omega⟩
    obtain ⟨p, hp⟩ := get_lt (show k < ps.length by omega)
    refine ⟨k, p, rfl, hp, ?_⟩
    have := Option.some.inj h
    rw [← this]
    show p.id = (ps.getD (k : Int).toNat pk0).id
    rw [Int.toNat_natCast, getD_of hp]
theorem done_has {ps : List Pk} (hs : soundP ps) {i k : Nat} {p : Pk} (hk : (oList ps)[i]? = some (k : Int)) (hp : ps[k]? = some p) : ∀ x ∈ p.after, x ∈ (ordS ps).take i := by
  intro x hx
  have h0 := find_mem (hs.2 p (mem_get hp) x hx)
  have h1 := ((oList_good ps).at_ i k hk).2.2 x (by rw [aft_eq hp]; exact hx) h0
  obtain ⟨m, q, h2, h3, h4⟩ := find_spec h0
  rw [done_eq]
  rw [h4] at h1
  exact List.mem_map.2 ⟨_, h1, by rw [idAt_eq h2]; exact h3⟩
theorem done_not {ps : List Pk} (hs : soundP ps) {i k : Nat} {p : Pk} (hk : (oList ps)[i]? = some (k : Int)) (hp : ps[k]? = some p) : ¬ p.id ∈ (ordS ps).take i := fun h => by
  rw [done_eq] at h
  obtain ⟨m0, hm, e⟩ := List.mem_map.1 h
  have hb := oList_bd (List.mem_of_mem_take hm)
  obtain ⟨m, rfl⟩ : ∃ m : Nat, m0 = (m : Int) := ⟨m0.toNat, by omega⟩
  obtain ⟨q, hq⟩ := get_lt (show m < ps.length by omega)
  rw [idAt_eq hq] at e
  have := ids_inj hs.1 hq hp e
  subst this
  exact not_mem_take (oList_good ps).nod hk hm
theorem done_ready {ps : List Pk} (hs : soundP ps) {i : Nat} {x : ByteArray} (hx : (ordS ps)[i]? = some x) : readyP ((ordS ps).take i) x ps = 0 := by
  obtain ⟨k, p, hk, hp, rfl⟩ := ord_at hx
  rw [ready_eq (find_id hs.1 hp) hp (done_not hs hk hp), if_neg]
  intro h
  obtain ⟨y, hy, h1⟩ := List.any_eq_true.1 h
  rw [decide_eq_true (done_has hs hk hp y hy)] at h1
  cases h1
theorem done_miss {ps : List Pk} (hs : soundP ps) {i : Nat} {x : ByteArray} (hx : (ordS ps)[i]? = some x) : missP ((ordS ps).take i) x ps = [] := by
  obtain ⟨k, p, hk, hp, rfl⟩ := ord_at hx
  have hg := oList_good ps
  have hnd : ∀ m ∈ ND ps p.id, m ∈ (oList ps).take i := by
    unfold ND
    refine run_inv (S := fun m => m ∈ (oList ps).take i) (C := fun m => m ∈ (oList ps).take i ∨ m = (k : Int)) (fun m h => .inl h) ?_ _ _ _ ?_ (fun m h => by cases h)
    · intro m hm h0 y hy hf
      rcases hm with hm | rfl
      · obtain ⟨j, hj, e⟩ := mem_take hm
        exact take_sub ((hg.at_ j m e).2.2 y hy hf) (by omega)
      · exact (hg.at_ i _ hk).2.2 y hy hf
    · intro m hm
      rw [List.mem_singleton.1 hm, find_id hs.1 hp]
      exact .inr rfl
  refine List.eq_nil_iff_forall_not_mem.2 fun y hy => ?_
  obtain ⟨j, q, h1, h2, h3, h4, h5⟩ := mem_misL _ _ _ _ _ _ hy
  rw [Nat.zero_add] at h2
  refine h4 ?_
  rw [done_eq]
  exact List.mem_map.2 ⟨_, hnd _ h2, idAt_eq h1⟩
theorem left_zero (dn : List ByteArray) (b : ByteArray) : ∀ ps : List Pk, (∀ p ∈ ps, p.id ∈ dn) → leftP dn b ps = 0
  | [], _ => rfl
  | p :: r, h => by
    unfold leftP
    rw [if_neg (fun hc => hc.2 (h p (.head _))), left_zero dn b r (fun q hq => h q (.tail _ hq))]; rfl
theorem pct_full {dn : List ByteArray} {b : ByteArray} {ps : List Pk} (h : leftP dn b ps = 0) : pctP dn b ps = 100 := by
  unfold pctP
  rw [h]
  split
  · rfl
  · rename_i h0
    rw [Int.sub_zero, Int.mul_ediv_cancel _ h0]
theorem ord_ids {ps : List Pk} (h : oErr ps = 0) : ∀ p ∈ ps, p.id ∈ ordS ps := by
  intro p hp
  obtain ⟨i, hi⟩ := List.getElem?_of_mem hp
  have h1 := oList_all h (List.getElem?_eq_some_iff.1 hi).1
  unfold ordS
  exact List.mem_map.2 ⟨_, h1, by rw [Int.toNat_natCast, getD_of hi]⟩
theorem ord_len (ps : List Pk) : (ordS ps).length = (oList ps).length := by unfold ordS; rw [List.length_map]
theorem oErr_cases (ps : List Pk) : oErr ps = 0 ∨ oErr ps = 20 ∨ (oErr ps = 4 ∧ 64 < ps.length) := by
  unfold oErr
  split
  · rename_i h; exact .inr (.inr ⟨rfl, h⟩)
  · split
    · exact .inr (.inl rfl)
    · exact .inl rfl

/-! ### One more is done -/
theorem left_more (dn : List ByteArray) (x b : ByteArray) : ∀ ps : List Pk, leftP (dn ++ [x]) b ps ≤ leftP dn b ps
  | [] => by simp [leftP]
  | p :: r => by
    have ih := left_more dn x b r
    have hb := hrs_bd p
    unfold leftP
    by_cases h : p.block = b ∧ ¬ p.id ∈ dn ++ [x]
    · rw [if_pos h, if_pos ⟨h.1, fun e => h.2 (List.mem_append.2 (.inl e))⟩]; omega
    · rw [if_neg h]; split <;> omega
theorem pct_more (dn : List ByteArray) (x b : ByteArray) (ps : List Pk) : pctP dn b ps ≤ pctP (dn ++ [x]) b ps := by
  have h1 := left_more dn x b ps
  have h2 := all_bd b ps
  unfold pctP
  split
  · omega
  · exact Int.ediv_le_ediv (by omega) (by omega)
theorem pct_le (dn : List ByteArray) (b : ByteArray) (ps : List Pk) : pctP dn b ps ≤ 100 := by
  have h1 := left_bd dn b ps
  have h2 := all_bd b ps
  unfold pctP
  split
  · omega
  · rename_i h0
    exact Int.ediv_le_of_le_mul (by omega) (by omega)
theorem ready_more {dn : List ByteArray} {x y : ByteArray} {ps : List Pk} (h : readyP dn y ps = 0) (hne : y ≠ x) : readyP (dn ++ [x]) y ps = 0 := by
  by_cases h0 : findP y ps < 0
  · unfold readyP at h; rw [if_pos h0] at h; omega
  obtain ⟨i, p, hp, he, hf⟩ := find_spec (show 0 ≤ findP y ps by omega)
  by_cases hn : y ∈ dn
  · unfold readyP at h; rw [if_neg h0, if_pos hn] at h; omega
  rw [ready_eq hf hp hn] at h
  split at h
  · omega
  rename_i ha
  rw [ready_eq hf hp (fun hm => (List.mem_append.1 hm).elim hn (fun e => hne (List.mem_singleton.1 e))), if_neg]
  intro hb
  apply ha
  obtain ⟨z, hz, h1⟩ := List.any_eq_true.1 hb
  refine List.any_eq_true.2 ⟨z, hz, ?_⟩
  rw [Bool.not_eq_true', decide_eq_false_iff_not] at h1 ⊢
  exact fun e => h1 (List.mem_append.2 (.inl e))
def nq (x : ByteArray) (y : ByteArray) : Bool := !decide (y = x)
theorem misL_more (dn : List ByteArray) (x : ByteArray) (nd : List Int) (first : Int) : ∀ (ps : List Pk) (k : Nat), misL (dn ++ [x]) nd first ps k = (misL dn nd first ps k).filter (nq x)
  | [], k => rfl
  | p :: r, k => by
    unfold misL
    rw [List.filter_append, ← misL_more dn x nd first r (k + 1)]
    congr 1
    by_cases h : (k : Int) ∈ nd ∧ (k : Int) ≠ first ∧ ¬ p.id ∈ dn
    · rw [if_pos h]
      by_cases e : p.id = x
      · rw [if_neg (fun hc => hc.2.2 (List.mem_append.2 (.inr (by rw [e]; simp)))), List.filter_cons_of_neg (by simp [nq, e])]; rfl
      · rw [if_pos ⟨h.1, h.2.1, fun hc => (List.mem_append.1 hc).elim h.2.2 (fun e2 => e (List.mem_singleton.1 e2))⟩, List.filter_cons_of_pos (by simp [nq, e])]; rfl
    · rw [if_neg h, if_neg (fun hc => h ⟨hc.1, hc.2.1, fun e => hc.2.2 (List.mem_append.2 (.inl e))⟩)]; rfl
theorem miss_more (dn : List ByteArray) (x id : ByteArray) (ps : List Pk) : missP (dn ++ [x]) id ps = (missP dn id ps).filter (nq x) := misL_more dn x _ _ ps 0

/-! ### Starts -/
theorem getD_set {L : List Int} {i j : Nat} {x : Int} (hi : i < L.length) : (L.set i x).getD j 0 = if i = j then x else L.getD j 0 := by
  rw [List.getD_eq_getElem?_getD, List.getD_eq_getElem?_getD, List.getElem?_set]
  by_cases e : i = j
  · subst e; rw [if_pos rfl, if_pos hi, if_pos rfl]; rfl
  · rw [if_neg e, if_neg e]
/-- The end of a package. -/
def endP (ps : List Pk) (L : List Int) (m : Int) : Int := L.getD m.toNat 0 + hrAt ps m
structure Row (ps : List Pk) (k : Nat) (A : List ByteArray) (L L' : List Int) : Prop where
  len : L'.length = L.length
  oth : ∀ i, i ≠ k → L'.getD i 0 = L.getD i 0
  ge0 : L.getD k 0 ≤ L'.getD k 0
  ge : ∀ x ∈ A, 0 ≤ findP x ps → endP ps L (findP x ps) ≤ L'.getD k 0
  met : L'.getD k 0 = L.getD k 0 ∨ ∃ x ∈ A, 0 ≤ findP x ps ∧ L'.getD k 0 = endP ps L (findP x ps)
theorem end_oth {ps : List Pk} {k : Nat} {L L' : List Int} (h : ∀ i, i ≠ k → L'.getD i 0 = L.getD i 0) {m : Int} (h0 : 0 ≤ m) (hm : m ≠ (k : Int)) : endP ps L' m = endP ps L m := by
  unfold endP
  rw [h m.toNat (by omega)]
theorem row_run (ps : List Pk) (k : Nat) : ∀ (A : List ByteArray) (L : List Int), k < L.length → (∀ x ∈ A, 0 ≤ findP x ps → findP x ps ≠ (k : Int)) → Row ps k A L (A.foldl (stepS ps k) L)
  | [], L, hk, _ => ⟨rfl, fun _ _ => rfl, Int.le_refl _, fun x hx => (by cases hx), .inl rfl⟩
  | x :: A, L, hk, hA => by
    have hx := hA x (.head _)
    by_cases h0 : 0 ≤ findP x ps
    · have ih := row_run ps k A (stepS ps k L x) (by rw [stepS_pos h0, List.length_set]; exact hk) (fun y hy => hA y (.tail _ hy))
      rw [List.foldl_cons]
      generalize A.foldl (stepS ps k) (stepS ps k L x) = L' at ih ⊢
      rw [stepS_pos h0] at ih
      have hsk : (L.set k (max (L.getD k 0) (L.getD (findP x ps).toNat 0 + hrAt ps (findP x ps)))).getD k 0 = max (L.getD k 0) (L.getD (findP x ps).toNat 0 + hrAt ps (findP x ps)) := by rw [getD_set hk, if_pos rfl]
      have hso : ∀ i, i ≠ k → (L.set k (max (L.getD k 0) (L.getD (findP x ps).toNat 0 + hrAt ps (findP x ps)))).getD i 0 = L.getD i 0 := fun i hi => by rw [getD_set hk, if_neg (fun e => hi e.symm)]
      have hge := ih.ge0
      rw [hsk] at hge
      refine ⟨by rw [ih.len, List.length_set], fun i hi => by rw [ih.oth i hi, hso i hi], by omega, ?_, ?_⟩
      · intro y hy hy0
        rcases List.mem_cons.1 hy with rfl | hy
        · unfold endP; omega
        · have := ih.ge y hy hy0
          rw [end_oth hso hy0 (hA y (.tail _ hy) hy0)] at this
          exact this
      · rcases ih.met with e | ⟨y, hy, hy0, e⟩
        · rw [e, hsk]
          rcases Int.le_total (L.getD k 0) (L.getD (findP x ps).toNat 0 + hrAt ps (findP x ps)) with hh | hh
          · right; exact ⟨x, .head _, h0, by unfold endP; omega⟩
          · left; omega
        · right
          rw [end_oth hso hy0 (hA y (.tail _ hy) hy0)] at e
          exact ⟨y, .tail _ hy, hy0, e⟩
    · have ih := row_run ps k A L hk (fun y hy => hA y (.tail _ hy))
      rw [List.foldl_cons, stepS_neg h0]
      refine ⟨ih.len, ih.oth, ih.ge0, ?_, ?_⟩
      · intro y hy hy0
        rcases List.mem_cons.1 hy with rfl | hy
        · exact (h0 hy0).elim
        · exact ih.ge y hy hy0
      · rcases ih.met with e | ⟨y, hy, hy0, e⟩
        · exact .inl e
        · exact .inr ⟨y, .tail _ hy, hy0, e⟩
/-- What the starts fulfil at one package. -/
structure Fit (ps : List Pk) (L : List Int) (k : Int) : Prop where
  ge : ∀ x ∈ aft ps k, 0 ≤ findP x ps → endP ps L (findP x ps) ≤ L.getD k.toNat 0
  met : L.getD k.toNat 0 = 0 ∨ ∃ x ∈ aft ps k, 0 ≤ findP x ps ∧ L.getD k.toNat 0 = endP ps L (findP x ps)
structure StInv (ps : List Pk) (j : Nat) (L : List Int) : Prop where
  len : L.length = ps.length
  nn : ∀ i : Nat, 0 ≤ L.getD i 0
  out : ∀ i : Nat, ¬ (i : Int) ∈ (oList ps).take j → L.getD i 0 = 0
  fit : ∀ k ∈ (oList ps).take j, Fit ps L k
theorem StInv.zero (ps : List Pk) : StInv ps 0 (List.replicate ps.length 0) := by
  have h : ∀ i : Nat, (List.replicate ps.length (0 : Int)).getD i 0 = 0 := fun i => by
    rw [List.getD_eq_getElem?_getD, List.getElem?_replicate]
    split <;> rfl
  exact ⟨by simp, fun i => by rw [h i]; exact Int.le_refl _, fun i _ => h i, fun k hk => by cases hk⟩
theorem StInv.step {ps : List Pk} {j : Nat} {k0 : Int} {L : List Int} (h : StInv ps j L) (hk0 : (oList ps)[j]? = some k0) : StInv ps (j + 1) (rowS ps L k0) := by
  have hg := oList_good ps
  obtain ⟨hb0, hb1, hb2⟩ := hg.at_ j k0 hk0
  have hnt := not_mem_take hg.nod hk0
  obtain ⟨k, rfl⟩ : ∃ k : Nat, k0 = (k : Int) := ⟨k0.toNat, by omega⟩
  have hkl : k < L.length := by rw [h.len]; omega
  have hA : ∀ x ∈ aft ps (k : Int), 0 ≤ findP x ps → findP x ps ≠ (k : Int) := fun x hx h0 e => hnt (e ▸ hb2 x hx h0)
  have hr := row_run ps k (aft ps (k : Int)) L hkl hA
  have e : rowS ps L (k : Int) = (aft ps (k : Int)).foldl (stepS ps k) L := by unfold rowS; rw [Int.toNat_natCast]
  rw [← e] at hr
  generalize rowS ps L (k : Int) = L' at hr ⊢
  have hk0' := h.out k hnt
  refine ⟨by rw [hr.len]; exact h.len, fun i => ?_, fun i hi => ?_, fun m hm => ?_⟩
  · by_cases ei : i = k
    · subst ei; have := hr.ge0; omega
    · rw [hr.oth i ei]; exact h.nn i
  · rw [take_get hk0] at hi
    have ei : i ≠ k := fun e => hi (by rw [e]; simp)
    rw [hr.oth i ei]
    exact h.out i (fun hm => hi (List.mem_append.2 (.inl hm)))
  · rw [take_get hk0] at hm
    rcases List.mem_append.1 hm with hm | hm
    · have hf := h.fit m hm
      obtain ⟨i, hi, ei⟩ := mem_take hm
      obtain ⟨hm0, hm1, hm2⟩ := hg.at_ i m ei
      have hmk : m.toNat ≠ k := fun e2 => hnt (by rw [show (k : Int) = m by omega]; exact hm)
      have hend : ∀ x ∈ aft ps m, 0 ≤ findP x ps → endP ps L' (findP x ps) = endP ps L (findP x ps) := fun x hx h0 =>
        end_oth hr.oth h0 (fun e2 => hnt (by rw [← e2]; exact take_sub (hm2 x hx h0) (by omega)))
      refine ⟨fun x hx h0 => ?_, ?_⟩
      · rw [hend x hx h0, hr.oth _ hmk]; exact hf.ge x hx h0
      · rw [hr.oth _ hmk]
        rcases hf.met with e2 | ⟨x, hx, h0, e2⟩
        · exact .inl e2
        · exact .inr ⟨x, hx, h0, by rw [hend x hx h0]; exact e2⟩
    · rw [List.mem_singleton.1 hm]
      have hend : ∀ x ∈ aft ps (k : Int), 0 ≤ findP x ps → endP ps L' (findP x ps) = endP ps L (findP x ps) := fun x hx h0 => end_oth hr.oth h0 (hA x hx h0)
      refine ⟨fun x hx h0 => ?_, ?_⟩
      · rw [hend x hx h0, Int.toNat_natCast]; exact hr.ge x hx h0
      · rw [Int.toNat_natCast]
        rcases hr.met with e2 | ⟨x, hx, h0, e2⟩
        · left; omega
        · exact .inr ⟨x, hx, h0, by rw [hend x hx h0]; exact e2⟩
theorem starts_inv (ps : List Pk) : ∀ j, j ≤ (oList ps).length → StInv ps j (((oList ps).take j).foldl (rowS ps) (List.replicate ps.length 0))
  | 0, _ => .zero ps
  | j + 1, h => by
    obtain ⟨k, hk⟩ := get_lt (show j < (oList ps).length by omega)
    rw [rows_snoc hk]
    exact (starts_inv ps j (by omega)).step hk
theorem starts_fit {ps : List Pk} (h : oErr ps = 0) : StInv ps ps.length (startsP ps) := by
  have h1 := starts_inv ps (oList ps).length (Nat.le_refl _)
  unfold startsP
  rw [if_neg (fun hh => hh h)]
  rw [List.take_length, oList_full h] at h1
  exact h1
theorem step_bd {ps : List Pk} {k : Nat} {B : Int} {x : ByteArray} {L : List Int} {n : Nat} (h : LOk n B L) (hB : 0 ≤ B) : LOk n (B + 10000) (stepS ps k L x) := by
  by_cases h0 : 0 ≤ findP x ps
  · rw [stepS_pos h0]
    have h1 := h.2 k
    have h2 := h.2 (findP x ps).toNat
    have h3 : 0 ≤ hrAt ps (findP x ps) ∧ hrAt ps (findP x ps) ≤ 10000 := hrs_bd _
    exact h.set (by omega) (by omega) (by omega)
  · rw [stepS_neg h0]; exact h.mono (by omega)
theorem steps_bd {ps : List Pk} {k : Nat} {n : Nat} : ∀ (A : List ByteArray) (B : Int) (L : List Int), LOk n B L → 0 ≤ B → LOk n (B + 10000 * (A.length : Int)) (A.foldl (stepS ps k) L)
  | [], B, L, h, _ => h.mono (by simp)
  | x :: A, B, L, h, hB => by
    have := steps_bd (ps := ps) (k := k) A (B + 10000) _ (step_bd (ps := ps) (k := k) (x := x) h hB) (by omega)
    rw [List.foldl_cons]
    exact this.mono (by rw [List.length_cons]; push_cast; omega)
theorem rows_bd {ps : List Pk} {n : Nat} (hfew : ∀ p ∈ ps, p.after.length ≤ 30) : ∀ (od : List Int) (B : Int) (L : List Int), LOk n B L → 0 ≤ B → LOk n (B + 300000 * (od.length : Int)) (od.foldl (rowS ps) L)
  | [], B, L, h, _ => h.mono (by simp)
  | k :: od, B, L, h, hB => by
    have hk : (aft ps k).length ≤ 30 := by
      unfold aft
      rw [List.getD_eq_getElem?_getD]
      cases e : ps[k.toNat]? with
      | none => exact show 0 ≤ 30 by omega
      | some p => exact hfew p (mem_get e)
    have h1 := (steps_bd (ps := ps) (k := k.toNat) (aft ps k) B L h hB).mono (C := B + 300000) (by omega)
    have := rows_bd hfew od (B + 300000) _ h1 (by omega)
    rw [List.foldl_cons]
    exact this.mono (by rw [List.length_cons]; push_cast; omega)
theorem starts_bd {ps : List Pk} (hfew : ∀ p ∈ ps, p.after.length ≤ 30) (h70 : ps.length ≤ 70) (i : Nat) : 0 ≤ (startsP ps).getD i 0 ∧ (startsP ps).getD i 0 ≤ 21000000 := by
  unfold startsP
  split
  · simp
  · have h1 := (rows_bd hfew (oList ps) 0 _ (LOk.zero ps.length) (by omega)).2 i
    have := oList_len ps
    omega
theorem starts_len {ps : List Pk} (h : oErr ps = 0) : (startsP ps).length = ps.length := (starts_fit h).len
theorem starts_err {ps : List Pk} (h : oErr ps ≠ 0) : startsP ps = [] := by unfold startsP; rw [if_pos h]
/-- No package starts before the end of one in its After. -/
theorem starts_ge {ps : List Pk} (hs : soundP ps) (h : oErr ps = 0) {i k : Nat} {p q : Pk} (hp : ps[i]? = some p) (hq : ps[k]? = some q) (hm : q.id ∈ p.after) : (startsP ps).getD k 0 + hrs q ≤ (startsP ps).getD i 0 := by
  have hi := oList_all h (List.getElem?_eq_some_iff.1 hp).1
  have h1 := (starts_fit h).fit (i : Int) (by rw [← oList_full h, List.take_length]; exact hi)
  have h2 := h1.ge q.id (by rw [aft_eq hp]; exact hm) (by rw [find_id hs.1 hq]; omega)
  rw [find_id hs.1 hq] at h2
  unfold endP at h2
  rw [hrAt_eq hq, Int.toNat_natCast, Int.toNat_natCast] at h2
  exact h2
/-- Each one with a start above 0 starts at the end of one of these. -/
theorem starts_met {ps : List Pk} (h : oErr ps = 0) {i : Nat} {p : Pk} (hp : ps[i]? = some p) : (startsP ps).getD i 0 = 0 ∨ ∃ (k : Nat) (q : Pk), ps[k]? = some q ∧ q.id ∈ p.after ∧ (startsP ps).getD i 0 = (startsP ps).getD k 0 + hrs q := by
  have hi := oList_all h (List.getElem?_eq_some_iff.1 hp).1
  have h1 := (starts_fit h).fit (i : Int) (by rw [← oList_full h, List.take_length]; exact hi)
  rcases h1.met with e | ⟨x, hx, h0, e⟩
  · left; rw [Int.toNat_natCast] at e; exact e
  · right
    obtain ⟨k, q, hq, he, hf⟩ := find_spec h0
    rw [aft_eq hp] at hx
    rw [hf] at e
    unfold endP at e
    rw [hrAt_eq hq, Int.toNat_natCast, Int.toNat_natCast] at e
    exact ⟨k, q, hq, by rw [he]; exact hx, e⟩

end Go.Proofs.Ytldgigjapifagaa
