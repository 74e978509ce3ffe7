/- Plain laws of chapter 44 (route): the reference's search, bucket by bucket. -/
import Derived.Test.YthddekipelbooaaQa
namespace Go.Proofs.Ythddekipelbooaa
open Go Go.RowKit Core
set_option linter.unusedVariables false
set_option linter.unusedSimpArgs false
attribute [local irreducible] wpQuiet wpList wpH wpT Code.wp Calls bodyPost act


theorem dm_lem (x y n : Int) (h : 0 ≤ y) (h2 : y < n) : (x * n + y) / n = x ∧ (x * n + y) % n = y := by
  constructor
  · rw [Int.add_comm, Int.add_mul_ediv_right _ _ (by omega), Int.ediv_eq_zero_of_lt h h2, Int.zero_add]
  · rw [Int.add_comm, Int.add_mul_emod_self_right, Int.emod_eq_of_lt h h2]
theorem lin_bd {x y m n : Int} (hx : 0 ≤ x) (hx2 : x < m) (hy : 0 ≤ y) (hy2 : y < n) : 0 ≤ x * n + y ∧ x * n + y < m * n := by
  have h1 : x * n ≤ (m - 1) * n := Int.mul_le_mul_of_nonneg_right (by omega) (by omega)
  rw [Int.sub_mul, Int.one_mul] at h1
  have h2 := Int.mul_nonneg hx (show 0 ≤ n by omega)
  omega
def plK (g : Gr) (c : Cl) : Int := (c.x * g.ny + c.y) * g.nz + c.z
def plI (g : Gr) (c : Cl) (k : Int) : Int := plK g c * 7 + k
theorem plK_bd {g : Gr} {c : Cl} (h : inB g c = true) : 0 ≤ plK g c ∧ plK g c < g.nx * g.ny * g.nz := by
  rw [inB_iff] at h
  have h1 := lin_bd (x := c.x) (y := c.y) (m := g.nx) (n := g.ny) (by omega) (by omega) (by omega) (by omega)
  exact lin_bd h1.1 h1.2 (by omega) (by omega)
theorem plI_bd {g : Gr} {c : Cl} {k : Int} (h : inB g c = true) (hk : 0 ≤ k ∧ k < 7) : 0 ≤ plI g c k ∧ plI g c k < g.nx * g.ny * g.nz * 7 := by
  have h1 := plK_bd h
  exact lin_bd h1.1 h1.2 hk.1 hk.2
theorem plI_dec {g : Gr} {c : Cl} {k : Int} (h : inB g c = true) (hk : 0 ≤ k ∧ k < 7) : plI g c k % 7 = k ∧ plI g c k / 7 = plK g c ∧ plK g c / g.nz / g.ny = c.x ∧ plK g c / g.nz % g.ny = c.y ∧ plK g c % g.nz = c.z := by
  rw [inB_iff] at h
  have h1 := dm_lem (plK g c) k 7 hk.1 hk.2
  have h2 := dm_lem (c.x * g.ny + c.y) c.z g.nz (by omega) (by omega)
  have h3 := dm_lem c.x c.y g.ny (by omega) (by omega)
  refine ⟨h1.2, h1.1, ?_, ?_, h2.2⟩
  · unfold plK; rw [h2.1]; exact h3.1
  · unfold plK; rw [h2.1]; exact h3.2
theorem plI_inj {g : Gr} {c d : Cl} {j k : Int} (hc : inB g c = true) (hd : inB g d = true) (hj : 0 ≤ j ∧ j < 7) (hk : 0 ≤ k ∧ k < 7) (h : plI g c j = plI g d k) : c = d ∧ j = k := by
  obtain ⟨a1, a2, a3, a4, a5⟩ := plI_dec hc hj
  obtain ⟨b1, b2, b3, b4, b5⟩ := plI_dec hd hk
  rw [h] at a1 a2
  have e : plK g c = plK g d := a2.symm.trans b2
  rw [e] at a3 a4 a5
  exact ⟨cl_ext (a3.symm.trans b3) (a4.symm.trans b4) (a5.symm.trans b5), a1.symm.trans b1⟩
def dk (k : Nat) : Cl := (ways ++ [c0]).getD k c0
theorem dk_way {k : Nat} (h : k < 6) : dk k ∈ ways ∧ ways[k]? = some (dk k) := by
  have : k = 0 ∨ k = 1 ∨ k = 2 ∨ k = 3 ∨ k = 4 ∨ k = 5 := by omega
  rcases this with e | e | e | e | e | e <;> subst e <;> exact ⟨by decide, rfl⟩
theorem dk_six : dk 6 = c0 := rfl
theorem way_dk {u : Cl} (h : u ∈ ways) : ∃ k, k < 6 ∧ dk k = u := by
  rw [mem_ways] at h
  rcases h with e | e | e | e | e | e <;> subst e
  · exact ⟨0, by omega, rfl⟩
  · exact ⟨1, by omega, rfl⟩
  · exact ⟨2, by omega, rfl⟩
  · exact ⟨3, by omega, rfl⟩
  · exact ⟨4, by omega, rfl⟩
  · exact ⟨5, by omega, rfl⟩
theorem dk_inj {j k : Nat} (hj : j < 7) (hk : k < 7) (h : dk j = dk k) : j = k := by
  have h1 : j = 0 ∨ j = 1 ∨ j = 2 ∨ j = 3 ∨ j = 4 ∨ j = 5 ∨ j = 6 := by omega
  have h2 : k = 0 ∨ k = 1 ∨ k = 2 ∨ k = 3 ∨ k = 4 ∨ k = 5 ∨ k = 6 := by omega
  rcases h1 with e | e | e | e | e | e | e <;> rcases h2 with e2 | e2 | e2 | e2 | e2 | e2 | e2 <;> subst e <;> subst e2 <;> first | rfl | exact absurd h (by decide)
/-- The cost of a move, by the numbers of the directions. -/
theorem step_dk {bend : Int} {j k : Nat} (hj : j < 7) (hk : k < 6) : stepP bend (dk j) (dk k) = if j < 6 ∧ j ≠ k then 1 + bend else 1 := by
  unfold stepP
  by_cases h1 : j < 6
  · by_cases h2 : j = k
    · rw [if_pos (.inl (by rw [h2])), if_neg (fun h => h.2 h2)]
    · rw [if_neg, if_pos ⟨h1, h2⟩]
      rintro (h | h)
      · exact h2 (dk_inj hj (by omega) h)
      · exact way_ne (dk_way h1).1 h
  · obtain rfl : j = 6 := by omega
    rw [if_pos (.inr rfl), if_neg (fun h => h1 h.1)]
def kn (g : Gr) (cs : List Int) (c : Cl) (k : Nat) (v : Int) : Prop := cs[(plI g c k).toNat]? = some v ∧ 0 ≤ v
def Cv (g : Gr) (cs : List Int) (ls : List (List Int)) (n i : Nat) (c : Cl) (k : Nat) (x : Int) : Prop :=
  (∃ v, kn g cs c k v ∧ v ≤ x) ∨ ∃ m l j, ((m : Nat) : Int) ≤ x ∧ ls[m]? = some l ∧ l[j]? = some (plI g c k) ∧ (n < m ∨ (n = m ∧ i ≤ j))
structure RI (g : Gr) (bend : Int) (b : Cl) (E : Cl → Nat → Prop) (cs : List Int) (ls : List (List Int)) (n i : Nat) : Prop where
  len : (cs.length : Int) = g.nx * g.ny * g.nz * 7
  val : ∀ (j : Nat) (v : Int), cs[j]? = some v → v = -1 ∨ (0 ≤ v ∧ v ≤ (n : Int))
  okw : ∀ (m : Nat) (l : List Int), ls[m]? = some l → ∀ a ∈ l, ∃ c k, Fre g c ∧ k < 7 ∧ a = plI g c ((k : Nat) : Int) ∧ Snd g bend b c (dk k) (m : Int)
  okc : ∀ c k v, inB g c = true → k < 7 → kn g cs c k v → Snd g bend b c (dk k) v ∧ Fre g c
  st : ∀ k, k < 7 → Cv g cs ls n i b k 0
  cl : ∀ c k v, inB g c = true → k < 6 → ¬ E c k → kn g cs c k v → Fre g (csub c (dk k)) → ∀ j, j < 7 → Cv g cs ls n i (csub c (dk k)) j (v + stepP bend (dk j) (dk k))
def E0 : Cl → Nat → Prop := fun _ _ => False
theorem nat7 {k : Nat} (h : k < 7) : (0 : Int) ≤ (k : Int) ∧ (k : Int) < 7 := by omega
theorem RI.skip {g : Gr} {bend v : Int} {b : Cl} {E : Cl → Nat → Prop} {cs l : List Int} {ls : List (List Int)} {n i : Nat} {a : Int} (h : RI g bend b E cs ls n i) (hl : ls[n]? = some l) (ha : l[i]? = some a) (hk : cs[a.toNat]? = some v) (hv : 0 ≤ v) : RI g bend b E cs ls n (i + 1) := by
  have T : ∀ c k x, Cv g cs ls n i c k x → Cv g cs ls n (i + 1) c k x := by
    rintro c k x (h1 | ⟨m, l', j, h1, h2, h3, h4⟩)
    · exact .inl h1
    · rcases h4 with h4 | ⟨h4, h5⟩
      · exact .inr ⟨m, l', j, h1, h2, h3, .inl h4⟩
      · by_cases h6 : j = i
        · subst h4; subst h6
          rw [hl] at h2; cases h2
          rw [ha] at h3; cases h3
          rcases h.val _ _ hk with e | e
          · omega
          · exact .inl ⟨v, ⟨hk, hv⟩, by omega⟩
        · exact .inr ⟨m, l', j, h1, h2, h3, .inr ⟨h4, by omega⟩⟩
  exact ⟨h.len, h.val, h.okw, h.okc, fun k hk => T _ _ _ (h.st k hk), fun c k v h1 h2 h3 h4 h5 j hj => T _ _ _ (h.cl c k v h1 h2 h3 h4 h5 j hj)⟩
theorem RI.mark {g : Gr} {bend : Int} {b : Cl} {cs l : List Int} {ls : List (List Int)} {n i : Nat} {a : Int} (h : RI g bend b E0 cs ls n i) (hl : ls[n]? = some l) (ha : l[i]? = some a) (hk : cs[a.toNat]? = some (-1)) :
    ∃ c k, Fre g c ∧ k < 7 ∧ a = plI g c ((k : Nat) : Int) ∧ Snd g bend b c (dk k) (n : Int) ∧ kn g (cs.set a.toNat (n : Int)) c k (n : Int) ∧ RI g bend b (fun c' k' => c' = c ∧ k' = k) (cs.set a.toNat (n : Int)) ls n (i + 1) := by
  obtain ⟨c, k, hc, hk7, he, hS⟩ := h.okw n l hl a (mem_get ha)
  have hlt : a.toNat < cs.length := (List.getElem?_eq_some_iff.1 hk).1
  have hset : ∀ j : Nat, (cs.set a.toNat (n : Int))[j]? = if j = a.toNat then some (n : Int) else cs[j]? := fun j => by
    rw [List.getElem?_set]
    by_cases e : a.toNat = j
    · subst e; simp [hlt]
    · rw [if_neg e, if_neg (fun h => e h.symm)]
  have hkn : kn g (cs.set a.toNat (n : Int)) c k (n : Int) := ⟨by rw [hset, if_pos (by rw [he])], by omega⟩
  have T : ∀ c k x, Cv g cs ls n i c k x → Cv g (cs.set a.toNat (n : Int)) ls n (i + 1) c k x := by
    rintro c k x (⟨v, ⟨h1, h2⟩, h3⟩ | ⟨m, l', j, h1, h2, h3, h4⟩)
    · refine .inl ⟨v, ⟨?_, h2⟩, h3⟩
      rw [hset, if_neg]
      · exact h1
      · intro e; rw [e, hk] at h1; cases h1; omega
    · rcases h4 with h4 | ⟨h4, h5⟩
      · exact .inr ⟨m, l', j, h1, h2, h3, .inl h4⟩
      · by_cases h6 : j = i
        · subst h4; subst h6
          rw [hl] at h2; cases h2
          rw [ha] at h3; cases h3
          exact .inl ⟨n, ⟨by rw [hset, if_pos rfl], by omega⟩, h1⟩
        · exact .inr ⟨m, l', j, h1, h2, h3, .inr ⟨h4, by omega⟩⟩
  have hold : ∀ c' k' v, inB g c' = true → k' < 7 → kn g (cs.set a.toNat (n : Int)) c' k' v → (c' = c ∧ k' = k ∧ v = (n : Int)) ∨ kn g cs c' k' v := by
    rintro c' k' v h1 h2 ⟨h3, h4⟩
    rw [hset] at h3
    by_cases e : (plI g c' k').toNat = a.toNat
    · rw [if_pos e] at h3
      have b1 := plI_bd h1 (nat7 h2)
      have b2 := plI_bd hc.1 (nat7 hk7)
      have e2 : plI g c' k' = plI g c k := by rw [he] at e; omega
      obtain ⟨e3, e4⟩ := plI_inj h1 hc.1 (nat7 h2) (nat7 hk7) e2
      exact .inl ⟨e3, by omega, (Option.some.inj h3).symm⟩
    · rw [if_neg e] at h3; exact .inr ⟨h3, h4⟩
  refine ⟨c, k, hc, hk7, he, hS, hkn, by rw [List.length_set]; exact h.len, fun j v hj => ?_, h.okw, fun c' k' v h1 h2 h3 => ?_, fun k' hk' => T _ _ _ (h.st k' hk'), fun c' k' v h1 h2 h3 h4 h5 j hj => ?_⟩
  · rw [hset] at hj
    split at hj
    · cases hj; right; omega
    · exact h.val j v hj
  · rcases hold c' k' v h1 h2 h3 with ⟨e1, e2, e3⟩ | h4
    · subst e1; subst e2; subst e3; exact ⟨hS, hc⟩
    · exact h.okc c' k' v h1 h2 h4
  · rcases hold c' k' v h1 (by omega) h4 with ⟨e1, e2, _⟩ | h6
    · exact (h3 ⟨e1, e2⟩).elim
    · exact T _ _ _ (h.cl c' k' v h1 h2 (fun e => e) h6 h5 j hj)
/-- The node that was marked is done. -/
theorem RI.drop {g : Gr} {bend : Int} {b c : Cl} {cs : List Int} {ls : List (List Int)} {n i k : Nat} (h : RI g bend b (fun c' k' => c' = c ∧ k' = k) cs ls n i) (hkn : kn g cs c k (n : Int)) (hd : k = 6 ∨ ¬ Fre g (csub c (dk k)) ∨ ∀ j, j < 7 → Cv g cs ls n i (csub c (dk k)) j ((n : Int) + stepP bend (dk j) (dk k))) : RI g bend b E0 cs ls n i := by
  refine ⟨h.len, h.val, h.okw, h.okc, h.st, fun c' k' v h1 h2 _ h4 h5 j hj => ?_⟩
  by_cases e : c' = c ∧ k' = k
  · obtain ⟨rfl, rfl⟩ := e
    have ev : v = (n : Int) := by have := h4.1; rw [hkn.1] at this; exact (Option.some.inj this).symm
    subst ev
    rcases hd with e | e | e
    · omega
    · exact (e h5).elim
    · exact e j hj
  · exact h.cl c' k' v h1 h2 e h4 h5 j hj
theorem RI.grow {g : Gr} {bend : Int} {b : Cl} {E : Cl → Nat → Prop} {cs : List Int} {ls ls' : List (List Int)} {n i : Nat} (h : RI g bend b E cs ls n i) (hg : ∀ (m : Nat) (l : List Int), ls[m]? = some l → ∃ t, ls'[m]? = some (l ++ t))
    (hok : ∀ (m : Nat) (l : List Int), ls'[m]? = some l → ∀ a ∈ l, ∃ c k, Fre g c ∧ k < 7 ∧ a = plI g c ((k : Nat) : Int) ∧ Snd g bend b c (dk k) (m : Int)) : RI g bend b E cs ls' n i ∧ ∀ c k x, Cv g cs ls n i c k x → Cv g cs ls' n i c k x := by
  have T : ∀ c k x, Cv g cs ls n i c k x → Cv g cs ls' n i c k x := by
    rintro c k x (h1 | ⟨m, l', j, h1, h2, h3, h4⟩)
    · exact .inl h1
    · obtain ⟨t, ht⟩ := hg m l' h2
      exact .inr ⟨m, _, j, h1, ht, by rw [List.getElem?_append_left (List.getElem?_eq_some_iff.1 h3).1]; exact h3, h4⟩
  exact ⟨⟨h.len, h.val, hok, h.okc, fun k hk => T _ _ _ (h.st k hk), fun c k v h1 h2 h3 h4 h5 j hj => T _ _ _ (h.cl c k v h1 h2 h3 h4 h5 j hj)⟩, T⟩
theorem RI.nil {g : Gr} {bend : Int} {b : Cl} {E : Cl → Nat → Prop} {cs : List Int} {ls : List (List Int)} {n i : Nat} (h : RI g bend b E cs ls n i) : RI g bend b E cs (ls ++ [[]]) n i ∧ ∀ c k x, Cv g cs ls n i c k x → Cv g cs (ls ++ [[]]) n i c k x := by
  refine h.grow (fun m l hm => ⟨[], by rw [List.getElem?_append_left (List.getElem?_eq_some_iff.1 hm).1, List.append_nil]; exact hm⟩) (fun m l hm a ha => ?_)
  by_cases e : m < ls.length
  · rw [List.getElem?_append_left e] at hm; exact h.okw m l hm a ha
  · rw [List.getElem?_append_right (by omega)] at hm
    have : l = [] := by
      cases e2 : m - ls.length with
      | zero => rw [e2] at hm; exact (Option.some.inj hm).symm
      | succ x => rw [e2] at hm; simp at hm
    rw [this] at ha; cases ha
theorem RI.push {g : Gr} {bend : Int} {b c : Cl} {E : Cl → Nat → Prop} {cs l : List Int} {ls : List (List Int)} {n i m k : Nat} (h : RI g bend b E cs ls n i) (hm : ls[m]? = some l) (hnm : n < m) (hc : Fre g c) (hk : k < 7) (hS : Snd g bend b c (dk k) (m : Int)) :
    RI g bend b E cs (ls.set m (l ++ [plI g c k])) n i ∧ (∀ c' k' x, Cv g cs ls n i c' k' x → Cv g cs (ls.set m (l ++ [plI g c k])) n i c' k' x) ∧ Cv g cs (ls.set m (l ++ [plI g c k])) n i c k (m : Int) := by
  have hml := (List.getElem?_eq_some_iff.1 hm).1
  have hset : ∀ j : Nat, (ls.set m (l ++ [plI g c k]))[j]? = if j = m then some (l ++ [plI g c k]) else ls[j]? := fun j => by
    rw [List.getElem?_set]
    by_cases e : m = j
    · subst e; simp [hml]
    · rw [if_neg e, if_neg (fun h => e h.symm)]
  have h1 := h.grow (ls' := ls.set m (l ++ [plI g c k])) (fun m' l' hm' => by
    rw [hset]
    by_cases e : m' = m
    · subst e; rw [hm] at hm'; cases hm'; exact ⟨_, by rw [if_pos rfl]⟩
    · exact ⟨[], by rw [if_neg e, List.append_nil]; exact hm'⟩) (fun m' l' hm' a ha => by
    rw [hset] at hm'
    by_cases e : m' = m
    · subst e; rw [if_pos rfl] at hm'; cases hm'
      rcases List.mem_append.1 ha with e2 | e2
      · exact h.okw m' l hm a e2
      · exact ⟨c, k, hc, hk, List.mem_singleton.1 e2, hS⟩
    · rw [if_neg e] at hm'; exact h.okw m' l' hm' a ha)
  refine ⟨h1.1, h1.2, .inr ⟨m, l ++ [plI g c k], l.length, Int.le_refl _, by rw [hset, if_pos rfl], by simp, .inl hnm⟩⟩
theorem RI.next {g : Gr} {bend : Int} {b : Cl} {cs l : List Int} {ls : List (List Int)} {n i : Nat} (h : RI g bend b E0 cs ls n i) (hl : ls[n]? = some l) (hi : ¬ i < l.length) : RI g bend b E0 cs ls (n + 1) 0 := by
  have T : ∀ c k x, Cv g cs ls n i c k x → Cv g cs ls (n + 1) 0 c k x := by
    rintro c k x (h1 | ⟨m, l', j, h1, h2, h3, h4⟩)
    · exact .inl h1
    · rcases h4 with h4 | ⟨h4, h5⟩
      · rcases Nat.lt_or_ge (n + 1) m with e | e
        · exact .inr ⟨m, l', j, h1, h2, h3, .inl e⟩
        · exact .inr ⟨m, l', j, h1, h2, h3, .inr ⟨by omega, Nat.zero_le _⟩⟩
      · subst h4; rw [hl] at h2; cases h2
        have := (List.getElem?_eq_some_iff.1 h3).1
        omega
  exact ⟨h.len, fun j v hj => by rcases h.val j v hj with e | e; exact .inl e; exact .inr (by omega), h.okw, h.okc, fun k hk => T _ _ _ (h.st k hk), fun c k v h1 h2 h3 h4 h5 j hj => T _ _ _ (h.cl c k v h1 h2 h3 h4 h5 j hj)⟩
/-- What the reference's table tells. -/
structure KnR (g : Gr) (bend : Int) (b : Cl) (cs : List Int) : Prop where
  len : (cs.length : Int) = g.nx * g.ny * g.nz * 7
  val : ∀ (j : Nat) (v : Int), cs[j]? = some v → v = -1 ∨ 0 ≤ v
  sm : ∀ c k v, inB g c = true → k < 7 → kn g cs c k v → Snd g bend b c (dk k) v ∧ Fre g c
  cm : ∀ r c k, wk g c r → Fre g c → lastC c r = b → k < 7 → ∃ v, kn g cs c k v ∧ v ≤ wc bend (dk k) c r
theorem RI.done {g : Gr} {bend : Int} {b : Cl} {cs : List Int} {ls : List (List Int)} {n i : Nat} (h : RI g bend b E0 cs ls n i) (hn : ¬ n < ls.length) : KnR g bend b cs := by
  have T : ∀ c k x, Cv g cs ls n i c k x → ∃ v, kn g cs c k v ∧ v ≤ x := by
    rintro c k x (h1 | ⟨m, l', j, h1, h2, h3, h4⟩)
    · exact h1
    · have := (List.getElem?_eq_some_iff.1 h2).1
      omega
  refine ⟨h.len, fun j v hj => (h.val j v hj).imp id (fun e => e.1), h.okc, ?_⟩
  intro r
  induction r with
  | nil =>
    intro c k _ _ hl hk
    rw [show c = b from hl]
    exact T _ _ _ (h.st k hk)
  | cons d r ih =>
    intro c k hw hc hl hk
    obtain ⟨j, hj, ej⟩ := way_dk hw.2.1
    obtain ⟨v, h1, h2⟩ := ih d j hw.2.2 hw.1 hl (by omega)
    rw [ej] at h2
    have h3 := h.cl d j v hw.1.1 hj (fun e => e) h1 (by rw [ej, csub_csub]; exact hc) k hk
    rw [ej, csub_csub] at h3
    obtain ⟨v', h4, h5⟩ := T _ _ _ h3
    exact ⟨v', h4, by simp only [wc]; omega⟩
theorem KnR.lst {g : Gr} {bend v : Int} {b c : Cl} {k : Nat} {cs : List Int} (h : KnR g bend b cs) (hc : inB g c = true) (hk : k < 7) (hn : kn g cs c k v) : Lst g bend b c (dk k) v := by
  obtain ⟨h1, h2⟩ := h.sm c k v hc hk hn
  refine ⟨h1, fun r h3 h4 => ?_⟩
  obtain ⟨v', h5, h6⟩ := h.cm r c k h3 h2 h4 hk
  have e : v = v' := Option.some.inj (hn.1.symm.trans h5.1)
  omega
theorem KnR.of {g : Gr} {bend v : Int} {b c : Cl} {k : Nat} {cs : List Int} (h : KnR g bend b cs) (hc : Fre g c) (hk : k < 7) (hn : Lst g bend b c (dk k) v) : kn g cs c k v := by
  obtain ⟨r, h1, h2, _⟩ := hn.1
  obtain ⟨v', h5, h6⟩ := h.cm r c k h1 hc h2 hk
  rw [hn.uniq (h.lst hc.1 hk h5)]; exact h5
/-- How many are known. -/
def cnt (cs : List Int) : Nat := cs.countP fun v => decide (0 ≤ v)
theorem cnt_le (cs : List Int) : cnt cs ≤ cs.length := List.countP_le_length
theorem cnt_set {cs : List Int} {j : Nat} {n : Int} (h : cs[j]? = some (-1)) (hn : 0 ≤ n) : cnt (cs.set j n) = cnt cs + 1 := by
  obtain ⟨hl, he⟩ := List.getElem?_eq_some_iff.1 h
  unfold cnt
  rw [List.countP_set hl, he]
  simp [hn]
/-- The start. -/
theorem RI.start {g : Gr} {bend : Int} {b : Cl} {cs : List Int} (hb : Fre g b) (hl : (cs.length : Int) = g.nx * g.ny * g.nz * 7) (hc : ∀ (j : Nat) (v : Int), cs[j]? = some v → v = -1) {l : List Int} (hw : l = (List.range 7).map fun k => plI g b ((k : Nat) : Int)) : RI g bend b E0 cs [l] 0 0 := by
  refine ⟨hl, fun j v hj => .inl (hc j v hj), fun m l' hm a ha => ?_, fun c k v _ _ hk => ?_, fun k hk => ?_, fun c k v _ _ _ hk => ?_⟩
  · cases m with
    | zero =>
      simp only [List.getElem?_cons_zero, Option.some.injEq] at hm
      subst hm
      rw [hw] at ha
      obtain ⟨k, hk, rfl⟩ := List.mem_map.1 ha
      exact ⟨b, k, hb, List.mem_range.1 hk, rfl, ⟨[], trivial, rfl, rfl⟩⟩
    | succ m => simp at hm
  · have := hc _ _ hk.1; have := hk.2; omega
  · refine .inr ⟨0, l, k, Int.le_refl _, rfl, ?_, .inr ⟨rfl, Nat.zero_le _⟩⟩
    rw [hw, List.getElem?_map, List.getElem?_range hk]; rfl
  · have := hc _ _ hk.1; have := hk.2; omega

end Go.Proofs.Ythddekipelbooaa
