/- Plain laws of chapter 44 (route): heaps; walks through free cells; the invariant of the search. -/
import Derived.Test.YthddekipelbooaaI
namespace Go.Proofs.Ythddekipelbooaa
open Go Go.RowKit Core
set_option linter.unusedVariables false
set_option linter.unusedSimpArgs false
attribute [local irreducible] wpQuiet wpList wpH wpT Code.wp Calls bodyPost act


def ky (l : List It) (i : Nat) : Int := (l.getD i it0).left
def Heap (l : List It) (n : Nat) : Prop := ∀ i, 0 < i → i < n → ky l ((i - 1) / 2) ≤ ky l i
theorem getD_set (l : List It) (i : Nat) (x : It) (k : Nat) (hi : i < l.length) : (l.set i x).getD k it0 = if k = i then x else l.getD k it0 := by
  simp only [List.getD_eq_getElem?_getD, List.getElem?_set]
  by_cases h : i = k
  · subst h; simp [hi]
  · rw [if_neg h, if_neg (fun e => h e.symm)]
theorem getD_swp {l : List It} {i j : Nat} (hi : i < l.length) (hj : j < l.length) (k : Nat) : (swp l i j).getD k it0 = if k = j then l.getD i it0 else if k = i then l.getD j it0 else l.getD k it0 := by
  unfold swp
  rw [getD_set _ _ _ _ (by rw [List.length_set]; exact hj), getD_set _ _ _ _ hi]
theorem ky_swp {l : List It} {i j : Nat} (hi : i < l.length) (hj : j < l.length) (k : Nat) : ky (swp l i j) k = if k = j then ky l i else if k = i then ky l j else ky l k := by
  unfold ky
  rw [getD_swp hi hj]
  split
  · rfl
  · split <;> rfl
theorem swp_perm {l : List It} {i j : Nat} (hi : i < l.length) (hj : j < l.length) : (swp l i j).Perm l := by
  unfold swp
  have h := List.set_set_perm hi hj
  rw [List.getD_eq_getElem?_getD, List.getD_eq_getElem?_getD, List.getElem?_eq_getElem hi, List.getElem?_eq_getElem hj]
  exact h
def UpI (l : List It) (n j : Nat) : Prop := (∀ i, 0 < i → i < n → i ≠ j → ky l ((i - 1) / 2) ≤ ky l i) ∧ ∀ i, 0 < i → i < n → (i - 1) / 2 = j → 0 < j → ky l ((j - 1) / 2) ≤ ky l i
theorem upI_step {l : List It} {j : Nat} (h : UpI l l.length j) (hj : j < l.length) (h0 : j ≠ 0) (hlt : ky l j < ky l ((j - 1) / 2)) : UpI (swp l ((j - 1) / 2) j) l.length ((j - 1) / 2) := by
  obtain ⟨p, hp⟩ : ∃ p, p = (j - 1) / 2 := ⟨_, rfl⟩
  rw [← hp] at hlt ⊢
  have hpl : p < l.length := by omega
  have hpj : p ≠ j := by omega
  have K := ky_swp hpl hj
  refine ⟨fun i h1 h2 h3 => ?_, fun i h1 h2 h3 h4 => ?_⟩
  · rw [K, K]
    by_cases e1 : i = j
    · subst e1; rw [← hp, if_neg hpj, if_pos rfl, if_pos rfl]; omega
    · rw [if_neg e1, if_neg h3]
      by_cases e2 : (i - 1) / 2 = j
      · rw [if_pos e2]; have := h.2 i h1 h2 e2 (by omega); rw [← hp] at this; exact this
      · rw [if_neg e2]
        by_cases e3 : (i - 1) / 2 = p
        · rw [if_pos e3]; have := h.1 i h1 h2 e1; rw [e3] at this; omega
        · rw [if_neg e3]; exact h.1 i h1 h2 e1
  · have hq := h.1 p h4 hpl hpj
    rw [K, K, if_neg (by omega : ¬ (p - 1) / 2 = j), if_neg (by omega : ¬ (p - 1) / 2 = p)]
    by_cases e1 : i = j
    · rw [if_pos e1]; exact hq
    · rw [if_neg e1, if_neg (by omega : ¬ i = p)]; have := h.1 i h1 h2 e1; rw [h3] at this; omega
theorem upI_heap {l : List It} {n j : Nat} (h : UpI l n j) (h2 : j = 0 ∨ ¬ ky l j < ky l ((j - 1) / 2)) : Heap l n := by
  intro i h3 h4
  by_cases e : i = j
  · subst e; rcases h2 with h2 | h2 <;> omega
  · exact h.1 i h3 h4 e
theorem upL_ok : ∀ (f : Nat) (l : List It) (j : Nat), j ≤ f → j < l.length → UpI l l.length j → Heap (upL f l j) l.length ∧ (upL f l j).Perm l
  | 0, l, j, hf, hj, h => ⟨upI_heap h (.inl (by omega)), .refl _⟩
  | f + 1, l, j, hf, hj, h => by
    unfold upL
    split
    · rename_i h0; exact ⟨upI_heap h (.inl h0), .refl _⟩
    · rename_i h0
      split
      · rename_i h1
        have h2 : ky l j < ky l ((j - 1) / 2) := of_decide_eq_true h1
        have h3 := upL_ok f (swp l ((j - 1) / 2) j) ((j - 1) / 2) (by omega) (by rw [swp_len]; omega) (by rw [swp_len]; exact upI_step h hj h0 h2)
        rw [swp_len] at h3
        exact ⟨h3.1, h3.2.trans (swp_perm (by omega) hj)⟩
      · rename_i h1
        exact ⟨upI_heap h (.inr (fun h2 => h1 (decide_eq_true h2))), .refl _⟩
theorem getD_app {l r : List It} {k : Nat} (h : k < l.length) : (l ++ r).getD k it0 = l.getD k it0 := by rw [List.getD_eq_getElem?_getD, List.getElem?_append_left h, List.getD_eq_getElem?_getD]
theorem pushH_ok {l : List It} (x : It) (h : Heap l l.length) : Heap (pushH l x) (pushH l x).length ∧ (pushH l x).Perm (l ++ [x]) := by
  have hl : (l ++ [x]).length = l.length + 1 := by simp
  have K : ∀ k, k < l.length → ky (l ++ [x]) k = ky l k := fun k hk => by unfold ky; rw [getD_app hk]
  have hu : UpI (l ++ [x]) (l ++ [x]).length l.length := by
    refine ⟨fun i h1 h2 h3 => ?_, fun i h1 h2 h3 h4 => by omega⟩
    rw [K _ (by omega), K _ (by omega)]
    exact h i h1 (by omega)
  have h2 := upL_ok l.length (l ++ [x]) l.length (Nat.le_refl _) (by omega) hu
  unfold pushH
  rw [upL_len]
  exact h2
def DnI (l : List It) (n i : Nat) : Prop := (∀ c, 0 < c → c < n → (c - 1) / 2 ≠ i → ky l ((c - 1) / 2) ≤ ky l c) ∧ ∀ c, 0 < c → c < n → (c - 1) / 2 = i → 0 < i → ky l ((i - 1) / 2) ≤ ky l c
theorem chI_ok {l : List It} {i n : Nat} (h : 2 * i + 1 < n) : chI l i n < n ∧ 0 < chI l i n ∧ (chI l i n - 1) / 2 = i ∧ ∀ c, 0 < c → c < n → (c - 1) / 2 = i → ky l (chI l i n) ≤ ky l c := by
  have e : ∀ a b, ltI l a b = decide (ky l a < ky l b) := fun _ _ => rfl
  unfold chI
  rw [e]
  split
  · rename_i h1
    have h2 := of_decide_eq_true h1.2
    refine ⟨h1.1, by omega, by omega, fun c h3 h4 h5 => ?_⟩
    rcases (show c = 2 * i + 1 ∨ c = 2 * i + 2 by omega) with e | e <;> subst e <;> omega
  · rename_i h1
    refine ⟨h, by omega, by omega, fun c h3 h4 h5 => ?_⟩
    rcases (show c = 2 * i + 1 ∨ c = 2 * i + 2 by omega) with e | e
    · subst e; omega
    · subst e
      have h2 : ¬ ky l (2 * i + 2) < ky l (2 * i + 1) := fun h2 => h1 ⟨h4, decide_eq_true h2⟩
      omega
theorem dnI_step {l : List It} {i n j : Nat} (h : DnI l n i) (hn : n ≤ l.length) (hj : j < n) (hj0 : 0 < j) (hp : (j - 1) / 2 = i) (hm : ∀ c, 0 < c → c < n → (c - 1) / 2 = i → ky l j ≤ ky l c) (hlt : ky l j < ky l i) : DnI (swp l i j) n j := by
  have K := ky_swp (l := l) (i := i) (j := j) (by omega) (by omega)
  refine ⟨fun c h1 h2 h3 => ?_, fun c h1 h2 h3 h4 => ?_⟩
  · rw [K, K, if_neg h3]
    by_cases e1 : c = j
    · subst e1; rw [if_pos hp, if_pos rfl]; omega
    · rw [if_neg e1]
      by_cases e2 : c = i
      · subst e2
        rw [if_neg (by omega : ¬ (c - 1) / 2 = c), if_pos rfl]
        exact h.2 j hj0 hj hp h1
      · rw [if_neg e2]
        by_cases e3 : (c - 1) / 2 = i
        · rw [if_pos e3]; exact hm c h1 h2 e3
        · rw [if_neg e3]; exact h.1 c h1 h2 e3
  · rw [K, K, hp, if_neg (by omega : ¬ i = j), if_pos rfl, if_neg (by omega : ¬ c = j), if_neg (by omega : ¬ c = i)]
    have := h.1 c h1 h2 (by omega)
    rw [h3] at this; exact this
theorem downL_ok : ∀ (f : Nat) (l : List It) (i n : Nat), n ≤ f + i → n ≤ l.length → DnI l n i → Heap (downL f l i n) n ∧ (downL f l i n).Perm l ∧ ∀ k, n ≤ k → i < l.length → (downL f l i n).getD k it0 = l.getD k it0
  | 0, l, i, n, hf, hn, h => ⟨fun c h1 h2 => h.1 c h1 h2 (by omega), .refl _, fun k _ _ => rfl⟩
  | f + 1, l, i, n, hf, hn, h => by
    unfold downL
    split
    · exact ⟨fun c h1 h2 => h.1 c h1 h2 (by omega), .refl _, fun k _ _ => rfl⟩
    · rename_i h0
      obtain ⟨c1, c2, c3, c4⟩ := chI_ok (l := l) (i := i) (n := n) (by omega)
      split
      · rename_i h1
        have h2 : ky l (chI l i n) < ky l i := of_decide_eq_true h1
        obtain ⟨h3, h4, h5⟩ := downL_ok f (swp l i (chI l i n)) (chI l i n) n (by omega) (by rw [swp_len]; exact hn) (dnI_step h hn c1 c2 c3 c4 h2)
        refine ⟨h3, h4.trans (swp_perm (by omega) (by omega)), fun k hk hi => ?_⟩
        rw [h5 k hk (by rw [swp_len]; omega), getD_swp hi (by omega), if_neg (by omega), if_neg (by omega)]
      · rename_i h1
        refine ⟨fun c h2 h3 => ?_, .refl _, fun k _ _ => rfl⟩
        by_cases e : (c - 1) / 2 = i
        · have h4 := c4 c h2 h3 e
          have h5 : ¬ ky l (chI l i n) < ky l i := fun h6 => h1 (decide_eq_true h6)
          rw [e]; omega
        · exact h.1 c h2 h3 e
theorem heap_min {l : List It} {n : Nat} (h : Heap l n) : ∀ (i : Nat), i < n → ky l 0 ≤ ky l i := by
  intro i
  induction i using Nat.strongRecOn with
  | ind i ih =>
    intro hi
    rcases Nat.eq_zero_or_pos i with e | e
    · subst e; exact Int.le_refl _
    · exact Int.le_trans (ih ((i - 1) / 2) (by omega) (by omega)) (h i e hi)
theorem pop_ok {l : List It} (h : Heap l l.length) (h0 : 0 < l.length) : Heap (popL l) (popL l).length ∧ l.Perm (popX l :: popL l) ∧ ∀ y ∈ popL l, (popX l).left ≤ y.left := by
  have hd : DnI (swp l 0 (l.length - 1)) (l.length - 1) 0 := by
    refine ⟨fun c h1 h2 h3 => ?_, fun c h1 h2 h3 h4 => by omega⟩
    rw [ky_swp h0 (by omega), ky_swp h0 (by omega), if_neg (by omega), if_neg h3, if_neg (by omega), if_neg (by omega)]
    exact h c h1 (by omega)
  obtain ⟨h1, h2, h3⟩ := downL_ok (l.length - 1) (swp l 0 (l.length - 1)) 0 (l.length - 1) (by omega) (by rw [swp_len]; omega) hd
  have hx : popX l = l.getD 0 it0 := by
    unfold popX popM
    rw [h3 _ (Nat.le_refl _) (by rw [swp_len]; exact h0), getD_swp h0 (by omega), if_pos rfl]
  have hp : (popM l).Perm l := h2.trans (swp_perm h0 (by omega))
  have e1 := popM_eq h0
  have hl : (popL l).length = l.length - 1 := by unfold popL; rw [List.length_take, popM_len]; omega
  have hq : l.Perm (popX l :: popL l) := by
    rw [e1] at hp
    exact hp.symm.trans (List.perm_append_singleton _ _)
  have K : ∀ k, k < l.length - 1 → ky (popL l) k = ky (popM l) k := fun k hk => by
    unfold ky
    conv => rhs; rw [e1]
    rw [getD_app (by omega)]
  refine ⟨?_, hq, fun y hy => ?_⟩
  · rw [hl]
    intro i hi1 hi2
    rw [K _ (by omega), K _ hi2]
    exact h1 i hi1 hi2
  · have hy2 : y ∈ l := hq.symm.subset (List.mem_cons_of_mem _ hy)
    obtain ⟨k, hk, e⟩ := List.getElem_of_mem hy2
    have h4 := heap_min h k hk
    rw [hx]
    unfold ky at h4
    have e2 : l.getD k it0 = y := by rw [List.getD_eq_getElem?_getD, List.getElem?_eq_getElem hk]; exact e
    rw [e2] at h4; exact h4
theorem nodup_len : ∀ {n : Nat} {l : List Int}, l.Nodup → (∀ k ∈ l, 0 ≤ k ∧ k < (n : Int)) → l.length ≤ n
  | 0, [], _, _ => Nat.le_refl _
  | 0, k :: r, _, h => by have := h k (.head _); omega
  | n + 1, l, hn, h => by
    have h1 := nodup_len (n := n) (l := l.filter (fun k => decide (k ≠ (n : Int)))) (hn.filter _) (fun k hk => by
      have h2 := List.mem_filter.1 hk
      have := h k h2.1
      have := of_decide_eq_true h2.2
      omega)
    have h3 : l.length ≤ (l.filter (fun k => decide (k ≠ (n : Int)))).length + 1 := by
      clear h1 h
      induction l with
      | nil => simp
      | cons a r ih =>
        have hn' := List.nodup_cons.1 hn
        by_cases e : a = (n : Int)
        · subst e
          have e2 : r.filter (fun k => decide (k ≠ (n : Int))) = r := List.filter_eq_self.2 (fun k hk => decide_eq_true (fun e => hn'.1 (e ▸ hk)))
          rw [List.filter_cons_of_neg (by simp), e2]
          simp
        · rw [List.filter_cons_of_pos (by simpa using e)]
          have := ih hn'.2
          simp only [List.length_cons]; omega
    omega
/-! ### the graph -/
def cadd (a b : Cl) : Cl := ⟨a.x + b.x, a.y + b.y, a.z + b.z⟩
def csub (a b : Cl) : Cl := ⟨a.x - b.x, a.y - b.y, a.z - b.z⟩
theorem cl_ext {a b : Cl} (h1 : a.x = b.x) (h2 : a.y = b.y) (h3 : a.z = b.z) : a = b := by cases a; cases b; simp_all
theorem cadd_csub (a b : Cl) : cadd a (csub b a) = b := cl_ext (by simp only [cadd, csub]; omega) (by simp only [cadd, csub]; omega) (by simp only [cadd, csub]; omega)
theorem csub_cadd (a b : Cl) : csub (cadd a b) a = b := cl_ext (by simp only [cadd, csub]; omega) (by simp only [cadd, csub]; omega) (by simp only [cadd, csub]; omega)
theorem csub_csub (a b : Cl) : csub a (csub a b) = b := cl_ext (by simp only [csub]; omega) (by simp only [csub]; omega) (by simp only [csub]; omega)
theorem cadd_csub' (a b : Cl) : cadd (csub a b) b = a := cl_ext (by simp only [cadd, csub]; omega) (by simp only [cadd, csub]; omega) (by simp only [cadd, csub]; omega)
theorem mem_ways {u : Cl} : u ∈ ways ↔ u = ⟨-1, 0, 0⟩ ∨ u = ⟨0, -1, 0⟩ ∨ u = ⟨0, 0, -1⟩ ∨ u = ⟨0, 0, 1⟩ ∨ u = ⟨0, 1, 0⟩ ∨ u = ⟨1, 0, 0⟩ := by simp [ways]
/-- A way is one step along one axis. -/
theorem way_one {u : Cl} : u ∈ ways ↔ (u.x = 0 ∧ u.y = 0 ∧ (u.z = 1 ∨ u.z = -1)) ∨ (u.x = 0 ∧ u.z = 0 ∧ (u.y = 1 ∨ u.y = -1)) ∨ (u.y = 0 ∧ u.z = 0 ∧ (u.x = 1 ∨ u.x = -1)) := by
  rw [mem_ways]
  constructor
  · intro h; rcases h with h | h | h | h | h | h <;> subst h <;> simp
  · intro h
    obtain ⟨x, y, z⟩ := u
    simp only [Cl.mk.injEq]
    simp only at h
    omega
theorem way_ne {u : Cl} (h : u ∈ ways) : u ≠ c0 := by
  intro e; subst e; rw [way_one] at h; unfold c0 at h; simp only at h; omega
def Fre (g : Gr) (c : Cl) : Prop := inB g c = true ∧ c ∉ g.bl
theorem inB_iff {g : Gr} {c : Cl} : inB g c = true ↔ 0 ≤ c.x ∧ c.x < g.nx ∧ 0 ≤ c.y ∧ c.y < g.ny ∧ 0 ≤ c.z ∧ c.z < g.nz := by unfold inB; simp [and_assoc]
theorem inB_24 {g : Gr} {c : Cl} (hs : szA g = true) (h : inB g c = true) : 0 ≤ c.x ∧ c.x < 24 ∧ 0 ≤ c.y ∧ c.y < 24 ∧ 0 ≤ c.z ∧ c.z < 24 := by
  have := szA_iff.1 hs; have := inB_iff.1 h; omega
theorem subW_small {a b : Cl} (h : I64 (a.x - b.x) ∧ I64 (a.y - b.y) ∧ I64 (a.z - b.z)) : subW a b = csub a b := by
  unfold subW csub
  rw [wrap_I64 h.1, wrap_I64 h.2.1, wrap_I64 h.2.2]
theorem subW_way {g : Gr} {c u : Cl} (hs : szA g = true) (h : inB g c = true) (hu : u ∈ ways) : subW c u = csub c u := by
  have := inB_24 hs h; have := way_one.1 hu
  exact subW_small (by unfold I64; omega)
theorem subW_in {g : Gr} {c d : Cl} (hs : szA g = true) (h : inB g c = true) (hd : inB g d = true) : subW c d = csub c d := by
  have := inB_24 hs h; have := inB_24 hs hd
  exact subW_small (by unfold I64; omega)
def stepP (bend : Int) (before by_ : Cl) : Int := if before = by_ ∨ before = c0 then 1 else 1 + bend
theorem stepP_bd {bend : Int} (hb : 0 ≤ bend) (u v : Cl) : 1 ≤ stepP bend u v ∧ stepP bend u v ≤ 1 + bend := by unfold stepP; split <;> omega
/-- A walk through free cells. -/
def wk (g : Gr) : Cl → List Cl → Prop
  | _, [] => True
  | c, d :: r => Fre g d ∧ csub d c ∈ ways ∧ wk g d r
def lastC : Cl → List Cl → Cl
  | c, [] => c
  | _, d :: r => lastC d r
def wc (bend : Int) : Cl → Cl → List Cl → Int
  | _, _, [] => 0
  | u, c, d :: r => stepP bend u (csub d c) + wc bend (csub d c) d r
theorem wc_nn {bend : Int} (hb : 0 ≤ bend) : ∀ (r : List Cl) (u c : Cl), (r.length : Int) ≤ wc bend u c r
  | [], u, c => by simp [wc]
  | d :: r, u, c => by
    have h1 := wc_nn hb r (csub d c) d
    have h2 := stepP_bd hb u (csub d c)
    simp only [wc, List.length_cons]; omega
def Snd (g : Gr) (bend : Int) (b c u : Cl) (n : Int) : Prop := ∃ r, wk g c r ∧ lastC c r = b ∧ wc bend u c r = n
theorem Snd.back {g : Gr} {bend : Int} {b c u v : Cl} {n : Int} (h : Snd g bend b c u n) (hc : Fre g c) (hu : u ∈ ways) : Snd g bend b (csub c u) v (n + stepP bend v u) := by
  obtain ⟨r, h1, h2, h3⟩ := h
  refine ⟨c :: r, ⟨hc, by rw [csub_csub]; exact hu, h1⟩, h2, ?_⟩
  simp only [wc, csub_csub, h3]; omega
theorem Snd.nn {g : Gr} {bend : Int} {b c u : Cl} {n : Int} (hb : 0 ≤ bend) (h : Snd g bend b c u n) : 0 ≤ n := by
  obtain ⟨r, _, _, h3⟩ := h
  have := wc_nn hb r u c; omega
/-- The known costs are those of the cheapest walks. -/
structure Know (g : Gr) (bend : Int) (b : Cl) (f : Cl → Cl → Option Int) : Prop where
  sm : ∀ c u n, f c u = some n → Snd g bend b c u n ∧ Fre g c ∧ (u ∈ ways ∨ u = c0)
  cm : ∀ r c u, wk g c r → Fre g c → lastC c r = b → u ∈ ways → ∃ n, f c u = some n ∧ n ≤ wc bend u c r
/-! ### the search of the program -/
abbrev KM := List ((Cl × Cl) × Int)
def Cov (q : List It) (m : KM) (c u : Cl) (n : Int) : Prop := (∃ n', vget m (c, u) = some n' ∧ n' ≤ n) ∨ ∃ it ∈ q, it.at_ = c ∧ it.by_ = u ∧ it.left ≤ n
structure FI (g : Gr) (bend : Int) (b : Cl) (q : List It) (m : KM) : Prop where
  heap : Heap q q.length
  sq : ∀ it ∈ q, Snd g bend b it.at_ it.by_ it.left ∧ Fre g it.at_ ∧ it.by_ ∈ ways
  sm : ∀ c u n, vget m (c, u) = some n → Snd g bend b c u n ∧ Fre g c ∧ u ∈ ways
  mono : ∀ it ∈ q, ∀ c u n, vget m (c, u) = some n → n ≤ it.left
  st : ∀ u ∈ ways, Cov q m b u 0
  cl : ∀ c u n, vget m (c, u) = some n → Fre g (csub c u) → ∀ v ∈ ways, Cov q m (csub c u) v (n + stepP bend v u)
  nd : (m.map (·.1)).Nodup
def pushAll (q : List It) (c : Cl) (f : Cl → Int) (ws : List Cl) : List It := ws.foldl (fun q u => pushH q ⟨c, u, f u⟩) q
theorem pushAll_ok (c : Cl) (f : Cl → Int) : ∀ (ws : List Cl) (q : List It), Heap q q.length → Heap (pushAll q c f ws) (pushAll q c f ws).length ∧ (pushAll q c f ws).Perm (q ++ ws.map fun u => ⟨c, u, f u⟩)
  | [], q, h => ⟨h, by simp [pushAll]⟩
  | u :: ws, q, h => by
    have h1 := pushH_ok ⟨c, u, f u⟩ h
    have h2 := pushAll_ok c f ws _ h1.1
    refine ⟨h2.1, h2.2.trans ((h1.2.append_right _).trans ?_)⟩
    rw [List.append_assoc]; rfl
theorem pushAll_len {q : List It} {c : Cl} {f : Cl → Int} {ws : List Cl} (h : Heap q q.length) : (pushAll q c f ws).length = q.length + ws.length := by
  rw [(pushAll_ok c f ws q h).2.length_eq, List.length_append, List.length_map]
theorem pushAll_snoc (q : List It) (c : Cl) (f : Cl → Int) (ws : List Cl) (u : Cl) : pushAll q c f (ws ++ [u]) = pushH (pushAll q c f ws) ⟨c, u, f u⟩ := by
  unfold pushAll; rw [List.foldl_append]; rfl
theorem pushAll_mem {q : List It} {c : Cl} {f : Cl → Int} {ws : List Cl} {x : It} (h : Heap q q.length) : x ∈ pushAll q c f ws ↔ x ∈ q ∨ ∃ u ∈ ws, x = ⟨c, u, f u⟩ := by
  rw [(pushAll_ok c f ws q h).2.mem_iff, List.mem_append, List.mem_map]
  exact or_congr Iff.rfl ⟨fun ⟨u, h1, h2⟩ => ⟨u, h1, h2.symm⟩, fun ⟨u, h1, h2⟩ => ⟨u, h1, h2.symm⟩⟩
theorem heap_nil : Heap [] 0 := fun i h1 h2 => by omega
theorem FI.init {g : Gr} {bend : Int} {b : Cl} (hb : Fre g b) : FI g bend b (pushAll [] b (fun _ => 0) ways) [] := by
  have hm := fun x => @pushAll_mem [] b (fun _ => 0) ways x heap_nil
  refine ⟨(pushAll_ok _ _ ways [] heap_nil).1, fun it h => ?_, fun c u n h => (by cases h), fun it _ c u n h => (by cases h), fun u hu => .inr ⟨⟨b, u, 0⟩, (hm _).2 (.inr ⟨u, hu, rfl⟩), rfl, rfl, Int.le_refl _⟩, fun c u n h => (by cases h), List.nodup_nil⟩
  rcases (hm it).1 h with h | ⟨u, hu, rfl⟩
  · cases h
  · exact ⟨⟨[], trivial, rfl, rfl⟩, hb, hu⟩
theorem Cov.le {q : List It} {m : KM} {c u : Cl} {n n' : Int} (h : Cov q m c u n) (k : n ≤ n') : Cov q m c u n' := by
  rcases h with ⟨a, h1, h2⟩ | ⟨it, h1, h2, h3, h4⟩
  · exact .inl ⟨a, h1, by omega⟩
  · exact .inr ⟨it, h1, h2, h3, by omega⟩
theorem FI.known {g : Gr} {bend : Int} {b : Cl} {q : List It} {m : KM} {k : Int} (h : FI g bend b q m) (h0 : 0 < q.length) (hk : vget m ((popX q).at_, (popX q).by_) = some k) : FI g bend b (popL q) m := by
  obtain ⟨h1, h2, h3⟩ := pop_ok h.heap h0
  have hx : popX q ∈ q := h2.symm.subset (.head _)
  have hs : ∀ y ∈ popL q, y ∈ q := fun y hy => h2.symm.subset (.tail _ hy)
  have hkx := h.mono _ hx _ _ _ hk
  have hc : ∀ c u n, Cov q m c u n → Cov (popL q) m c u n := by
    rintro c u n (⟨a, h4, h5⟩ | ⟨it, h4, h5, h6, h7⟩)
    · exact .inl ⟨a, h4, h5⟩
    · rcases List.mem_cons.1 (h2.subset h4) with e | e
      · subst e; subst h5; subst h6; exact .inl ⟨k, hk, by omega⟩
      · exact .inr ⟨it, e, h5, h6, h7⟩
  exact ⟨h1, fun it hi => h.sq it (hs it hi), h.sm, fun it hi => h.mono it (hs it hi), fun u hu => hc _ _ _ (h.st u hu), fun c u n h4 h5 v hv => hc _ _ _ (h.cl c u n h4 h5 v hv), h.nd⟩
theorem vget_none_key {m : KM} {x : Cl × Cl} (h : vget m x = none) : x ∉ m.map (·.1) := by
  induction m with
  | nil => simp
  | cons p r ih =>
    obtain ⟨y, v⟩ := p
    simp only [vget] at h
    split at h
    · cases h
    · rename_i hne
      simp only [List.map_cons, List.mem_cons, not_or]
      exact ⟨hne, ih h⟩
theorem vget_some_key {m : KM} {x : Cl × Cl} (h : x ∈ m.map (·.1)) : ∃ v, vget m x = some v := by
  cases e : vget m x with
  | some v => exact ⟨v, rfl⟩
  | none => exact (vget_none_key e h).elim
theorem vput_new {m : KM} {x : Cl × Cl} {v : Int} (h : vget m x = none) : vput m x v = m ++ [(x, v)] := by
  apply vput_none (k := 0)
  rw [vget_find m x 0] at h
  cases e : vfind m x 0 with
  | none => rfl
  | some p => rw [e] at h; cases h
theorem FI.take {g : Gr} {bend : Int} {b : Cl} {q q2 : List It} {m : KM} (hbd : 0 ≤ bend) (h : FI g bend b q m) (h0 : 0 < q.length) (hk : vget m ((popX q).at_, (popX q).by_) = none)
    (hh : Heap q2 q2.length) (hin : ∀ it ∈ popL q, it ∈ q2) (hout : ∀ it ∈ q2, it ∈ popL q ∨ (Fre g (csub (popX q).at_ (popX q).by_) ∧ ∃ v ∈ ways, it = ⟨csub (popX q).at_ (popX q).by_, v, (popX q).left + stepP bend v (popX q).by_⟩))
    (hall : Fre g (csub (popX q).at_ (popX q).by_) → ∀ v ∈ ways, (⟨csub (popX q).at_ (popX q).by_, v, (popX q).left + stepP bend v (popX q).by_⟩ : It) ∈ q2) : FI g bend b q2 (vput m ((popX q).at_, (popX q).by_) (popX q).left) := by
  obtain ⟨h1, h2, h3⟩ := pop_ok h.heap h0
  have hx : popX q ∈ q := h2.symm.subset (.head _)
  have hs : ∀ y ∈ popL q, y ∈ q := fun y hy => h2.symm.subset (.tail _ hy)
  obtain ⟨s1, s2, s3⟩ := h.sq _ hx
  obtain ⟨x, ex⟩ : ∃ x, x = popX q := ⟨_, rfl⟩
  rw [← ex] at hk hout hall h2 h3 hx s1 s2 s3 ⊢
  have hput : ∀ c u, vget (vput m (x.at_, x.by_) x.left) (c, u) = if (c, u) = (x.at_, x.by_) then some x.left else vget m (c, u) := fun c u => vget_put m _ _ _
  have hc : ∀ c u n, Cov q m c u n → Cov q2 (vput m (x.at_, x.by_) x.left) c u n := by
    rintro c u n (⟨a, h4, h5⟩ | ⟨it, h4, h5, h6, h7⟩)
    · refine .inl ⟨a, ?_, h5⟩
      rw [hput, if_neg (fun e => by rw [e, hk] at h4; cases h4)]; exact h4
    · rcases List.mem_cons.1 (h2.subset h4) with e | e
      · subst e; subst h5; subst h6; exact .inl ⟨_, by rw [hput, if_pos rfl], h7⟩
      · exact .inr ⟨it, hin it e, h5, h6, h7⟩
  refine ⟨hh, fun it hi => ?_, fun c u n hn => ?_, fun it hi c u n hn => ?_, fun u hu => hc _ _ _ (h.st u hu), fun c u n hn hf v hv => ?_, ?_⟩
  · rcases hout it hi with e | ⟨e1, v, e2, e3⟩
    · exact h.sq it (hs it e)
    · subst e3; exact ⟨s1.back s2 s3, e1, e2⟩
  · rw [hput] at hn
    split at hn
    · rename_i e; cases e; cases hn; exact ⟨s1, s2, s3⟩
    · exact h.sm c u n hn
  · have hle : n ≤ x.left := by
      rw [hput] at hn
      split at hn
      · cases hn; exact Int.le_refl _
      · exact h.mono x hx c u n hn
    rcases hout it hi with e | ⟨e1, v, e2, e3⟩
    · exact Int.le_trans hle (h3 it e)
    · subst e3
      have := stepP_bd hbd v x.by_
      show n ≤ x.left + _; omega
  · rw [hput] at hn
    split at hn
    · rename_i e; cases e; cases hn
      exact .inr ⟨_, hall hf v hv, rfl, rfl, Int.le_refl _⟩
    · exact hc _ _ _ (h.cl c u n hn hf v hv)
  · rw [vput_new hk, List.map_append, List.nodup_append]
    refine ⟨h.nd, by simp, fun a ha b hb => ?_⟩
    simp only [List.map_cons, List.map_nil, List.mem_singleton] at hb
    subst hb
    intro e; subst e
    exact vget_none_key hk ha
theorem FI.dead {g : Gr} {bend : Int} {b : Cl} {q : List It} {m : KM} (hbd : 0 ≤ bend) (h : FI g bend b q m) (h0 : 0 < q.length) (hk : vget m ((popX q).at_, (popX q).by_) = none) (hf : ¬ Fre g (csub (popX q).at_ (popX q).by_)) : FI g bend b (popL q) (vput m ((popX q).at_, (popX q).by_) (popX q).left) :=
  h.take hbd h0 hk (pop_ok h.heap h0).1 (fun it hi => hi) (fun it hi => .inl hi) (fun e => (hf e).elim)
theorem FI.next {g : Gr} {bend : Int} {b : Cl} {q : List It} {m : KM} (hbd : 0 ≤ bend) (h : FI g bend b q m) (h0 : 0 < q.length) (hk : vget m ((popX q).at_, (popX q).by_) = none) (hf : Fre g (csub (popX q).at_ (popX q).by_)) :
    FI g bend b (pushAll (popL q) (csub (popX q).at_ (popX q).by_) (fun v => (popX q).left + stepP bend v (popX q).by_) ways) (vput m ((popX q).at_, (popX q).by_) (popX q).left) := by
  have hh := (pop_ok h.heap h0).1
  have hm := fun x => @pushAll_mem (popL q) (csub (popX q).at_ (popX q).by_) (fun v => (popX q).left + stepP bend v (popX q).by_) ways x hh
  refine h.take hbd h0 hk (pushAll_ok _ _ ways _ hh).1 (fun it hi => (hm it).2 (.inl hi)) (fun it hi => ?_) (fun e v hv => (hm _).2 (.inr ⟨v, hv, rfl⟩))
  rcases (hm it).1 hi with e | ⟨v, hv, e⟩
  · exact .inl e
  · exact .inr ⟨hf, v, hv, e⟩
theorem FI.done {g : Gr} {bend : Int} {b : Cl} {m : KM} (h : FI g bend b [] m) : Know g bend b fun c u => vget m (c, u) := by
  refine ⟨fun c u n hn => ?_, ?_⟩
  · obtain ⟨h1, h2, h3⟩ := h.sm c u n hn; exact ⟨h1, h2, .inl h3⟩
  intro r
  induction r with
  | nil =>
    intro c u _ _ hl hu
    rw [show c = b from hl]
    rcases h.st u hu with h1 | ⟨it, h1, _⟩
    · exact h1
    · cases h1
  | cons d r ih =>
    intro c u hw hc hl hu
    obtain ⟨n, h1, h2⟩ := ih d (csub d c) hw.2.2 hw.1 hl hw.2.1
    have h3 := h.cl d (csub d c) n h1 (by rw [csub_csub]; exact hc) u hu
    rw [csub_csub] at h3
    rcases h3 with ⟨n', h4, h5⟩ | ⟨it, h4, _⟩
    · exact ⟨n', h4, by simp only [wc]; omega⟩
    · cases h4
/-- How many keys there can be. -/
def codeK (k : Cl × Cl) : Int := ((k.1.x * 24 + k.1.y) * 24 + k.1.z) * 7 + (3 * k.2.x + 2 * k.2.y + k.2.z + 3)
theorem FI.len {g : Gr} {bend : Int} {b : Cl} {q : List It} {m : KM} (hs : szA g = true) (h : FI g bend b q m) : m.length ≤ 96768 := by
  have hk : ∀ k ∈ m.map (·.1), inB g k.1 = true ∧ k.2 ∈ ways := fun k hk => by
    obtain ⟨v, hv⟩ := vget_some_key hk
    obtain ⟨h1, h2, h3⟩ := h.sm k.1 k.2 v hv
    exact ⟨h2.1, h3⟩
  have h1 : ((m.map (·.1)).map codeK).Nodup := by
    unfold List.Nodup
    rw [List.pairwise_map]
    refine List.Pairwise.imp_of_mem (fun {a b} ha hb hne e => hne ?_) h.nd
    obtain ⟨a1, a2⟩ := hk a ha
    obtain ⟨b1, b2⟩ := hk b hb
    have := inB_24 hs a1; have := inB_24 hs b1
    have := way_one.1 a2; have := way_one.1 b2
    obtain ⟨⟨a1, a2, a3⟩, ⟨a4, a5, a6⟩⟩ := a
    obtain ⟨⟨b1, b2, b3⟩, ⟨b4, b5, b6⟩⟩ := b
    unfold codeK at e
    simp only at *
    simp only [Prod.mk.injEq, Cl.mk.injEq]
    omega
  have h2 := nodup_len (n := 96768) h1 (fun k hk2 => by
    obtain ⟨y, hy, rfl⟩ := List.mem_map.1 hk2
    obtain ⟨y1, y2⟩ := hk y hy
    have := inB_24 hs y1; have := way_one.1 y2
    unfold codeK; omega)
  simpa using h2

end Go.Proofs.Ythddekipelbooaa
