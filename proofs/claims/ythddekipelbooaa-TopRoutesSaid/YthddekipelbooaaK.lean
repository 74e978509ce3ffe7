/- Plain laws of chapter 44 (route): the first cheapest walk. -/
import Derived.Test.YthddekipelbooaaJ
namespace Go.Proofs.Ythddekipelbooaa
open Go Go.RowKit Core
set_option linter.unusedVariables false
set_option linter.unusedSimpArgs false
attribute [local irreducible] wpQuiet wpList wpH wpT Code.wp Calls bodyPost act


theorem lastC_app (s t : List Cl) : ∀ c, lastC c (s ++ t) = lastC (lastC c s) t := by
  induction s with
  | nil => intro c; rfl
  | cons d r ih => intro c; exact ih d
theorem wk_app {g : Gr} (s t : List Cl) : ∀ c, wk g c (s ++ t) ↔ wk g c s ∧ wk g (lastC c s) t := by
  induction s with
  | nil => intro c; simp [wk, lastC]
  | cons d r ih => intro c; simp only [List.cons_append, wk, lastC, ih d, and_assoc]
/-- The direction in which a walk ends. -/
def dirC : Cl → Cl → List Cl → Cl
  | u, _, [] => u
  | _, c, d :: r => dirC (csub d c) d r
theorem wc_app {bend : Int} (s t : List Cl) : ∀ u c, wc bend u c (s ++ t) = wc bend u c s + wc bend (dirC u c s) (lastC c s) t := by
  induction s with
  | nil => intro u c; simp [wc, dirC, lastC]
  | cons d r ih => intro u c; simp only [List.cons_append, wc, dirC, lastC, ih]; omega
theorem dirC_app (s t : List Cl) : ∀ u c, dirC u c (s ++ t) = dirC (dirC u c s) (lastC c s) t := by
  induction s with
  | nil => intro u c; rfl
  | cons d r ih => intro u c; exact ih _ _
theorem wk_last {g : Gr} {c : Cl} : ∀ {r : List Cl}, Fre g c → wk g c r → Fre g (lastC c r) := by
  intro r
  induction r generalizing c with
  | nil => intro h _; exact h
  | cons d r ih => intro _ h; exact ih h.1 h.2.2
theorem wk_all {g : Gr} : ∀ {r : List Cl} {c : Cl}, wk g c r → ∀ x ∈ r, Fre g x
  | [], c, _, x, h => by cases h
  | d :: r, c, h, x, hx => by
    rcases List.mem_cons.1 hx with e | e
    · rw [e]; exact h.1
    · exact wk_all h.2.2 x e
/-- n is the least cost from c, come to by u, to b. -/
def Lst (g : Gr) (bend : Int) (b c u : Cl) (n : Int) : Prop := Snd g bend b c u n ∧ ∀ r, wk g c r → lastC c r = b → n ≤ wc bend u c r
theorem Lst.uniq {g : Gr} {bend : Int} {b c u : Cl} {n n' : Int} (h : Lst g bend b c u n) (k : Lst g bend b c u n') : n = n' := by
  obtain ⟨⟨r, h1, h2, h3⟩, h4⟩ := h
  obtain ⟨⟨r', k1, k2, k3⟩, k4⟩ := k
  have := h4 r' k1 k2; have := k4 r h1 h2; omega
theorem Lst.ex {g : Gr} {bend : Int} (hb : 0 ≤ bend) {b c : Cl} (u : Cl) : ∀ (k : Nat) (r : List Cl), wk g c r → lastC c r = b → wc bend u c r ≤ k → ∃ n, Lst g bend b c u n := by
  intro k
  induction k with
  | zero =>
    intro r h1 h2 h3
    have h4 := wc_nn hb r u c
    exact ⟨wc bend u c r, ⟨r, h1, h2, rfl⟩, fun r' _ _ => by have := wc_nn hb r' u c; omega⟩
  | succ k ih =>
    intro r h1 h2 h3
    by_cases h : ∃ r', wk g c r' ∧ lastC c r' = b ∧ wc bend u c r' ≤ k
    · obtain ⟨r', a1, a2, a3⟩ := h; exact ih r' a1 a2 a3
    · refine ⟨wc bend u c r, ⟨r, h1, h2, rfl⟩, fun r' a1 a2 => ?_⟩
      have h5 : ¬ wc bend u c r' ≤ k := fun a3 => h ⟨r', a1, a2, a3⟩
      omega
theorem Lst.of {g : Gr} {bend : Int} (hb : 0 ≤ bend) {b c : Cl} (u : Cl) {r : List Cl} (h1 : wk g c r) (h2 : lastC c r = b) : ∃ n, Lst g bend b c u n ∧ n ≤ wc bend u c r := by
  have h3 := wc_nn hb r u c
  obtain ⟨n, hn⟩ := Lst.ex (bend := bend) hb u (wc bend u c r).toNat r h1 h2 (by omega)
  exact ⟨n, hn, hn.2 r h1 h2⟩
theorem Know.lst {g : Gr} {bend : Int} {b c u : Cl} {f : Cl → Cl → Option Int} {n : Int} (h : Know g bend b f) (hn : f c u = some n) (hu : u ∈ ways) : Lst g bend b c u n := by
  obtain ⟨h1, h2, _⟩ := h.sm c u n hn
  refine ⟨h1, fun r h3 h4 => ?_⟩
  obtain ⟨n', h5, h6⟩ := h.cm r c u h3 h2 h4 hu
  rw [hn] at h5; cases h5; exact h6
theorem Know.of {g : Gr} {bend : Int} {b c u : Cl} {f : Cl → Cl → Option Int} (h : Know g bend b f) (hc : Fre g c) (hu : u ∈ ways) {n : Int} (hn : Lst g bend b c u n) : f c u = some n := by
  obtain ⟨r, h1, h2, _⟩ := hn.1
  obtain ⟨n', h5, h6⟩ := h.cm r c u h1 hc h2 hu
  rw [h5, (h.lst h5 hu).uniq hn]
/-- d is the first of the best cells next to c, and n the cost over it. -/
def Best (g : Gr) (bend : Int) (b c u d : Cl) (n : Int) : Prop := Fre g d ∧ csub d c ∈ ways ∧ (∃ k, Lst g bend b d (csub d c) k ∧ n = k + stepP bend u (csub d c)) ∧
  ∀ e k', Fre g e → csub e c ∈ ways → Lst g bend b e (csub e c) k' → n ≤ k' + stepP bend u (csub e c) ∧ (Lt e d → n < k' + stepP bend u (csub e c))
theorem Best.uniq {g : Gr} {bend : Int} {b c u d d' : Cl} {n n' : Int} (h : Best g bend b c u d n) (k : Best g bend b c u d' n') : d = d' ∧ n = n' := by
  obtain ⟨h1, h2, ⟨k1, h3, h4⟩, h5⟩ := h
  obtain ⟨h1', h2', ⟨k1', h3', h4'⟩, h5'⟩ := k
  have a := h5 d' k1' h1' h2' h3'
  have a' := h5' d k1 h1 h2 h3
  have e : n = n' := by omega
  refine ⟨?_, e⟩
  rcases Lt.tri d d' with t | t | t
  · have := a'.2 t; omega
  · exact t
  · have := a.2 t; omega
theorem Best.lst {g : Gr} {bend : Int} (hb : 0 ≤ bend) {b c u d : Cl} {n : Int} (hc : c ≠ b) (h : Best g bend b c u d n) : Lst g bend b c u n := by
  obtain ⟨h1, h2, ⟨k1, h3, h4⟩, h5⟩ := h
  obtain ⟨⟨r, a1, a2, a3⟩, a4⟩ := h3
  refine ⟨⟨d :: r, ⟨h1, h2, a1⟩, a2, by simp only [wc]; omega⟩, fun r' b1 b2 => ?_⟩
  cases r' with
  | nil => exact (hc b2).elim
  | cons e r' =>
    obtain ⟨k', c1, c2⟩ := Lst.of (bend := bend) hb (csub e c) b1.2.2 b2
    have := (h5 e k' b1.1 b1.2.1 c1).1
    simp only [wc]; omega
/-- The path that goes on by the first best cell each time. -/
def Gd (g : Gr) (bend : Int) (b : Cl) : Cl → Cl → List Cl → Prop
  | _, c, [] => c = b
  | u, c, d :: r => c ≠ b ∧ (∃ n, Best g bend b c u d n) ∧ Gd g bend b (csub d c) d r
theorem Gd.uniq {g : Gr} {bend : Int} {b : Cl} : ∀ {r r' : List Cl} {u c : Cl}, Gd g bend b u c r → Gd g bend b u c r' → r = r'
  | [], [], _, _, _, _ => rfl
  | [], _ :: _, _, _, h, k => (k.1 h).elim
  | _ :: _, [], _, _, h, k => (h.1 k).elim
  | d :: r, d' :: r', u, c, h, k => by
    obtain ⟨_, ⟨n, h1⟩, h2⟩ := h
    obtain ⟨_, ⟨n', k1⟩, k2⟩ := k
    obtain ⟨e, _⟩ := h1.uniq k1
    subst e
    rw [Gd.uniq h2 k2]
theorem Gd.lst {g : Gr} {bend : Int} (hb : 0 ≤ bend) {b : Cl} : ∀ {r : List Cl} {u c : Cl}, Gd g bend b u c r → wk g c r ∧ lastC c r = b ∧ Lst g bend b c u (wc bend u c r)
  | [], u, c, h => ⟨trivial, h, ⟨[], trivial, h, rfl⟩, fun r _ _ => by have := wc_nn hb r u c; simp only [wc]; omega⟩
  | d :: r, u, c, h => by
    obtain ⟨h0, ⟨n, h1⟩, h2⟩ := h
    obtain ⟨a1, a2, a3⟩ := Gd.lst hb h2
    have hl := h1.lst hb h0
    obtain ⟨h3, h4, ⟨k1, h5, h6⟩, h7⟩ := h1
    have e := h5.uniq a3
    refine ⟨⟨h3, h4, a1⟩, a2, ?_⟩
    simp only [wc]
    rw [show stepP bend u (csub d c) + wc bend (csub d c) d r = n by omega]
    exact hl
theorem Gd.app {g : Gr} {bend : Int} {b : Cl} : ∀ (s : List Cl) {t : List Cl} {u c : Cl}, Gd g bend b u c (s ++ t) → Gd g bend b (dirC u c s) (lastC c s) t
  | [], _, _, _, h => h
  | _ :: s, _, _, _, h => Gd.app s h.2.2
theorem Gd.inner {g : Gr} {bend : Int} {b : Cl} (s : List Cl) {d : Cl} {t : List Cl} {u c : Cl} (h : Gd g bend b u c (s ++ d :: t)) : lastC c s ≠ b := (Gd.app s h).1
/-- What the cells next to a cell tell of the costs. -/
def nxtF (f : Cl → Option Int) : List Cl → Option (Cl × Int) → Option (Cl × Int)
  | [], acc => acc
  | v :: r, acc => nxtF f r (match f v with | none => acc | some n => match acc with | none => some (v, n) | some (a, k) => if n < k then some (v, n) else some (a, k))
def nxA (acc : Option (Cl × Int)) (v : Cl) (o : Option Int) : Option (Cl × Int) := match o with | none => acc | some n => match acc with | none => some (v, n) | some (a, k) => if n < k then some (v, n) else some (a, k)
theorem nxtF_cons (f : Cl → Option Int) (v : Cl) (r : List Cl) (acc : Option (Cl × Int)) : nxtF f (v :: r) acc = nxtF f r (nxA acc v (f v)) := rfl
theorem nxtF_spec (f : Cl → Option Int) : ∀ (ws : List Cl) (acc : Option (Cl × Int)), match nxtF f ws acc with
    | none => acc = none ∧ ∀ v ∈ ws, f v = none
    | some (v, n) => (acc = some (v, n) ∧ ∀ v' ∈ ws, ∀ n', f v' = some n' → n ≤ n') ∨ ∃ pre post, ws = pre ++ v :: post ∧ f v = some n ∧ (∀ v' ∈ pre, ∀ n', f v' = some n' → n < n') ∧ (∀ v' ∈ post, ∀ n', f v' = some n' → n ≤ n') ∧ ∀ a k, acc = some (a, k) → n < k
  | [], acc => by
    cases acc with
    | none => exact ⟨rfl, fun v h => by cases h⟩
    | some p => exact .inl ⟨rfl, fun v h => by cases h⟩
  | w :: ws, acc => by
    have ih := nxtF_spec f ws (nxA acc w (f w))
    rw [nxtF_cons]
    cases e : nxtF f ws (nxA acc w (f w)) with
    | none =>
      rw [e] at ih
      obtain ⟨h1, h2⟩ := ih
      unfold nxA at h1
      cases ef : f w with
      | none =>
        rw [ef] at h1
        exact ⟨h1, fun v hv => by rcases List.mem_cons.1 hv with e | e; rw [e]; exact ef; exact h2 v e⟩
      | some n =>
        rw [ef] at h1
        cases acc with
        | none => cases h1
        | some p => obtain ⟨a, k⟩ := p; simp only at h1; split at h1 <;> cases h1
    | some p =>
      obtain ⟨v, n⟩ := p
      rw [e] at ih
      rcases ih with ⟨h1, h2⟩ | ⟨pre, post, h1, h2, h3, h4, h5⟩
      · unfold nxA at h1
        cases ef : f w with
        | none =>
          rw [ef] at h1
          refine .inl ⟨h1, fun v' hv n' hn => ?_⟩
          rcases List.mem_cons.1 hv with e | e
          · rw [e, ef] at hn; cases hn
          · exact h2 v' e n' hn
        | some n1 =>
          rw [ef] at h1
          cases acc with
          | none =>
            simp only [Option.some.injEq, Prod.mk.injEq] at h1
            obtain ⟨rfl, rfl⟩ := h1
            exact .inr ⟨[], ws, rfl, ef, fun _ h => (by cases h), h2, fun a k h => (by cases h)⟩
          | some p =>
            obtain ⟨a, k⟩ := p
            simp only at h1
            split at h1
            · rename_i hlt
              simp only [Option.some.injEq, Prod.mk.injEq] at h1
              obtain ⟨rfl, rfl⟩ := h1
              exact .inr ⟨[], ws, rfl, ef, fun _ h => (by cases h), h2, fun a' k' h => (by cases h; exact hlt)⟩
            · rename_i hlt
              refine .inl ⟨h1, fun v' hv n' hn => ?_⟩
              simp only [Option.some.injEq, Prod.mk.injEq] at h1
              rcases List.mem_cons.1 hv with e | e
              · rw [e, ef] at hn; cases hn; omega
              · exact h2 v' e n' hn
      · refine .inr ⟨w :: pre, post, by rw [h1]; rfl, h2, fun v' hv n' hn => ?_, h4, fun a k ha => ?_⟩
        · rcases List.mem_cons.1 hv with e | e
          · subst e
            unfold nxA at h5
            rw [hn] at h5
            cases acc with
            | none => exact h5 _ _ rfl
            | some p =>
              obtain ⟨a, k⟩ := p
              by_cases hlt : n' < k
              · exact h5 v' _ (by simp [hlt])
              · have := h5 a k (by simp [hlt]); omega
          · exact h3 v' e n' hn
        · subst ha
          unfold nxA at h5
          cases ef : f w with
          | none => rw [ef] at h5; exact h5 _ _ rfl
          | some n1 =>
            rw [ef] at h5
            by_cases hlt : n1 < k
            · have := h5 w n1 (by simp [hlt]); omega
            · exact h5 a _ (by simp [hlt])
theorem ways_asc {pre post : List Cl} {v : Cl} (h : ways = pre ++ v :: post) : (∀ u ∈ pre, Lt u v) ∧ ∀ u ∈ post, Lt v u := by
  have hp : ways.Pairwise Lt := by unfold ways Lt; simp
  rw [h, List.pairwise_append] at hp
  obtain ⟨_, h2, h3⟩ := hp
  exact ⟨fun u hu => h3 u hu v (.head _), fun u hu => (List.pairwise_cons.1 h2).1 u hu⟩
theorem Lt.cadd {c u v : Cl} : Lt (cadd c u) (cadd c v) ↔ Lt u v := by unfold Lt Go.Proofs.Ythddekipelbooaa.cadd; simp only; omega
/-- The costs of the cells next to c. -/
def candF (g : Gr) (bend : Int) (f : Cl → Cl → Option Int) (c u v : Cl) : Option Int := (f (cadd c v) v).map fun k => k + stepP bend u v
theorem cand_some {g : Gr} {bend : Int} {b c u v : Cl} {f : Cl → Cl → Option Int} {n : Int} (h : Know g bend b f) (hv : v ∈ ways) : candF g bend f c u v = some n ↔ Fre g (cadd c v) ∧ ∃ k, Lst g bend b (cadd c v) v k ∧ n = k + stepP bend u v := by
  unfold candF
  rw [Option.map_eq_some_iff]
  constructor
  · rintro ⟨k, h1, h2⟩; exact ⟨(h.sm _ _ _ h1).2.1, k, h.lst h1 hv, h2.symm⟩
  · rintro ⟨h1, k, h2, h3⟩; exact ⟨k, h.of h1 hv h2, h3.symm⟩
theorem nxt_best {g : Gr} {bend : Int} {b c u v : Cl} {f : Cl → Cl → Option Int} {n : Int} (h : Know g bend b f) (e : nxtF (candF g bend f c u) ways none = some (v, n)) : v ∈ ways ∧ Best g bend b c u (cadd c v) n := by
  have hs := nxtF_spec (candF g bend f c u) ways none
  rw [e] at hs
  rcases hs with ⟨h1, _⟩ | ⟨pre, post, h1, h2, h3, h4, _⟩
  · cases h1
  obtain ⟨w1, w2⟩ := ways_asc h1
  have hv : v ∈ ways := by rw [h1]; simp
  obtain ⟨c1, k, c2, c3⟩ := (cand_some h hv).1 h2
  refine ⟨hv, c1, by rw [csub_cadd]; exact hv, ⟨k, by rw [csub_cadd]; exact c2, by rw [csub_cadd]; exact c3⟩, fun d k' hd hw hk => ?_⟩
  have hcd : candF g bend f c u (csub d c) = some (k' + stepP bend u (csub d c)) := (cand_some h hw).2 ⟨by rw [cadd_csub]; exact hd, k', by rw [cadd_csub]; exact hk, rfl⟩
  have hl : Lt d (cadd c v) ↔ Lt (csub d c) v := by conv => lhs; rw [← cadd_csub c d, Lt.cadd]
  rw [hl]
  have hm : csub d c ∈ pre ++ v :: post := h1 ▸ hw
  rcases List.mem_append.1 hm with m | m
  · have := h3 _ m _ hcd; exact ⟨by omega, fun _ => this⟩
  · rcases List.mem_cons.1 m with m | m
    · rw [m] at hcd ⊢; rw [h2] at hcd; cases hcd; exact ⟨Int.le_refl _, fun t => (Lt.irr t).elim⟩
    · have := h4 _ m _ hcd; exact ⟨this, fun t => (Lt.irr (t.trans (w2 _ m))).elim⟩
theorem nxt_none {g : Gr} {bend : Int} {b c u : Cl} {f : Cl → Cl → Option Int} (hb : 0 ≤ bend) (h : Know g bend b f) (hc : c ≠ b) (e : nxtF (candF g bend f c u) ways none = none) : ¬ ∃ r, wk g c r ∧ lastC c r = b := by
  have hs := nxtF_spec (candF g bend f c u) ways none
  rw [e] at hs
  rintro ⟨r, h1, h2⟩
  cases r with
  | nil => exact hc h2
  | cons d r =>
    obtain ⟨k, a1, _⟩ := Lst.of (bend := bend) hb (csub d c) h1.2.2 h2
    have := (cand_some (u := u) h h1.2.1).2 ⟨by rw [cadd_csub]; exact h1.1, k, by rw [cadd_csub]; exact a1, rfl⟩
    rw [hs.2 _ h1.2.1] at this; cases this

end Go.Proofs.Ythddekipelbooaa
