/- Plain laws of chapter 44 (route): the cheapest path is valid, first in order, the same back, never cheaper with more in the way. -/
import Derived.Test.YthddekipelbooaaPa
namespace Go.Proofs.Ythddekipelbooaa
open Go Go.RowKit Core
set_option linter.unusedVariables false
set_option linter.unusedSimpArgs false
attribute [local irreducible] wpQuiet wpList wpH wpT Code.wp Calls bodyPost act


theorem near_in {g : Gr} {c d : Cl} (hs : szA g = true) (hc : inB g c = true) (hd : inB g d = true) : nearB c d = decide (csub d c ∈ ways) := by unfold nearB; rw [subW_in hs hd hc]
theorem cp_ok {g : Gr} (hs : szA g = true) : ∀ (l seen : List Cl) (q : Cl), inB g q = true → (cpL g seen (some q) l = 0 ↔ wk g q l ∧ (∀ x ∈ l, x ∉ seen) ∧ l.Nodup)
  | [], seen, q, _ => by simp [cpL, wk]
  | c :: r, seen, q, hq => by
    have ih := fun h => cp_ok hs r (seen ++ [c]) c h
    unfold cpL
    by_cases h1 : inB g c = true
    · rw [if_neg (fun h => h h1)]
      by_cases h2 : c ∈ g.bl
      · rw [if_pos h2]
        constructor
        · intro h; omega
        · rintro ⟨⟨⟨_, h3⟩, _⟩, _⟩; exact (h3 h2).elim
      · rw [if_neg h2, show nrB (some q) c = nearB q c from rfl, near_in hs hq h1]
        by_cases h3 : csub c q ∈ ways
        · rw [if_neg (fun h => h (decide_eq_true h3))]
          by_cases h4 : c ∈ seen
          · rw [if_pos h4]
            constructor
            · intro h; omega
            · rintro ⟨_, h5, _⟩; exact (h5 c (.head _) h4).elim
          · rw [if_neg h4, ih h1]
            simp only [wk, List.nodup_cons, List.mem_cons, List.mem_append, List.mem_singleton, List.not_mem_nil, or_false, not_or]
            constructor
            · rintro ⟨a1, a2, a3⟩
              refine ⟨⟨⟨h1, h2⟩, h3, a1⟩, fun x hx => ?_, fun hc => (a2 c hc).2 rfl, a3⟩
              rcases hx with e | e
              · rw [e]; exact h4
              · exact (a2 x e).1
            · rintro ⟨⟨_, _, a1⟩, a2, a3, a4⟩
              exact ⟨a1, fun x hx => ⟨a2 x (.inr hx), fun e => a3 (e ▸ hx)⟩, a4⟩
        · rw [if_pos (fun h => h3 (of_decide_eq_true h))]
          constructor
          · intro h; omega
          · rintro ⟨⟨_, h5, _⟩, _⟩; exact (h3 h5).elim
    · rw [if_pos h1]
      constructor
      · intro h; omega
      · rintro ⟨⟨⟨h3, _⟩, _⟩, _⟩; exact (h1 h3).elim
theorem check_ok {g : Gr} {a : Cl} {r : List Cl} : checkP g (a :: r) = 0 ↔ chkP g = 0 ∧ Fre g a ∧ wk g a r ∧ (a :: r).Nodup := by
  unfold checkP
  by_cases h0 : chkP g = 0
  · have hs := (chk_ok h0).1
    rw [if_neg (fun h => h h0), if_neg (by simp)]
    unfold cpL
    by_cases h1 : inB g a = true
    · rw [if_neg (fun h => h h1)]
      by_cases h2 : a ∈ g.bl
      · rw [if_pos h2]
        constructor
        · intro h; omega
        · rintro ⟨_, ⟨_, h3⟩, _⟩; exact (h3 h2).elim
      · rw [if_neg h2, if_neg (fun h => h rfl), if_neg (by simp), List.nil_append, cp_ok hs _ _ _ h1]
        simp only [List.nodup_cons, List.mem_singleton]
        constructor
        · rintro ⟨a1, a2, a3⟩; exact ⟨h0, ⟨h1, h2⟩, a1, fun h => a2 a h rfl, a3⟩
        · rintro ⟨_, _, a1, a2, a3⟩; exact ⟨a1, fun x hx e => a2 (e ▸ hx), a3⟩
    · rw [if_pos h1]
      constructor
      · intro h; omega
      · rintro ⟨_, ⟨h3, _⟩, _⟩; exact (h1 h3).elim
  · rw [if_pos h0]
    constructor
    · intro h; exact (h0 h).elim
    · rintro ⟨h1, _⟩; exact (h0 h1).elim
/-- The direction of the last step. -/
def prevD (p2 : Option Cl) (p : Cl) : Cl := match p2 with | none => c0 | some q => csub p q
theorem co_wc {g : Gr} {bend : Int} (hs : szA g = true) : ∀ (r : List Cl) (p2 : Option Cl) (p : Cl) (n : Int), inB g p = true → (∀ q, p2 = some q → inB g q = true ∧ csub p q ∈ ways) → wk g p r → coL bend p2 p n r = n + wc bend (prevD p2 p) p r
  | [], p2, p, n, _, _, _ => by simp [coL, wc]
  | c :: r, p2, p, n, hp, hq, hw => by
    obtain ⟨⟨h1, h2⟩, h3, h4⟩ := hw
    rw [co_cons, if_pos (by rw [near_in hs hp h1]; exact decide_eq_true h3), co_wc hs r (some p) c _ h1 (fun q e => by cases e; exact ⟨hp, h3⟩) h4]
    cases p2 with
    | none =>
      show n + 1 + 0 + wc bend (csub c p) c r = n + (stepP bend c0 (csub c p) + wc bend (csub c p) c r)
      have h5 : stepP bend c0 (csub c p) = 1 := by unfold stepP; rw [if_pos (.inr rfl)]
      omega
    | some q =>
      obtain ⟨h5, h6⟩ := hq q rfl
      have h7 := way_ne h6
      show n + 1 + (if subW c p = subW p q then 0 else bend) + wc bend (csub c p) c r = n + (stepP bend (csub p q) (csub c p) + wc bend (csub c p) c r)
      rw [subW_in hs h1 hp, subW_in hs hp h5]
      unfold stepP
      by_cases h8 : csub c p = csub p q
      · rw [if_pos h8, if_pos (.inl h8.symm)]; omega
      · rw [if_neg h8, if_neg (fun h => h.elim (fun h => h8 h.symm) h7)]; omega
theorem cost_wc {g : Gr} {bend : Int} (hs : szA g = true) (hb : 0 ≤ bend ∧ bend ≤ 1000) {a : Cl} {r : List Cl} (ha : inB g a = true) (hw : wk g a r) : costP bend (a :: r) = wc bend c0 a r := by
  unfold costP
  rw [if_neg (by omega)]
  show coL bend none a 0 r = _
  rw [co_wc hs r none a 0 ha (fun q e => by cases e) hw, Int.zero_add]; rfl
/-! ### no cell twice -/
def mulC (k : Int) (v : Cl) : Cl := ⟨k * v.x, k * v.y, k * v.z⟩
theorem straight {g : Gr} {bend : Int} (hb : 0 ≤ bend) : ∀ (s : List Cl) (d v : Cl), wk g d s → v ∈ ways → (bend + s.length ≤ wc bend v d s ∧ 1 ≤ s.length) ∨ lastC d s = cadd d (mulC s.length v)
  | [], d, v, _, _ => .inr (cl_ext (by simp [lastC, cadd, mulC]) (by simp [lastC, cadd, mulC]) (by simp [lastC, cadd, mulC]))
  | e :: s, d, v, hw, hv => by
    obtain ⟨h1, h2, h3⟩ := hw
    by_cases h4 : v = csub e d
    · rcases straight hb s e v h3 hv with ⟨h5, h6⟩ | h5
      · left
        have h7 : stepP bend v (csub e d) = 1 := by unfold stepP; rw [if_pos (.inl h4)]
        simp only [wc, h7, List.length_cons]
        rw [← h4]
        constructor <;> omega
      · right
        show lastC e s = _
        rw [h5]
        have hx : e.x = d.x + v.x := by rw [h4]; simp only [csub]; omega
        have hy : e.y = d.y + v.y := by rw [h4]; simp only [csub]; omega
        have hz : e.z = d.z + v.z := by rw [h4]; simp only [csub]; omega
        have ed : ∀ t : Int, ((s.length : Int) + 1) * t = (s.length : Int) * t + t := fun t => by rw [Int.add_mul, Int.one_mul]
        refine cl_ext ?_ ?_ ?_ <;> simp only [cadd, mulC, List.length_cons, Int.natCast_add, Int.natCast_one, ed] <;> omega
    · left
      have h7 : stepP bend v (csub e d) = 1 + bend := by unfold stepP; rw [if_neg (fun h => h.elim h4 (way_ne hv))]
      have h8 := wc_nn hb s (csub e d) e
      simp only [wc, h7, List.length_cons]
      constructor <;> omega
theorem loop_cost {g : Gr} {bend : Int} (hb : 0 ≤ bend) {c u : Cl} {s : List Cl} (hw : wk g c s) (hs : s ≠ []) (hl : lastC c s = c) : 2 + bend ≤ wc bend u c s := by
  cases s with
  | nil => exact (hs rfl).elim
  | cons d s =>
    obtain ⟨h1, h2, h3⟩ := hw
    have h4 := stepP_bd hb u (csub d c)
    rcases straight hb s d (csub d c) h3 h2 with ⟨h5, h6⟩ | h5
    · simp only [wc]; omega
    · exfalso
      rw [show lastC c (d :: s) = lastC d s from rfl] at hl
      rw [hl] at h5
      have hx : c.x = d.x + (s.length : Int) * (d.x - c.x) := congrArg Cl.x h5
      have hy : c.y = d.y + (s.length : Int) * (d.y - c.y) := congrArg Cl.y h5
      have hz : c.z = d.z + (s.length : Int) * (d.z - c.z) := congrArg Cl.z h5
      have h6 := way_one.1 h2
      simp only [csub] at h6
      have K : ∀ p q : Int, p = q + (s.length : Int) * (q - p) → (q - p = 1 ∨ q - p = -1) → False := by
        intro p q h7 h8
        rcases h8 with h8 | h8 <;> rw [h8] at h7 <;> omega
      rcases h6 with ⟨_, _, h6⟩ | ⟨_, _, h6⟩ | ⟨_, _, h6⟩
      · exact K _ _ hz h6
      · exact K _ _ hy h6
      · exact K _ _ hx h6
theorem wc_dir {bend : Int} (hb : 0 ≤ bend) (r : List Cl) (u v c : Cl) : wc bend u c r ≤ wc bend v c r + bend := by
  cases r with
  | nil => simp only [wc]; omega
  | cons d r =>
    have h1 := stepP_bd hb u (csub d c)
    have h2 := stepP_bd hb v (csub d c)
    simp only [wc]; omega
theorem Gd.nodup {g : Gr} {bend : Int} (hb : 0 ≤ bend) {b : Cl} : ∀ {r : List Cl} {u c : Cl}, Gd g bend b u c r → (c :: r).Nodup
  | [], u, c, _ => by simp
  | d :: r, u, c, h => by
    refine List.nodup_cons.2 ⟨fun hm => ?_, Gd.nodup hb h.2.2⟩
    obtain ⟨s, t, e⟩ := List.append_of_mem hm
    obtain ⟨h1, h2, h3⟩ := h.lst hb
    have e2 : d :: r = (s ++ [c]) ++ t := by rw [e]; simp
    rw [e2] at h1 h2 h3
    rw [wk_app] at h1
    rw [lastC_app] at h2
    have hl : lastC c (s ++ [c]) = c := by rw [lastC_app]; rfl
    rw [hl] at h1 h2
    have h4 := loop_cost (u := u) hb h1.1 (by simp) hl
    have h5 := h3.2 t h1.2 h2
    rw [wc_app, hl] at h5
    have h6 := wc_dir hb t u (dirC u c (s ++ [c])) c
    omega
/-! ### first in order -/
theorem Gd.first {g : Gr} {bend : Int} (hb : 0 ≤ bend) {b : Cl} : ∀ (i : Nat) {r r' : List Cl} {u c x y : Cl}, Gd g bend b u c r → wk g c r' → lastC c r' = b → wc bend u c r' = wc bend u c r → r.take i = r'.take i → r[i]? = some x → r'[i]? = some y → x ≠ y → Lt x y
  | 0, r, r', u, c, x, y, h, hw, hl, hc, _, hx, hy, hne => by
    cases r with
    | nil => cases hx
    | cons d r =>
      cases r' with
      | nil => cases hy
      | cons e r' =>
        simp only [List.getElem?_cons_zero, Option.some.injEq] at hx hy
        subst hx; subst hy
        obtain ⟨_, ⟨n, hB⟩, hG⟩ := id h
        have hl2 := hB.lst hb h.1
        have e1 := hl2.uniq (h.lst hb).2.2
        obtain ⟨_, _, _, h5⟩ := hB
        obtain ⟨k', a1, a2⟩ := Lst.of (bend := bend) hb (csub e c) hw.2.2 hl
        have h6 := h5 e k' hw.1 hw.2.1 a1
        have h7 : wc bend u c (e :: r') = stepP bend u (csub e c) + wc bend (csub e c) e r' := rfl
        rcases Lt.tri d e with t | t | t
        · exact t
        · exact (hne t).elim
        · have := h6.2 t; omega
  | i + 1, r, r', u, c, x, y, h, hw, hl, hc, ht, hx, hy, hne => by
    cases r with
    | nil => cases hx
    | cons d r =>
      cases r' with
      | nil => cases hy
      | cons e r' =>
        simp only [List.take_succ_cons, List.cons.injEq] at ht
        obtain ⟨rfl, ht⟩ := ht
        simp only [List.getElem?_cons_succ] at hx hy
        simp only [wc] at hc
        exact Gd.first hb i h.2.2 hw.2.2 hl (by omega) ht hx hy hne
theorem Gd.short {g : Gr} {bend : Int} {b u c : Cl} {r r' : List Cl} (h : Gd g bend b u c r) (hl : lastC c r' = b) (ht : r.take r'.length = r') : r.length ≤ r'.length := by
  rcases Nat.lt_or_ge r'.length r.length with hlt | hge
  · exfalso
    obtain ⟨d, hd⟩ := get_lt hlt
    have e : r = r' ++ d :: r.drop (r'.length + 1) := by
      conv => lhs; rw [← List.take_append_drop r'.length r]
      rw [ht, drop_get hd]
    rw [e] at h
    exact Gd.inner r' h hl
  · exact hge
/-! ### more, and dearer -/
theorem wk_sub {g g' : Gr} (h : ∀ c, Fre g' c → Fre g c) : ∀ {r : List Cl} {c : Cl}, wk g' c r → wk g c r
  | [], _, _ => trivial
  | d :: r, c, hw => ⟨h d hw.1, hw.2.1, wk_sub h hw.2.2⟩
theorem wc_mono {b1 b2 : Int} (h : b1 ≤ b2) : ∀ (r : List Cl) (u c : Cl), wc b1 u c r ≤ wc b2 u c r
  | [], _, _ => Int.le_refl _
  | d :: r, u, c => by
    have h1 := wc_mono h r (csub d c) d
    have h2 : stepP b1 u (csub d c) ≤ stepP b2 u (csub d c) := by unfold stepP; split <;> omega
    simp only [wc]; omega
def absI (n : Int) : Int := max n (-n)
def farC (a b : Cl) : Int := absI (a.x - b.x) + absI (a.y - b.y) + absI (a.z - b.z)
theorem far_step {a b d : Cl} (h : csub d a ∈ ways) : farC a b ≤ farC d b + 1 := by
  rw [way_one] at h
  simp only [csub] at h
  unfold farC absI
  omega
theorem far_le {g : Gr} : ∀ (r : List Cl) (a : Cl), wk g a r → farC a (lastC a r) ≤ r.length
  | [], a, _ => by simp [lastC, farC, absI]
  | d :: r, a, hw => by
    have h1 := far_le r d hw.2.2
    have h2 := far_step (b := lastC d r) hw.2.1
    show farC a (lastC d r) ≤ _
    simp only [List.length_cons, Int.natCast_add, Int.natCast_one]; omega
theorem wc_zero : ∀ (r : List Cl) (u c : Cl), wc 0 u c r = r.length
  | [], _, _ => rfl
  | d :: r, u, c => by
    have h : stepP 0 u (csub d c) = 1 := by unfold stepP; split <;> rfl
    simp only [wc, h, wc_zero r, List.length_cons, Int.natCast_add, Int.natCast_one]; omega
theorem free_walk {g : Gr} (hn : g.bl = []) {b : Cl} (hb : inB g b = true) : ∀ (n : Nat) (a : Cl), inB g a = true → farC a b = n → ∃ r, wk g a r ∧ lastC a r = b ∧ r.length = n
  | 0, a, ha, h => by
    refine ⟨[], trivial, ?_, rfl⟩
    unfold farC absI at h
    exact cl_ext (by show a.x = b.x; omega) (by show a.y = b.y; omega) (by show a.z = b.z; omega)
  | n + 1, a, ha, h => by
    have ex : ∃ d, inB g d = true ∧ csub d a ∈ ways ∧ farC d b = n := by
      rw [inB_iff] at ha hb
      by_cases h1 : a.x < b.x
      · exact ⟨⟨a.x + 1, a.y, a.z⟩, by rw [inB_iff]; simp only; omega, by rw [way_one]; simp only [csub]; omega, by unfold farC absI at *; simp only; omega⟩
      · by_cases h2 : b.x < a.x
        · exact ⟨⟨a.x - 1, a.y, a.z⟩, by rw [inB_iff]; simp only; omega, by rw [way_one]; simp only [csub]; omega, by unfold farC absI at *; simp only; omega⟩
        · by_cases h3 : a.y < b.y
          · exact ⟨⟨a.x, a.y + 1, a.z⟩, by rw [inB_iff]; simp only; omega, by rw [way_one]; simp only [csub]; omega, by unfold farC absI at *; simp only; omega⟩
          · by_cases h4 : b.y < a.y
            · exact ⟨⟨a.x, a.y - 1, a.z⟩, by rw [inB_iff]; simp only; omega, by rw [way_one]; simp only [csub]; omega, by unfold farC absI at *; simp only; omega⟩
            · by_cases h5 : a.z < b.z
              · exact ⟨⟨a.x, a.y, a.z + 1⟩, by rw [inB_iff]; simp only; omega, by rw [way_one]; simp only [csub]; omega, by unfold farC absI at *; simp only; omega⟩
              · exact ⟨⟨a.x, a.y, a.z - 1⟩, by rw [inB_iff]; simp only; unfold farC absI at h; omega, by rw [way_one]; simp only [csub]; omega, by unfold farC absI at *; simp only; omega⟩
    obtain ⟨d, d1, d2, d3⟩ := ex
    obtain ⟨r, r1, r2, r3⟩ := free_walk hn hb n d d1 d3
    exact ⟨d :: r, ⟨⟨d1, by rw [hn]; simp⟩, d2, r1⟩, r2, by rw [List.length_cons, r3]⟩
/-! ### the way back -/
theorem neg_way {c d : Cl} (h : csub d c ∈ ways) : csub c d ∈ ways := by
  rw [way_one] at h ⊢
  simp only [csub] at *
  omega
theorem rev_walk {g : Gr} {bend : Int} : ∀ (r : List Cl) (c : Cl), Fre g c → wk g c r → ∃ r', wk g (lastC c r) r' ∧ lastC (lastC c r) r' = c ∧ wc bend c0 (lastC c r) r' = wc bend c0 c r ∧ dirC c0 (lastC c r) r' = (match r with | [] => c0 | d :: _ => csub c d)
  | [], c, _, _ => ⟨[], trivial, rfl, rfl, rfl⟩
  | d :: r, c, hc, hw => by
    obtain ⟨h1, h2, h3⟩ := hw
    obtain ⟨r', a1, a2, a3, a4⟩ := rev_walk (bend := bend) r d h1 h3
    refine ⟨r' ++ [c], ?_, ?_, ?_, ?_⟩
    · show wk g (lastC d r) _
      rw [wk_app]
      exact ⟨a1, by rw [a2]; exact ⟨hc, neg_way h2, trivial⟩⟩
    · show lastC (lastC d r) _ = _
      rw [lastC_app]; rfl
    · show wc bend c0 (lastC d r) _ = _
      rw [wc_app, a2, a4, a3]
      simp only [wc]
      cases r with
      | nil => simp [wc, stepP]
      | cons e r =>
        have h4 := way_ne h2
        have h5 := way_ne (neg_way h3.2.1)
        have h6 : stepP bend (csub d e) (csub c d) = stepP bend (csub d c) (csub e d) := by
          have hq : csub d e = csub c d ↔ csub d c = csub e d := by
            constructor <;> intro h <;> (have hx := congrArg Cl.x h; have hy := congrArg Cl.y h; have hz := congrArg Cl.z h; simp only [csub] at hx hy hz; exact cl_ext (by simp only [csub]; omega) (by simp only [csub]; omega) (by simp only [csub]; omega))
          unfold stepP
          by_cases h7 : csub d c = csub e d
          · rw [if_pos (.inl (hq.2 h7)), if_pos (.inl h7)]
          · rw [if_neg (fun h => h.elim (fun h => h7 (hq.1 h)) h5), if_neg (fun h => h.elim h7 h4)]
        have h8 : ∀ v, stepP bend c0 v = 1 := fun v => by unfold stepP; rw [if_pos (.inr rfl)]
        show wc bend c0 d (e :: r) + (stepP bend (csub d e) (csub c d) + 0) = _
        rw [h6]
        simp only [wc, h8]; omega
    · show dirC c0 (lastC d r) _ = _
      rw [dirC_app, a2]; rfl
theorem lst_back {g : Gr} {bend : Int} {a b : Cl} {n m : Int} (ha : Fre g a) (hb' : Fre g b) (h : Lst g bend b a c0 n) (k : Lst g bend a b c0 m) : n = m := by
  obtain ⟨⟨r, h1, h2, h3⟩, h4⟩ := h
  obtain ⟨⟨r', k1, k2, k3⟩, k4⟩ := k
  obtain ⟨s, s1, s2, s3, _⟩ := rev_walk (bend := bend) r a ha h1
  obtain ⟨s', t1, t2, t3, _⟩ := rev_walk (bend := bend) r' b hb' k1
  rw [h2] at s1 s2 s3
  rw [k2] at t1 t2 t3
  have := h4 s' t1 t2; have := k4 s s1 s2
  omega
theorem walk_back {g : Gr} {a b : Cl} (ha : Fre g a) (h : ∃ r, wk g a r ∧ lastC a r = b) : ∃ r, wk g b r ∧ lastC b r = a := by
  obtain ⟨r, h1, h2⟩ := h
  obtain ⟨s, s1, s2, _⟩ := rev_walk (bend := 0) r a ha h1
  rw [h2] at s1 s2
  exact ⟨s, s1, s2⟩
/-! ### Path's answer, by cases -/
theorem PathS.good {g : Gr} {a b : Cl} {bend cost err : Int} {ps : List Cl} (h : PathS g a b bend ps cost err) :
    (err = 0 ∧ chkP g = 0 ∧ Fre g a ∧ Fre g b ∧ (0 ≤ bend ∧ bend ≤ 1000) ∧ ∃ r, ps = a :: r ∧ Gd g bend b c0 a r ∧ cost = wc bend c0 a r) ∨ (err ≠ 0 ∧ ps = [] ∧ cost = 0 ∧ ¬ (chkP g = 0 ∧ Fre g a ∧ Fre g b ∧ (0 ≤ bend ∧ bend ≤ 1000) ∧ ∃ r, wk g a r ∧ lastC a r = b)) := by
  unfold PathS at h
  by_cases h1 : chkP g ≠ 0
  · rw [if_pos h1] at h
    exact .inr ⟨by rw [h.2.2]; exact h1, h.1, h.2.1, fun k => h1 k.1⟩
  rw [if_neg h1] at h
  by_cases h2 : ¬ askB g a b bend = true
  · rw [if_pos h2] at h
    refine .inr ⟨by omega, h.1, h.2.1, fun k => h2 (askB_iff.2 ⟨k.2.1.1, k.2.2.1.1, k.2.2.2.1⟩)⟩
  rw [if_neg h2] at h
  have h2' := askB_iff.1 (Classical.not_not.1 h2)
  by_cases h3 : a ∈ g.bl ∨ b ∈ g.bl
  · rw [if_pos h3] at h
    exact .inr ⟨by omega, h.1, h.2.1, fun k => h3.elim k.2.1.2 k.2.2.1.2⟩
  rw [if_neg h3] at h
  rcases h with ⟨r, a1, a2, a3, a4⟩ | ⟨a0, a1, a2, a3⟩
  · exact .inl ⟨a4, Classical.not_not.1 h1, ⟨h2'.1, fun h => h3 (.inl h)⟩, ⟨h2'.2.1, fun h => h3 (.inr h)⟩, h2'.2.2, r, a1, a2, a3⟩
  · exact .inr ⟨by omega, a1, a2, fun k => a0 k.2.2.2.2⟩
theorem PathS.ok {g : Gr} {a b : Cl} {bend cost err : Int} {ps : List Cl} (h : PathS g a b bend ps cost err) (h0 : chkP g = 0) (ha : Fre g a) (hb : Fre g b) (hbd : 0 ≤ bend ∧ bend ≤ 1000) (hw : ∃ r, wk g a r ∧ lastC a r = b) : err = 0 ∧ ∃ r, ps = a :: r ∧ Gd g bend b c0 a r ∧ cost = wc bend c0 a r := by
  rcases h.good with ⟨h1, _, _, _, _, h2⟩ | ⟨_, _, _, h3⟩
  · exact ⟨h1, h2⟩
  · exact (h3 ⟨h0, ha, hb, hbd, hw⟩).elim
theorem lastC_get (a : Cl) (r : List Cl) : (a :: r)[r.length]? = some (lastC a r) := by
  induction r generalizing a with
  | nil => rfl
  | cons d r ih => exact ih d
/-- What the found path is. -/
theorem found_ok {g : Gr} {a b : Cl} {bend : Int} {r : List Cl} (h0 : chkP g = 0) (ha : Fre g a) (hbd : 0 ≤ bend ∧ bend ≤ 1000) (hG : Gd g bend b c0 a r) : checkP g (a :: r) = 0 ∧ lastC a r = b ∧ costP bend (a :: r) = wc bend c0 a r := by
  obtain ⟨h1, h2, h3⟩ := hG.lst hbd.1
  exact ⟨check_ok.2 ⟨h0, ha, h1, hG.nodup hbd.1⟩, h2, cost_wc (chk_ok h0).1 hbd ha.1 h1⟩

end Go.Proofs.Ythddekipelbooaa
