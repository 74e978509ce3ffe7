/- The walks of chapter 44 (route): the law RouteCorners. -/
import Derived.Test.YthddekipelbooaaQb
import Derived.Test.YthddekipelbooaaRe
namespace Go.Proofs.Ythddekipelbooaa
open Go Go.RowKit Core
set_option linter.unusedVariables false
set_option linter.unusedSimpArgs false
attribute [local irreducible] wpQuiet wpList wpH wpT Code.wp Calls bodyPost act


theorem cor_f {g : Gr} {n : Int} {k : Int} {b : Bool} (h : ((((!b || !decide (chkP g = 0)) || !decide (k = 0)) || decide (n < 2)) || decide (300 < n)) = false) : chkP g = 0 ∧ k = 0 ∧ 2 ≤ n ∧ n ≤ 300 := by
  obtain ⟨h1, e1⟩ := or_f h
  obtain ⟨h2, e2⟩ := or_f h1
  obtain ⟨h3, e3⟩ := or_f h2
  have d1 := of_decide_eq_false e1
  have d2 := of_decide_eq_false e2
  exact ⟨nd_f (or_f h3).2, nd_f e3, by omega, by omega⟩
theorem two_of {l : List Cl} (h : (2 : Int) ≤ (l.length : Int)) : ∃ a d r, l = a :: d :: r := by
  match l, h with
  | [], h => simp at h
  | [a], h => simp at h
  | a :: d :: r, _ => exact ⟨a, d, r, rfl⟩
theorem cor_ne (c d : Cl) : ∀ (r : List Cl), corL (some c) (d :: r) ≠ []
  | [] => by rw [cor_one]; simp
  | e :: r => by
    rw [cor_two]
    have := cor_ne d e r
    intro h
    exact this (List.append_eq_nil_iff.1 h).2
theorem cor_mem : ∀ (r : List Cl) (p : Option Cl), ∀ x ∈ corL p r, x ∈ r
  | [], p, x, h => by simp [corL] at h
  | [c], p, x, h => by rw [cor_one] at h; exact h
  | c :: d :: r, p, x, h => by
    rw [cor_two] at h
    rcases List.mem_append.1 h with e | e
    · have : x = c := by
        cases p with
        | none => exact List.mem_singleton.1 e
        | some q => simp only at e; split at e; cases e; exact List.mem_singleton.1 e
      rw [this]; exact .head _
    · exact .tail _ (cor_mem (d :: r) _ x e)
theorem cor_len : ∀ (r : List Cl) (p : Option Cl), (corL p r).length ≤ r.length
  | [], p => by simp [corL]
  | [c], p => by rw [cor_one]; exact Nat.le_refl _
  | c :: d :: r, p => by
    rw [cor_two, List.length_append]
    have h1 := cor_len (d :: r) (some c)
    simp only [List.length_cons] at h1 ⊢
    cases p with
    | none => simp only [List.length_cons, List.length_nil]; omega
    | some q =>
      simp only
      split
      · simp only [List.length_nil]; omega
      · simp only [List.length_cons, List.length_nil]; omega
/-- The next corner lies ahead. -/
theorem cor_ahead {g : Gr} (hs : szA g = true) : ∀ (r : List Cl) (c d t : Cl) (m : List Cl), inB g c = true → wk g c (d :: r) → corL (some c) (d :: r) = t :: m → ∃ s : Int, 1 ≤ s ∧ t = cadd c (mulC s (csub d c)) ∧ (t = d → m = corL (some d) r) ∧ (t ≠ d → t :: m = corL (some d) r)
  | [], c, d, t, m, hc, hw, h => by
    rw [cor_one] at h
    simp only [List.cons.injEq] at h
    obtain ⟨rfl, rfl⟩ := h
    exact ⟨1, Int.le_refl _, cl_ext (by simp only [cadd, mulC, csub]; omega) (by simp only [cadd, mulC, csub]; omega) (by simp only [cadd, mulC, csub]; omega), fun _ => by simp [corL], fun h => (h rfl).elim⟩
  | e :: r, c, d, t, m, hc, hw, h => by
    obtain ⟨h1, h2, h3⟩ := hw
    have h4 := h3
    obtain ⟨k1, k2, k3⟩ := h4
    rw [cor_two] at h
    simp only at h
    rw [subW_in hs k1.1 h1.1, subW_in hs h1.1 hc] at h
    by_cases h5 : csub e d = csub d c
    · rw [if_pos h5, List.nil_append] at h
      obtain ⟨s, s1, s2, s3, s4⟩ := cor_ahead hs r d e t m h1.1 h3 h
      have hx := congrArg Cl.x h5; have hy := congrArg Cl.y h5; have hz := congrArg Cl.z h5
      simp only [csub] at hx hy hz
      have ed : ∀ v : Int, (s + 1) * v = s * v + v := fun v => by rw [Int.add_mul, Int.one_mul]
      have hne : t ≠ d := fun e2 => by
        rw [e2] at s2
        have w := way_one.1 k2
        have tx : d.x = d.x + s * (e.x - d.x) := congrArg Cl.x s2
        have ty : d.y = d.y + s * (e.y - d.y) := congrArg Cl.y s2
        have tz : d.z = d.z + s * (e.z - d.z) := congrArg Cl.z s2
        simp only [csub] at w
        rcases w with ⟨_, _, w | w⟩ | ⟨_, _, w | w⟩ | ⟨_, _, w | w⟩
        · rw [w] at tz; omega
        · rw [w] at tz; omega
        · rw [w] at ty; omega
        · rw [w] at ty; omega
        · rw [w] at tx; omega
        · rw [w] at tx; omega
      refine ⟨s + 1, by omega, ?_, fun e2 => (hne e2).elim, fun _ => h.symm⟩
      rw [s2, h5]
      refine cl_ext ?_ ?_ ?_ <;> simp only [cadd, mulC, csub, ed] <;> omega
    · rw [if_neg h5] at h
      simp only [List.cons_append, List.nil_append, List.cons.injEq] at h
      obtain ⟨rfl, h⟩ := h
      exact ⟨1, Int.le_refl _, cl_ext (by simp only [cadd, mulC, csub]; omega) (by simp only [cadd, mulC, csub]; omega) (by simp only [cadd, mulC, csub]; omega), fun _ => h.symm, fun h => (h rfl).elim⟩
theorem cor_cost {g : Gr} {bend : Int} (hs : szA g = true) : ∀ (r : List Cl) (c d : Cl), inB g c = true → wk g c (d :: r) → wc bend (csub d c) d r = (r.length : Int) + bend * (((corL (some c) (d :: r)).length : Int) - 1)
  | [], c, d, _, _ => by rw [cor_one]; simp [wc]
  | e :: r, c, d, hc, hw => by
    obtain ⟨h1, h2, h3⟩ := hw
    have h4 := h3
    obtain ⟨k1, k2, k3⟩ := h4
    have ih := cor_cost (bend := bend) hs r d e h1.1 h3
    have hn := way_ne h2
    rw [cor_two]
    simp only
    rw [subW_in hs k1.1 h1.1, subW_in hs h1.1 hc]
    simp only [wc, ih, List.length_cons, Int.natCast_add, Int.natCast_one]
    by_cases h5 : csub e d = csub d c
    · rw [if_pos h5, List.nil_append]
      have h6 : stepP bend (csub d c) (csub e d) = 1 := by unfold stepP; rw [if_pos (.inl h5.symm)]
      omega
    · rw [if_neg h5]
      have h6 : stepP bend (csub d c) (csub e d) = 1 + bend := by unfold stepP; rw [if_neg (fun h => h.elim (fun h => h5 h.symm) hn)]
      rw [h6, List.length_append, List.length_singleton]
      have h7 : bend * (((1 + (corL (some d) (e :: r)).length : Nat) : Int) - 1) = bend * (((corL (some d) (e :: r)).length : Int) - 1) + bend := by
        rw [show (((1 + (corL (some d) (e :: r)).length : Nat) : Int) - 1) = (((corL (some d) (e :: r)).length : Int) - 1) + 1 by omega, Int.mul_add, Int.mul_one]
      omega
def stp (c t : Cl) : Cl := ⟨c.x + max (-1) (min 1 (t.x - c.x)), c.y + max (-1) (min 1 (t.y - c.y)), c.z + max (-1) (min 1 (t.z - c.z))⟩
theorem stp_eq {c d : Cl} {s : Int} (hs : 1 ≤ s) (hw : csub d c ∈ ways) : stp c (cadd c (mulC s (csub d c))) = d := by
  have w := way_one.1 hw
  simp only [csub] at w
  have K : ∀ p q : Int, (q - p = 0 ∨ q - p = 1 ∨ q - p = -1) → p + max (-1) (min 1 (p + s * (q - p) - p)) = q := by
    intro p q h
    rcases h with h | h | h <;> rw [h] <;> omega
  exact cl_ext (K _ _ (by omega)) (K _ _ (by omega)) (K _ _ (by omega))
structure Tr (g : Gr) (p L : List Cl) (i : Nat) (cc : Cl) (ln : List Cl) : Prop where
  ex : ∃ r, ln ++ r = p ∧ wk g cc r ∧ inB g cc = true ∧ L.drop i = corL (some cc) r
structure Mid (g : Gr) (p L : List Cl) (i : Nat) (t : Cl) (k : Nat) (cc : Cl) (ln : List Cl) : Prop where
  ex : ∃ r, ln ++ r = p ∧ wk g cc r ∧ inB g cc = true ∧ farC cc t ≤ 24 - (k : Int) ∧ ((cc = t ∧ L.drop (i + 1) = corL (some cc) r) ∨ (cc ≠ t ∧ t :: L.drop (i + 1) = corL (some cc) r))
theorem far_mul {c d : Cl} {s : Int} (hs : 0 ≤ s) (hw : csub d c ∈ ways) : farC c (cadd c (mulC s (csub d c))) = s := by
  have w := way_one.1 hw
  simp only [csub] at w
  unfold farC absI
  simp only [cadd, mulC, csub]
  rcases w with ⟨w1, w2, w | w⟩ | ⟨w1, w2, w | w⟩ | ⟨w1, w2, w | w⟩ <;> rw [w1, w2, w] <;> omega
theorem Tr.mid {g : Gr} {p L : List Cl} {i : Nat} {cc t : Cl} {ln : List Cl} (hs : szA g = true) (h : Tr g p L i cc ln) (ht : L[i]? = some t) : Mid g p L i t 0 cc ln := by
  obtain ⟨r, h1, h2, h3, h4⟩ := h.ex
  rw [drop_get ht] at h4
  cases r with
  | nil => simp [corL] at h4
  | cons d r =>
    obtain ⟨s, s1, s2, _⟩ := cor_ahead hs r cc d t _ h3 h2 h4.symm
    have hf := far_mul (c := cc) (s := s) (by omega) h2.2.1
    rw [← s2] at hf
    have hm : inB g t = true := (wk_all h2 t (cor_mem _ _ t (by rw [← h4]; exact .head _))).1
    have b1 := inB_24 hs h3; have b2 := inB_24 hs hm
    have h24 : farC cc t ≤ 24 := by
      have w := way_one.1 h2.2.1
      have e1 : t.x = cc.x + s * (d.x - cc.x) := congrArg Cl.x s2
      have e2 : t.y = cc.y + s * (d.y - cc.y) := congrArg Cl.y s2
      have e3 : t.z = cc.z + s * (d.z - cc.z) := congrArg Cl.z s2
      simp only [csub] at w
      rw [hf]
      rcases w with ⟨_, _, w | w⟩ | ⟨_, _, w | w⟩ | ⟨_, _, w | w⟩
      · rw [w] at e3; omega
      · rw [w] at e3; omega
      · rw [w] at e2; omega
      · rw [w] at e2; omega
      · rw [w] at e1; omega
      · rw [w] at e1; omega
    refine ⟨⟨d :: r, h1, h2, h3, by simpa using h24, .inr ⟨fun e => ?_, h4⟩⟩⟩
    subst e
    have : farC cc cc = 0 := by unfold farC absI; omega
    omega
theorem Mid.step {g : Gr} {p L : List Cl} {i k : Nat} {cc t : Cl} {ln : List Cl} (hs : szA g = true) (h : Mid g p L i t k cc ln) (hne : cc ≠ t) : Mid g p L i t (k + 1) (stp cc t) (ln ++ [stp cc t]) := by
  obtain ⟨r, h1, h2, h3, h4, h5⟩ := h.ex
  rcases h5 with ⟨h5, _⟩ | ⟨_, h5⟩
  · exact (hne h5).elim
  cases r with
  | nil => simp [corL] at h5
  | cons d r =>
    obtain ⟨s, s1, s2, s3, s4⟩ := cor_ahead hs r cc d t _ h3 h2 h5.symm
    have e : stp cc t = d := by rw [s2]; exact stp_eq s1 h2.2.1
    rw [e]
    have hf := far_mul (c := cc) (s := s) (by omega) h2.2.1
    rw [← s2] at hf
    refine ⟨⟨r, by rw [List.append_assoc]; exact h1, h2.2.2, h2.1.1, ?_, ?_⟩⟩
    · have w := way_one.1 h2.2.1
      have e1 : t.x = cc.x + s * (d.x - cc.x) := congrArg Cl.x s2
      have e2 : t.y = cc.y + s * (d.y - cc.y) := congrArg Cl.y s2
      have e3 : t.z = cc.z + s * (d.z - cc.z) := congrArg Cl.z s2
      simp only [csub] at w
      have hfd : farC d t = s - 1 := by
        unfold farC absI
        rw [e1, e2, e3]
        rcases w with ⟨w1, w2, w | w⟩ | ⟨w1, w2, w | w⟩ | ⟨w1, w2, w | w⟩ <;> rw [w1, w2, w] <;> omega
      rw [hfd]; omega
    · by_cases h6 : t = d
      · exact .inl ⟨h6.symm, s3 h6⟩
      · exact .inr ⟨fun e2 => h6 e2.symm, s4 h6⟩
theorem Mid.done {g : Gr} {p L : List Cl} {i k : Nat} {cc t : Cl} {ln : List Cl} (h : Mid g p L i t k cc ln) (hc : (decide ((k : Int) < 24) && !decide (cc = t)) = false) : Tr g p L (i + 1) cc ln := by
  obtain ⟨r, h1, h2, h3, h4, h5⟩ := h.ex
  have he : cc = t := by
    by_cases e : cc = t
    · exact e
    · rw [decide_eq_false e, Bool.not_false, Bool.and_true] at hc
      have := of_decide_eq_false hc
      unfold farC absI at h4
      exact cl_ext (by omega) (by omega) (by omega)
  rcases h5 with ⟨_, h5⟩ | ⟨h5, _⟩
  · exact ⟨⟨r, h1, h2, h3, h5⟩⟩
  · exact (h5 he).elim
theorem Tr.done {g : Gr} {p L : List Cl} {i : Nat} {cc : Cl} {ln : List Cl} (h : Tr g p L i cc ln) (hi : ¬ i < L.length) : ln = p := by
  obtain ⟨r, h1, h2, h3, h4⟩ := h.ex
  rw [List.drop_eq_nil_of_le (by omega)] at h4
  cases r with
  | nil => rw [← h1, List.append_nil]
  | cons d r => exact (cor_ne cc d r h4.symm).elim
theorem Tr.len {g : Gr} {p L : List Cl} {i : Nat} {cc : Cl} {ln : List Cl} (h : Tr g p L i cc ln) : ln.length ≤ p.length := by
  obtain ⟨r, h1, _⟩ := h.ex
  rw [← h1, List.length_append]; omega
theorem Mid.len {g : Gr} {p L : List Cl} {i k : Nat} {cc t : Cl} {ln : List Cl} (h : Mid g p L i t k cc ln) : ln.length ≤ p.length := by
  obtain ⟨r, h1, _⟩ := h.ex
  rw [← h1, List.length_append]; omega
theorem Mid.in_ {g : Gr} {p L : List Cl} {i k : Nat} {cc t : Cl} {ln : List Cl} (h : Mid g p L i t k cc ln) : inB g cc = true := by
  obtain ⟨r, _, _, h3, _⟩ := h.ex; exact h3
theorem cor_start {g : Gr} {a d : Cl} {r : List Cl} (h : checkP g (a :: d :: r) = 0) : Tr g (a :: d :: r) (cornersP (a :: d :: r)) 1 a [a] := by
  obtain ⟨_, h2, h3, _⟩ := check_ok.1 h
  exact ⟨⟨d :: r, rfl, h3, h2.1, rfl⟩⟩
theorem cor_two_le (a d : Cl) (r : List Cl) : 2 ≤ (cornersP (a :: d :: r)).length ∧ (cornersP (a :: d :: r)).length ≤ (a :: d :: r).length ∧ (cornersP (a :: d :: r))[0]? = some a := by
  refine ⟨?_, cor_len _ _, rfl⟩
  show 2 ≤ (a :: corL (some a) (d :: r)).length
  have := cor_ne a d r
  have h2 := List.length_pos_iff.2 this
  simp only [List.length_cons]; omega
theorem cor_costs {g : Gr} {a d : Cl} {r : List Cl} (h : checkP g (a :: d :: r) = 0) {bend : Int} (hb : 0 ≤ bend ∧ bend ≤ 1000) : costP bend (a :: d :: r) = ((a :: d :: r).length : Int) - 1 + bend * (((cornersP (a :: d :: r)).length : Int) - 2) := by
  obtain ⟨h1, h2, h3, _⟩ := check_ok.1 h
  have hs := (chk_ok h1).1
  rw [cost_wc hs hb h2.1 h3]
  have h4 := cor_cost (bend := bend) hs r a d h2.1 h3
  have h5 : stepP bend c0 (csub d a) = 1 := by unfold stepP; rw [if_pos (.inr rfl)]
  have h6 : (cornersP (a :: d :: r)).length = (corL (some a) (d :: r)).length + 1 := rfl
  simp only [wc, h5, h4, h6, List.length_cons]
  rw [show ((((corL (some a) (d :: r)).length + 1 : Nat) : Int) - 2) = ((corL (some a) (d :: r)).length : Int) - 1 by omega]
  omega
theorem fin8 {n m c1 c2 : Int} (h1 : c1 = n - 1 + 1000 * (m - 2)) (h2 : c2 = n - 1) : ((decide (c1 = n - 1 + 1000 * (m - 2)) && decide (c2 = n - 1))) = true := by rw [decide_eq_true h1, decide_eq_true h2]; rfl

theorem gd_len {g : Gr} {bend : Int} {a b : Cl} {r : List Cl} (hs : szA g = true) (h : Gd g bend b c0 a r) (hb : 0 ≤ bend ∧ bend ≤ 1000) (ha : Fre g a) : (a :: r).length ≤ 4000000000000 := by
  have h1 := h.nodup hb.1
  have h2 : ∀ c ∈ a :: r, inB g c = true := fun c hc => by
    rcases List.mem_cons.1 hc with e | e
    · rw [e]; exact ha.1
    · exact (wk_all (h.lst hb.1).1 c e).1
  have h3 : ((a :: r).map fun c => (c.x * 24 + c.y) * 24 + c.z).Nodup := by
    unfold List.Nodup
    rw [List.pairwise_map]
    refine List.Pairwise.imp_of_mem (fun {p q} hp hq hne e => hne ?_) h1
    have := inB_24 hs (h2 p hp); have := inB_24 hs (h2 q hq)
    exact cl_ext (by omega) (by omega) (by omega)
  have h4 := nodup_len (n := 13824) h3 (fun k hk => by
    obtain ⟨y, hy, rfl⟩ := List.mem_map.1 hk
    have := inB_24 hs (h2 y hy)
    omega)
  rw [List.length_map] at h4
  omega

end Go.Proofs.Ythddekipelbooaa
