/- The walks of chapter 44 (route): the law RouteCorners. -/
import Derived.Test.YtbmchijgejgboaaLd
namespace Go.Proofs.Ytbmchijgejgboaa
open Go Go.RowKit Core
set_option linter.unusedVariables false
set_option linter.unusedSimpArgs false
attribute [local irreducible] wpQuiet wpList wpH wpT Code.wp Calls bodyPost act


theorem cor_f {g : Gr} {n : Int} {k : Int} {b : Bool} (h : ((((!b || !decide (chkP g = 0)) || !decide (k = 0)) || decide (n < 2)) || decide (300 < n)) = false) : chkP g = 0 ∧ k = 0 ∧ 2 ≤ n ∧ n ≤ 300 := by
  obtain ⟨h1, e1⟩ := or_f h
  obtain ⟨h2, e2⟩ := or_f h1
  obtain ⟨h3, e3⟩ := or_f h2
  have d1 := of_decide_eq_false e1
  have d2 := of_decide_eq_false e2
  exact ⟨nd_f (or_f h3).2, nd_f e3, by omega, by omega⟩
theorem two_of {l : List Cl} (h : (2 : Int) ≤ (l.length : Int)) : ∃ a d r, l = a :: d :: r := by
  match l, h with
  | [], h => simp at h
  | [a], h => simp at h
  | a :: d :: r, _ => exact ⟨a, d, r, rfl⟩
theorem cor_ne (c d : Cl) : ∀ (r : List Cl), corL (some c) (d :: r) ≠ []
  | [] => by rw [cor_one]; simp
  | e :: r => by
    rw [cor_two]
    have := cor_ne d e r
    intro h
    exact this (List.append_eq_nil_iff.1 h).2
theorem cor_mem : ∀ (r : List Cl) (p : Option Cl), ∀ x ∈ corL p r, x ∈ r
  | [], p, x, h => by simp [corL] at h
  | [c], p, x, h => by rw [cor_one] at h; exact h
  | c :: d :: r, p, x, h => by
    rw [cor_two] at h
    rcases List.mem_append.1 h with e | e
    · have : x = c := by
        cases p with
        | none => exact List.mem_singleton.1 e
        | some q => simp only at e; split at e; cases e; exact List.mem_singleton.1 e
      rw [this]; exact .head _
    · exact .tail _ (cor_mem (d :: r) _ x e)
theorem cor_len : ∀ (r : List Cl) (p : Option Cl), (corL p r).length ≤ r.length
  | [], p => by simp [corL]
  | [c], p => by rw [cor_one]; exact Nat.le_refl _
  | c :: d :: r, p => by
    rw [cor_two, List.length_append]
    have h1 := cor_len (d :: r) (some c)
    simp only [List.length_cons] at h1 ⊢
    cases p with
    | none => simp only [List.length_cons, List.length_nil]; omega
    | some q =>
      simp only
      split
      · simp only [List.length_nil]; omega
      · simp only [List.length_cons, List.length_nil]; omega
/-- The next corner lies ahead. -/
theorem cor_ahead {g : Gr} (hs : szA g = true) : ∀ (r : List Cl) (c d t : Cl) (m : List Cl), inB g c = true → wk g c (d :: r) → corL (some c) (d :: r) = t :: m → ∃ s : Int, 1 ≤ s ∧ t = cadd c (mulC s (csub d c)) ∧ (t = d → m = corL (some d) r) ∧ (t ≠ d → t :: m = corL (some d) r)
  | [], c, d, t, m, hc, hw, h => by
    rw [cor_one] at h
    simp only [List.cons.injEq] at h
    obtain ⟨rfl, rfl⟩ := h
    exact ⟨1, Int.le_refl _, cl_ext (by simp only [cadd, mulC, csub]; omega) (by simp only [cadd, mulC, csub]; omega) (by simp only [cadd, mulC, csub]; omega), fun _ => by simp [corL], fun h => (h rfl).elim⟩
  | e :: r, c, d, t, m, hc, hw, h => by
    obtain ⟨h1, h2, h3⟩ := hw
    have h4 := h3
    obtain ⟨k1, k2, k3⟩ := h4
    rw [cor_two] at h
    simp only at h
    rw [subW_in hs k1.1 h1.1, subW_in hs h1.1 hc] at h
    by_cases h5 : csub e d = csub d c
    · rw [if_pos h5, List.nil_append] at h
      obtain ⟨s, s1, s2, s3, s4⟩ := cor_ahead hs r d e t m h1.1 h3 h
      have hx := congrArg Cl.x h5; have hy := congrArg Cl.y h5; have hz := congrArg Cl.z h5
      simp only [csub] at hx hy hz
      have ed : ∀ v : Int, (s + 1) * v = s * v + v := fun v => by rw [Int.add_mul, Int.one_mul]
      have hne : t ≠ d := fun e2 => by
        rw [e2] at s2
        have w := way_one.1 k2
        have tx : d.x = d.x + s * (e.x - d.x) := congrArg Cl.x s2
        have ty : d.y = d.y + s * (e.y - d.y) := congrArg Cl.y s2
        have tz : d.z = d.z + s * (e.z - d.z) := congrArg Cl.z s2
        simp only [csub] at w
        rcases w with ⟨_, _, w | w⟩ | ⟨_, _, w | w⟩ | ⟨_, _, w | w⟩
        · rw [w] at tz; omega
        · rw [w] at tz; omega
        · rw [w] at ty; omega
        · rw [w] at ty; omega
        · rw [w] at tx; omega
        · rw [w] at tx; omega
      refine ⟨s + 1, by omega, ?_, fun e2 => (hne e2).elim, fun _ => h.symm⟩
      rw [s2, h5]
      refine cl_ext ?_ ?_ ?_ <;> simp only [cadd, mulC, csub, ed] <;> omega
    · rw [if_neg h5] at h
      simp only [List.cons_append, List.nil_append, List.cons.injEq] at h
      obtain ⟨rfl, h⟩ := h
      exact ⟨1, Int.le_refl _, cl_ext (by simp only [cadd, mulC, csub]; omega) (by simp only [cadd, mulC, csub]; omega) (by simp only [cadd, mulC, csub]; omega), fun _ => h.symm, fun h => (h rfl).elim⟩
theorem cor_cost {g : Gr} {bend : Int} (hs : szA g = true) : ∀ (r : List Cl) (c d : Cl), inB g c = true → wk g c (d :: r) → wc bend (csub d c) d r = (r.length : Int) + bend * (((corL (some c) (d :: r)).length : Int) - 1)
  | [], c, d, _, _ => by rw [cor_one]; simp [wc]
  | e :: r, c, d, hc, hw => by
    obtain ⟨h1, h2, h3⟩ := hw
    have h4 := h3
    obtain ⟨k1, k2, k3⟩ := h4
    have ih := cor_cost (bend := bend) hs r d e h1.1 h3
    have hn := way_ne h2
    rw [cor_two]
    simp only
    rw [subW_in hs k1.1 h1.1, subW_in hs h1.1 hc]
    simp only [wc, ih, List.length_cons, Int.natCast_add, Int.natCast_one]
    by_cases h5 : csub e d = csub d c
    · rw [if_pos h5, List.nil_append]
      have h6 : stepP bend (csub d c) (csub e d) = 1 := by unfold stepP; rw [if_pos (.inl h5.symm)]
      omega
    · rw [if_neg h5]
      have h6 : stepP bend (csub d c) (csub e d) = 1 + bend := by unfold stepP; rw [if_neg (fun h => h.elim (fun h => h5 h.symm) hn)]
      rw [h6, List.length_append, List.length_singleton]
      have h7 : bend * (((1 + (corL (some d) (e :: r)).length : Nat) : Int) - 1) = bend * (((corL (some d) (e :: r)).length : Int) - 1) + bend := by
        rw [show (((1 + (corL (some d) (e :: r)).length : Nat) : Int) - 1) = (((corL (some d) (e :: r)).length : Int) - 1) + 1 by omega, Int.mul_add, Int.mul_one]
      omega
def stp (c t : Cl) : Cl := ⟨c.x + max (-1) (min 1 (t.x - c.x)), c.y + max (-1) (min 1 (t.y - c.y)), c.z + max (-1) (min 1 (t.z - c.z))⟩
theorem stp_eq {c d : Cl} {s : Int} (hs : 1 ≤ s) (hw : csub d c ∈ ways) : stp c (cadd c (mulC s (csub d c))) = d := by
  have w := way_one.1 hw
  simp only [csub] at w
  have K : ∀ p q : Int, (q - p = 0 ∨ q - p = 1 ∨ q - p = -1) → p + max (-1) (min 1 (p + s * (q - p) - p)) = q := by
    intro p q h
    rcases h with h | h | h <;> rw [h] <;> omega
  exact cl_ext (K _ _ (by omega)) (K _ _ (by omega)) (K _ _ (by omega))
structure Tr (g : Gr) (p L : List Cl) (i : Nat) (cc : Cl) (ln : List Cl) : Prop where
  ex : ∃ r, ln ++ r = p ∧ wk g cc r ∧ inB g cc = true ∧ L.drop i = corL (some cc) r
structure Mid (g : Gr) (p L : List Cl) (i : Nat) (t : Cl) (k : Nat) (cc : Cl) (ln : List Cl) : Prop where
  ex : ∃ r, ln ++ r = p ∧ wk g cc r ∧ inB g cc = true ∧ farC cc t ≤ 24 - (k : Int) ∧ ((cc = t ∧ L.drop (i + 1) = corL (some cc) r) ∨ (cc ≠ t ∧ t :: L.drop (i + 1) = corL (some cc) r))
theorem far_mul {c d : Cl} {s : Int} (hs : 0 ≤ s) (hw : csub d c ∈ ways) : farC c (cadd c (mulC s (csub d c))) = s := by
  have w := way_one.1 hw
  simp only [csub] at w
  unfold farC absI
  simp only [cadd, mulC, csub]
  rcases w with ⟨w1, w2, w | w⟩ | ⟨w1, w2, w | w⟩ | ⟨w1, w2, w | w⟩ <;> rw [w1, w2, w] <;> omega
theorem Tr.mid {g : Gr} {p L : List Cl} {i : Nat} {cc t : Cl} {ln : List Cl} (hs : szA g = true) (h : Tr g p L i cc ln) (ht : L[i]? = some t) : Mid g p L i t 0 cc ln := by
  obtain ⟨r, h1, h2, h3, h4⟩ := h.ex
  rw [drop_get ht] at h4
  cases r with
  | nil => simp [corL] at h4
  | cons d r =>
    obtain ⟨s, s1, s2, _⟩ := cor_ahead hs r cc d t _ h3 h2 h4.symm
    have hf := far_mul (c := cc) (s := s) (by omega) h2.2.1
    rw [← s2] at hf
    have hm : inB g t = true := (wk_all h2 t (cor_mem _ _ t (by rw [← h4]; exact .head _))).1
    have b1 := inB_24 hs h3; have b2 := inB_24 hs hm
    have h24 : farC cc t ≤ 24 := by
      have w := way_one.1 h2.2.1
      have e1 : t.x = cc.x + s * (d.x - cc.x) := congrArg Cl.x s2
      have e2 : t.y = cc.y + s * (d.y - cc.y) := congrArg Cl.y s2
      have e3 : t.z = cc.z + s * (d.z - cc.z) := congrArg Cl.z s2
      simp only [csub] at w
      rw [hf]
      rcases w with ⟨_, _, w | w⟩ | ⟨_, _, w | w⟩ | ⟨_, _, w | w⟩
      · rw [w] at e3; omega
      · rw [w] at e3; omega
      · rw [w] at e2; omega
      · rw [w] at e2; omega
      · rw [w] at e1; omega
      · rw [w] at e1; omega
    refine ⟨⟨d :: r, h1, h2, h3, by simpa using h24, .inr ⟨fun e => ?_, h4⟩⟩⟩
    subst e
    have : farC cc cc = 0 := by unfold farC absI; omega
    omega
theorem Mid.step {g : Gr} {p L : List Cl} {i k : Nat} {cc t : Cl} {ln : List Cl} (hs : szA g = true) (h : Mid g p L i t k cc ln) (hne : cc ≠ t) : Mid g p L i t (k + 1) (stp cc t) (ln ++ [stp cc t]) := by
  obtain ⟨r, h1, h2, h3, h4, h5⟩ := h.ex
  rcases h5 with ⟨h5, _⟩ | ⟨_, h5⟩
  · exact (hne h5).elim
  cases r with
  | nil => simp [corL] at h5
  | cons d r =>
    obtain ⟨s, s1, s2, s3, s4⟩ := cor_ahead hs r cc d t _ h3 h2 h5.symm
    have e : stp cc t = d := by rw [s2]; exact stp_eq s1 h2.2.1
    rw [e]
    have hf := far_mul (c := cc) (s := s) (by omega) h2.2.1
    rw [← s2] at hf
    refine ⟨⟨r, by rw [List.append_assoc]; exact h1, h2.2.2, h2.1.1, ?_, ?_⟩⟩
    · have w := way_one.1 h2.2.1
      have e1 : t.x = cc.x + s * (d.x - cc.x) := congrArg Cl.x s2
      have e2 : t.y = cc.y + s * (d.y - cc.y) := congrArg Cl.y s2
      have e3 : t.z = cc.z + s * (d.z - cc.z) := congrArg Cl.z s2
      simp only [csub] at w
      have hfd : farC d t = s - 1 := by
        unfold farC absI
        rw [e1, e2, e3]
        rcases w with ⟨w1, w2, w | w⟩ | ⟨w1, w2, w | w⟩ | ⟨w1, w2, w | w⟩ <;> rw [w1, w2, w] <;> omega
      rw [hfd]; omega
    · by_cases h6 : t = d
      · exact .inl ⟨h6.symm, s3 h6⟩
      · exact .inr ⟨fun e2 => h6 e2.symm, s4 h6⟩
theorem Mid.done {g : Gr} {p L : List Cl} {i k : Nat} {cc t : Cl} {ln : List Cl} (h : Mid g p L i t k cc ln) (hc : (decide ((k : Int) < 24) && !decide (cc = t)) = false) : Tr g p L (i + 1) cc ln := by
  obtain ⟨r, h1, h2, h3, h4, h5⟩ := h.ex
  have he : cc = t := by
    by_cases e : cc = t
    · exact e
    · rw [decide_eq_false e, Bool.not_false, Bool.and_true] at hc
      have := of_decide_eq_false hc
      unfold farC absI at h4
      exact cl_ext (by omega) (by omega) (by omega)
  rcases h5 with ⟨_, h5⟩ | ⟨h5, _⟩
  · exact ⟨⟨r, h1, h2, h3, h5⟩⟩
  · exact (h5 he).elim
theorem Tr.done {g : Gr} {p L : List Cl} {i : Nat} {cc : Cl} {ln : List Cl} (h : Tr g p L i cc ln) (hi : ¬ i < L.length) : ln = p := by
  obtain ⟨r, h1, h2, h3, h4⟩ := h.ex
  rw [List.drop_eq_nil_of_le (by omega)] at h4
  cases r with
  | nil => rw [← h1, List.append_nil]
  | cons d r => exact (cor_ne cc d r h4.symm).elim
theorem Tr.len {g : Gr} {p L : List Cl} {i : Nat} {cc : Cl} {ln : List Cl} (h : Tr g p L i cc ln) : ln.length ≤ p.length := by
  obtain ⟨r, h1, _⟩ := h.ex
  rw [← h1, List.length_append]; omega
theorem Mid.len {g : Gr} {p L : List Cl} {i k : Nat} {cc t : Cl} {ln : List Cl} (h : Mid g p L i t k cc ln) : ln.length ≤ p.length := by
  obtain ⟨r, h1, _⟩ := h.ex
  rw [← h1, List.length_append]; omega
theorem Mid.in_ {g : Gr} {p L : List Cl} {i k : Nat} {cc t : Cl} {ln : List Cl} (h : Mid g p L i t k cc ln) : inB g cc = true := by
  obtain ⟨r, _, _, h3, _⟩ := h.ex; exact h3
theorem cor_start {g : Gr} {a d : Cl} {r : List Cl} (h : checkP g (a :: d :: r) = 0) : Tr g (a :: d :: r) (cornersP (a :: d :: r)) 1 a [a] := by
  obtain ⟨_, h2, h3, _⟩ := check_ok.1 h
  exact ⟨⟨d :: r, rfl, h3, h2.1, rfl⟩⟩
theorem cor_two_le (a d : Cl) (r : List Cl) : 2 ≤ (cornersP (a :: d :: r)).length ∧ (cornersP (a :: d :: r)).length ≤ (a :: d :: r).length ∧ (cornersP (a :: d :: r))[0]? = some a := by
  refine ⟨?_, cor_len _ _, rfl⟩
  show 2 ≤ (a :: corL (some a) (d :: r)).length
  have := cor_ne a d r
  have h2 := List.length_pos_iff.2 this
  simp only [List.length_cons]; omega
theorem cor_costs {g : Gr} {a d : Cl} {r : List Cl} (h : checkP g (a :: d :: r) = 0) {bend : Int} (hb : 0 ≤ bend ∧ bend ≤ 1000) : costP bend (a :: d :: r) = ((a :: d :: r).length : Int) - 1 + bend * (((cornersP (a :: d :: r)).length : Int) - 2) := by
  obtain ⟨h1, h2, h3, _⟩ := check_ok.1 h
  have hs := (chk_ok h1).1
  rw [cost_wc hs hb h2.1 h3]
  have h4 := cor_cost (bend := bend) hs r a d h2.1 h3
  have h5 : stepP bend c0 (csub d a) = 1 := by unfold stepP; rw [if_pos (.inr rfl)]
  have h6 : (cornersP (a :: d :: r)).length = (corL (some a) (d :: r)).length + 1 := rfl
  simp only [wc, h5, h4, h6, List.length_cons]
  rw [show ((((corL (some a) (d :: r)).length + 1 : Nat) : Int) - 2) = ((corL (some a) (d :: r)).length : Int) - 1 by omega]
  omega
theorem fin8 {n m c1 c2 : Int} (h1 : c1 = n - 1 + 1000 * (m - 2)) (h2 : c2 = n - 1) : ((decide (c1 = n - 1 + 1000 * (m - 2)) && decide (c2 = n - 1))) = true := by rw [decide_eq_true h1, decide_eq_true h2]; rfl

theorem step26_any (n : Int) (w : World)  :
    Calls Try.prog 26 #[.int .i64 n] w fun e w' => e = .returned (.int .i64 (max (-1) (min 1 n))) ∧ Ext w w' := by
  refine calls_act Try.func26 rfl Try.ntmps26 rfl rfl ?_
  show Code.wp _ _ _ (act 6 [(0, true, .int .i64 n)] _) _
  have hX : Ext w w := Ext.rfl' w
  refine wp_seq ?_
  refine region_s ?_
  refine q_look (look_assign rfl rfl) ?_
  refine q_nil ?_
  rintro _ rfl
  refine then_normal ?_
  refine wp_seq ?_
  refine region_s ?_
  refine q_look (look_move rfl rfl) ?_
  refine q_look (look_min2 rfl rfl rfl rfl) ?_
  refine q_look (look_max2 rfl rfl rfl rfl) ?_
  refine q_look (look_assign rfl rfl) ?_
  refine q_nil ?_
  rintro _ rfl
  refine then_normal ?_
  refine wp_ret ?_
  exact res1 Try.results26 rfl ⟨rfl, hX⟩


theorem Tr.inT {g : Gr} {p L : List Cl} {i : Nat} {cc t : Cl} {ln : List Cl} (hs : szA g = true) (h : Tr g p L i cc ln) (ht : L[i]? = some t) : inB g t = true := by
  obtain ⟨r, _, h2, _, h4⟩ := h.ex
  rw [drop_get ht] at h4
  exact (wk_all h2 t (cor_mem _ _ t (by rw [← h4]; exact .head _))).1

theorem corners_law (g : Gr) (l : List Cl) (A : Option Addr) (c : Nat) (w : World) (hG : GOk w g) (hA : Sl ccell 3 w A l) (hla : l.length ≤ maxLen) :
    Calls Try.prog 8 #[.agg (gcell g).toArray, .slice A l.length c] w fun e w' => e = .returned (.bool (true)) ∧ Ext w w' := by
  refine calls_act Try.func8 rfl Try.ntmps8 rfl rfl ?_
  show Code.wp _ _ _ (act 147 [(0, true, .agg (gcell g).toArray), (1, true, .slice A l.length c)] _) _
  have hX : Ext w w := Ext.rfl' w
  refine wp_seq ?_
  refine wp_region_lit ?_
  refine s_box rfl ?_
  intro g1 u1 hu1 hB1 hg1 hs1
  replace hB1 : Blk u1 g1 24 (gcell g) := hB1
  have ge_g1 : w.heap.size ≤ g1 := by have := hX.size; omega
  replace hX := hX.comp hu1
  refine s_look (look_assign rfl rfl) ?_
  refine s_nil ?_
  refine then_normal ?_
  refine wp_seq ?_
  refine wp_seq ?_
  refine region_q ?_
  refine q_look (look_loadN Try.underlying24 rfl szTry_24 rfl rfl rfl (ext_cell_n hB1)) ?_
  refine q_call (vs := [_]) enTry_20 ⟨⟨_, rfl, rfl⟩, trivial⟩ (fun wc hw => cext hw (small_any g wc (hG.ext (hX.comp hw)))) ?_
  refine q_look (look_not rfl rfl) ?_
  refine q_look (look_move rfl rfl) ?_
  refine q_lookg rfl rfl rfl (fun hq => look_loadN Try.underlying24 rfl szTry_24 rfl rfl rfl (ext_cell_n hB1)) ?_
  refine q_callg (vs := [_]) rfl rfl rfl enTry_12 (fun hq => ⟨⟨_, rfl, hq⟩, trivial⟩) (fun hq wc hw => cext hw (refcheckgrid_any g wc (hG.ext (hX.comp hw)))) ?_
  refine q_lookg rfl rfl rfl (fun hq => look_neq rfl hq rfl rfl) ?_
  refine q_look (look_or rfl rfl rfl rfl) ?_
  refine q_look (look_move rfl rfl) ?_
  refine q_lookg rfl rfl rfl (fun hq => look_loadN Try.underlying24 rfl szTry_24 rfl rfl rfl (ext_cell_n hB1)) ?_
  refine q_lookg rfl rfl rfl (fun hq => look_move rfl rfl) ?_
  refine q_callg (vs := [_, _]) rfl rfl rfl enTry_13 (fun hq => ⟨⟨_, rfl, hq⟩, ⟨_, rfl, hq⟩, trivial⟩) (fun hq wc hw => cext hw (check_any g l A c wc (hG.ext (hX.comp hw)) (hA.ext (hX.comp hw)) hla)) ?_
  refine q_lookg rfl rfl rfl (fun hq => look_neq rfl hq rfl rfl) ?_
  refine q_look (look_or rfl rfl rfl rfl) ?_
  refine q_look (look_move rfl rfl) ?_
  refine q_lookg rfl rfl rfl (fun hq => look_move rfl rfl) ?_
  refine q_lookg rfl rfl rfl (fun hq => look_len_slice Try.underlying22 rfl hq) ?_
  refine q_lookg rfl rfl rfl (fun hq => look_lss rfl hq rfl rfl) ?_
  refine q_look (look_or rfl rfl rfl rfl) ?_
  refine q_look (look_move rfl rfl) ?_
  refine q_lookg rfl rfl rfl (fun hq => look_move rfl rfl) ?_
  refine q_lookg rfl rfl rfl (fun hq => look_len_slice Try.underlying22 rfl hq) ?_
  refine q_lookg rfl rfl rfl (fun hq => look_gtr rfl hq rfl rfl) ?_
  refine q_look (look_or rfl rfl rfl rfl) ?_
  refine q_nil ?_
  intro w1 hw1
  replace hX := hX.comp hw1
  replace hB1 := hB1.ext hw1
  refine then_normal ?_
  refine cond_split rfl (fun hc33 => ?_) (fun hc33 => ?_)
  · skip
    refine wp_seq ?_
    refine region_q ?_
    refine q_call (vs := []) enTry_10 trivial (fun wc hw => cext hw (awake_any wc)) ?_
    refine q_look (look_assign rfl rfl) ?_
    refine q_nil ?_
    intro w2 hw2
    replace hX := hX.comp hw2
    replace hB1 := hB1.ext hw2
    refine then_normal ?_
    refine wp_ret ?_
    refine then_ret ?_
    exact res1 Try.results8 rfl ⟨ret_bool (by first | rfl | simp), hX⟩
  · obtain ⟨h0, hck, hl2, hl3⟩ := cor_f hc33
    have hs := (chk_ok h0).1
    obtain ⟨a, d, r0, rfl⟩ := two_of hl2
    obtain ⟨L, hLe⟩ : ∃ L, L = cornersP (a :: d :: r0) := ⟨_, rfl⟩
    obtain ⟨m1, m2, m3⟩ := cor_two_le a d r0
    have hTr := cor_start hck
    have hcs1 := cor_costs hck (bend := 1000) (by omega)
    have hcs2 := cor_costs hck (bend := 0) (by omega)
    rw [← hLe] at m1 m2 m3 hTr hcs1 hcs2
    obtain ⟨b2, o2, rfl, hr2⟩ := (hA.ext hX).at_ (show 0 < (a :: d :: r0).length by simp)
    refine wp_skip ?_
    refine then_normal ?_
    refine wp_seq ?_
    refine wp_region_lit ?_
    refine s_look (look_move rfl rfl) ?_
    refine s_call (vs := [_]) enTry_18 ⟨⟨_, rfl, rfl⟩, trivial⟩ (hLe ▸ corners_any (a :: d :: r0) (some ⟨b2, o2, none⟩) c _ (hA.ext hX) hla (by simp only [List.length_cons] at hl3 ⊢; omega)) ?_
    rintro _ u2 ⟨v2, rfl, hc2, hL⟩
    refine ⟨_, rfl, ?_⟩
    have ne_hL_g1 : Value.ownBlock v2 ≠ some g1 := hL.ne_old hB1.lt
    replace hL := hL.weak hX.size
    replace hX := hX.comp hc2
    replace hB1 := hB1.ext hc2
    obtain ⟨AL, cL, rfl, _⟩ := hL.sl hce_c
    obtain ⟨b3, o3, rfl, hr3⟩ := (hL.slOf hce_c).1.at_ (show 0 < L.length by omega)
    refine s_look (look_assign rfl rfl) ?_
    refine s_nil ?_
    refine then_normal ?_
    refine wp_seq ?_
    refine wp_seq ?_
    refine region_qd mixed (by kernel_rfl) ?_
    refine q_look (look_move rfl rfl) ?_
    refine q_look (look_len_slice Try.underlying22 rfl rfl) ?_
    refine q_look (look_lss rfl rfl rfl rfl) ?_
    refine q_look (look_move rfl rfl) ?_
    refine q_lookg rfl rfl rfl (fun hq => look_move rfl rfl) ?_
    refine q_lookg rfl rfl rfl (fun hq => look_len_slice Try.underlying22 rfl hq) ?_
    refine q_lookg rfl rfl rfl (fun hq => look_move rfl rfl) ?_
    refine q_lookg rfl rfl rfl (fun hq => look_len_slice Try.underlying22 rfl hq) ?_
    refine q_lookg rfl rfl rfl (fun hq => look_gtr rfl hq rfl hq) ?_
    refine q_look (look_or rfl rfl rfl rfl) ?_
    refine q_look (look_move rfl rfl) ?_
    refine q_lookg rfl rfl rfl (fun hq => look_move rfl rfl) ?_
    refine q_lookg rfl rfl rfl (fun hq => look_indexAddr 0 Try.underlying22 szTry_35 rfl hq rfl rfl rfl (by omega)) ?_
    refine q_lookg rfl rfl rfl (fun hq => look_loadN Try.underlying35 rfl szTry_35 rfl rfl hq (cs := ccell a) (extn (hL.rd hce_c 0 a m3))) ?_
    refine q_lookg rfl rfl rfl (fun hq => look_move rfl rfl) ?_
    refine q_lookg rfl rfl rfl (fun hq => look_indexAddr 0 Try.underlying22 szTry_35 rfl hq rfl rfl rfl (by simp)) ?_
    refine q_lookg rfl rfl rfl (fun hq => look_loadN Try.underlying35 rfl szTry_35 rfl rfl hq (cs := ccell a) (extn ((hA.ext hX).rd 0 a rfl))) ?_
    refine q_lookg rfl rfl rfl (fun hq => look_neq_flat Try.underlying35 stood35 guard35 rfl hq rfl hq (eqC _ _)) ?_
    refine q_look (look_or rfl rfl rfl rfl) ?_
    refine q_nil ?_
    intro w3 hw3
    replace hX := hX.comp hw3
    replace hB1 := hB1.ext hw3
    replace hL := hL.ext hw3
    refine then_normal ?_
    refine cond_false rfl (by rw [decide_eq_false (show ¬ (L.length : Int) < 2 by omega), decide_eq_false (show ¬ ((a :: d :: r0).length : Int) < (L.length : Int) by omega), decide_eq_true (rfl : a = a)]; rfl) ?_
    refine wp_skip ?_
    refine then_normal ?_
    refine wp_seq ?_
    refine wp_region_lit ?_
    refine s_look (look_move rfl rfl) ?_
    refine s_look (look_indexAddr 0 Try.underlying22 szTry_35 rfl rfl rfl rfl rfl (by omega)) ?_
    refine s_look (look_loadN Try.underlying35 rfl szTry_35 rfl rfl rfl (cs := ccell a) (eqn (hL.rd hce_c 0 a m3))) ?_
    refine s_alloc zeTry_35 ?_
    intro g3 u3 hu3 hB3 hg3 hs3
    have lt_g1_g3 : g1 < g3 := by have := hB1.lt; omega
    have ne_hL_g3 : (Value.ownBlock (.slice (some ⟨b3, o3, none⟩) L.length cL)) ≠ some g3 := hL.ne_new (by omega)
    have ge_g3 : w.heap.size ≤ g3 := by have := hX.size; omega
    replace hX := hX.comp hu3
    replace hB1 := hB1.ext hu3
    replace hL := hL.ext hu3
    refine s_store szTry_35 rfl (by simp [ccell, gcell, itcell, rcell, Value.cells, Value.oneCell']) rfl rfl hB3 rfl ?_
    intro u4 hk4 hT4
    replace hT4 : Blk u4 g3 35 (ccell a) := hT4
    replace hX := hX.kp hk4 (by omega)
    replace hB1 := hB1.kp hk4 (by omega)
    replace hL := hL.kp hk4 ne_hL_g3
    clear hB3
    have hB3 := hT4
    refine s_nil ?_
    refine then_normal ?_
    refine wp_seq ?_
    refine wp_region_lit ?_
    refine s_look (look_loadN Try.underlying35 rfl szTry_35 rfl rfl rfl (eqc_n hB3)) ?_
    refine s_buildSlice (parts := [(0, .tmp 59)]) (vs := [(0, .agg (ccell a).toArray)]) (cells := ccell a) Try.underlying22 szTry_35 zeTry_35 rfl rfl ⟨⟨_, rfl, rfl⟩, trivial⟩ rfl (by kernel_rfl) ?_
    intro g5 u5 hu5 hB5 hg5 hs5
    have lt_g1_g5 : g1 < g5 := by have := hB1.lt; omega
    have lt_g3_g5 : g3 < g5 := by have := hB3.lt; omega
    have ne_hL_g5 : (Value.ownBlock (.slice (some ⟨b3, o3, none⟩) L.length cL)) ≠ some g5 := hL.ne_new (by omega)
    have ge_g5 : w.heap.size ≤ g5 := by have := hX.size; omega
    replace hX := hX.comp hu5
    replace hB1 := hB1.ext hu5
    replace hB3 := hB3.ext hu5
    replace hL := hL.ext hu5
    have hO := Own.one (ce := ccell) (x := a) (base := w.heap.size) hB5 ge_g5 rfl
    have dis_hO_hL : Dis (.slice (some ⟨g5, 0, none⟩) 1 1) (.slice (some ⟨b3, o3, none⟩) L.length cL) := fun k hk e => by have h9 := Option.some.inj hk; simp only at h9; subst h9; exact ne_hL_g5 e
    have ne_hO_g1 : Value.ownBlock (.slice (some ⟨g5, 0, none⟩) 1 1) ≠ some g1 := by simp [Value.ownBlock]; have := lt_g1_g5; omega
    have ne_hO_g3 : Value.ownBlock (.slice (some ⟨g5, 0, none⟩) 1 1) ≠ some g3 := by simp [Value.ownBlock]; have := lt_g3_g5; omega
    refine s_look (look_assign rfl rfl) ?_
    refine s_nil ?_
    refine then_normal ?_
    refine wp_seq ?_
    refine wp_seq ?_
    refine region_s ?_
    refine q_look (look_assign rfl rfl) ?_
    refine q_nil ?_
    rintro _ rfl
    refine then_normal ?_
    refine wp_block ?_
    refine loop_act (fun (ls : Nat × Cl × List Cl × Value) => [(1, .slice (some ⟨b2, o2, none⟩) (a :: d :: r0).length c), (5, .slice (some ⟨b3, o3, none⟩) L.length cL), (6, .pointer (some ⟨g3, 0, none⟩)), (7, ls.2.2.2), (8, .int .i64 (ls.1 : Int))]) (fun ls w' => (Ext w w') ∧ (Core.Own ccell 35 3 w.heap.size w' (.slice (some ⟨b3, o3, none⟩) L.length cL) L) ∧ (Value.ownBlock (.slice (some ⟨b3, o3, none⟩) L.length cL) ≠ some g3) ∧ (Dis ls.2.2.2 (.slice (some ⟨b3, o3, none⟩) L.length cL)) ∧ (Blk w' g3 35 (ccell ls.2.1)) ∧ (Core.Own ccell 35 3 w.heap.size w' ls.2.2.2 ls.2.2.1) ∧ (Value.ownBlock ls.2.2.2 ≠ some g3) ∧ (ls.1 ≤ L.length) ∧ (Tr g (a :: d :: r0) L ls.1 ls.2.1 ls.2.2.1)) (fun ls => L.length - ls.1) ((1, a, [a], .slice (some ⟨g5, 0, none⟩) 1 1)) ?_ ?_ ?_
    · exact ⟨rfl, rfl, rfl, rfl, rfl, trivial⟩
    · exact ⟨hX, hL, ne_hL_g3, dis_hO_hL, hB3, hO, ne_hO_g3, by omega, hTr⟩
    · rintro ⟨i, cc, ln, ov⟩ σ wr hF
      obtain ⟨hX, hL, ne_hL_g3, dis_hO_hL, hB3, hO, ne_hO_g3, hi1, hT⟩ : (Ext w wr) ∧ (Core.Own ccell 35 3 w.heap.size wr (.slice (some ⟨b3, o3, none⟩) L.length cL) L) ∧ (Value.ownBlock (.slice (some ⟨b3, o3, none⟩) L.length cL) ≠ some g3) ∧ (Dis ov (.slice (some ⟨b3, o3, none⟩) L.length cL)) ∧ (Blk wr g3 35 (ccell cc)) ∧ (Core.Own ccell 35 3 w.heap.size wr ov ln) ∧ (Value.ownBlock ov ≠ some g3) ∧ (i ≤ L.length) ∧ (Tr g (a :: d :: r0) L i cc ln) := hF
      show Code.wp _ _ _ (act 147 [(1, true, .slice (some ⟨b2, o2, none⟩) (a :: d :: r0).length c), (5, true, .slice (some ⟨b3, o3, none⟩) L.length cL), (6, true, .pointer (some ⟨g3, 0, none⟩)), (7, true, ov), (8, true, .int .i64 (i : Int))] _) _
      refine wp_seq ?_
      refine wp_seq ?_
      refine region_s ?_
      refine q_look (look_move rfl rfl) ?_
      refine q_look (look_move rfl rfl) ?_
      refine q_look (look_len_slice Try.underlying22 rfl rfl) ?_
      refine q_look (look_lss rfl rfl rfl rfl) ?_
      refine q_nil ?_
      rintro _ rfl
      refine then_normal ?_
      refine cond_split rfl (fun hc64 => ?_) (fun hc64 => ?_)
      · have hlt : i < L.length := by have := nn_t hc64; omega
        obtain ⟨t, hti⟩ := get_lt hlt
        have hM0 := hT.mid hs hti
        have htB : inB g t = true := hT.inT hs hti
        have htb := inB_24 hs htB
        refine wp_skip ?_
        refine then_normal ?_
        refine wp_seq ?_
        refine wp_block ?_
        refine wp_seq ?_
        refine region_s ?_
        refine q_look (look_assign rfl rfl) ?_
        refine q_nil ?_
        rintro _ rfl
        refine then_normal ?_
        refine wp_block ?_
        refine loop_act (fun (ls : Nat × Cl × List Cl × Value) => [(1, .slice (some ⟨b2, o2, none⟩) (a :: d :: r0).length c), (5, .slice (some ⟨b3, o3, none⟩) L.length cL), (6, .pointer (some ⟨g3, 0, none⟩)), (7, ls.2.2.2), (8, .int .i64 (i : Int)), (9, .int .i64 (ls.1 : Int))]) (fun ls w' => (Ext w w') ∧ (Core.Own ccell 35 3 w.heap.size w' (.slice (some ⟨b3, o3, none⟩) L.length cL) L) ∧ (Value.ownBlock (.slice (some ⟨b3, o3, none⟩) L.length cL) ≠ some g3) ∧ (Dis ls.2.2.2 (.slice (some ⟨b3, o3, none⟩) L.length cL)) ∧ (Blk w' g3 35 (ccell ls.2.1)) ∧ (Core.Own ccell 35 3 w.heap.size w' ls.2.2.2 ls.2.2.1) ∧ (Value.ownBlock ls.2.2.2 ≠ some g3) ∧ (ls.1 ≤ 24) ∧ (Mid g (a :: d :: r0) L i t ls.1 ls.2.1 ls.2.2.1)) (fun ls => 24 - ls.1) ((0, cc, ln, ov)) ?_ ?_ ?_
        · exact ⟨rfl, rfl, rfl, rfl, rfl, rfl, trivial⟩
        · exact ⟨hX, hL, ne_hL_g3, dis_hO_hL, hB3, hO, ne_hO_g3, Nat.zero_le _, hM0⟩
        · rintro ⟨k, cc, ln, ov⟩ σ wr hF
          obtain ⟨hX, hL, ne_hL_g3, dis_hO_hL, hB3, hO, ne_hO_g3, hk, hMi⟩ : (Ext w wr) ∧ (Core.Own ccell 35 3 w.heap.size wr (.slice (some ⟨b3, o3, none⟩) L.length cL) L) ∧ (Value.ownBlock (.slice (some ⟨b3, o3, none⟩) L.length cL) ≠ some g3) ∧ (Dis ov (.slice (some ⟨b3, o3, none⟩) L.length cL)) ∧ (Blk wr g3 35 (ccell cc)) ∧ (Core.Own ccell 35 3 w.heap.size wr ov ln) ∧ (Value.ownBlock ov ≠ some g3) ∧ (k ≤ 24) ∧ (Mid g (a :: d :: r0) L i t k cc ln) := hF
          show Code.wp _ _ _ (act 147 [(1, true, .slice (some ⟨b2, o2, none⟩) (a :: d :: r0).length c), (5, true, .slice (some ⟨b3, o3, none⟩) L.length cL), (6, true, .pointer (some ⟨g3, 0, none⟩)), (7, true, ov), (8, true, .int .i64 (i : Int)), (9, true, .int .i64 (k : Int))] _) _
          refine wp_seq ?_
          refine wp_seq ?_
          refine region_qd mixed (by kernel_rfl) ?_
          refine q_look (look_move rfl rfl) ?_
          refine q_look (look_lss rfl rfl rfl rfl) ?_
          refine q_look (look_move rfl rfl) ?_
          refine q_lookg rfl rfl rfl (fun hq => look_loadN Try.underlying35 rfl szTry_35 rfl rfl rfl (ext_cell_n hB3)) ?_
          refine q_lookg rfl rfl rfl (fun hq => look_move rfl rfl) ?_
          refine q_lookg rfl rfl rfl (fun hq => look_move rfl rfl) ?_
          refine q_lookg rfl rfl rfl (fun hq => look_indexAddr _ Try.underlying22 szTry_35 rfl hq rfl hq rfl (by omega)) ?_
          refine q_lookg rfl rfl rfl (fun hq => look_loadN Try.underlying35 rfl szTry_35 rfl rfl hq (cs := ccell t) (extn (hL.rd hce_c i t hti))) ?_
          refine q_lookg rfl rfl rfl (fun hq => look_neq_flat Try.underlying35 stood35 guard35 rfl hq rfl hq (eqC _ _)) ?_
          refine q_look (look_and rfl rfl rfl rfl) ?_
          refine q_nil ?_
          intro w4 hw4
          replace hX := hX.comp hw4
          replace hB3 := hB3.ext hw4
          replace hL := hL.ext hw4
          replace hO := hO.ext hw4
          refine then_normal ?_
          refine cond_split rfl (fun hc76 => ?_) (fun hc76 => ?_)
          · have hk24 : k < 24 := by have := nn_t (Bool.and_eq_true_iff.1 hc76).1; omega
            have hcne : cc ≠ t := nd_t (Bool.and_eq_true_iff.1 hc76).2
            have hcb := inB_24 hs hMi.in_
            have hln := hMi.len
            simp only [List.length_cons] at hln hl3
            refine wp_skip ?_
            refine then_normal ?_
            refine wp_seq ?_
            refine wp_block ?_
            refine wp_seq ?_
            refine region_hl (fun W => Blk W g3 35 (ccell cc) ∧ Core.Own ccell 35 3 w.heap.size W (.slice (some ⟨b3, o3, none⟩) L.length cL) (L)) [37] (tl := [_]) rfl [(0, true), (1, true), (2, true), (3, true), (4, true), (5, true), (6, true), (7, true), (8, true), (9, true), (12, true), (13, true), (14, true), (15, true), (16, true), (17, true), (18, true), (19, true), (20, true), (21, true), (24, true), (25, true), (26, true), (27, true), (28, true), (29, true), (30, true), (31, true), (32, true), (33, true), (10, false), (11, true), (22, false), (23, true), (34, false), (35, true), (36, true)] mixed (by kernel_rfl) rfl (by kernel_rfl) (by repeat (first | exact pk_body | refine pk_then ?_ | refine pk_block ?_))  ?_
            intro u6 hR6
            replace hX := hX.comp hR6
            replace hB3 := hB3.ext hR6
            replace hL := hL.ext hR6
            replace hO := hO.ext hR6
            refine ⟨⟨hB3, hL⟩, ?_⟩
            refine h_look rfl (look_fieldAddr Try.underlying35 rfl (fun _ _ => rfl) rfl rfl) ?_
            refine h_look rfl (look_load1 Try.underlying3 rfl rfl rfl (fun w' hS => (hS.1).cell rfl)) ?_
            refine h_look rfl (look_move rfl rfl) ?_
            refine h_look rfl (look_move rfl rfl) ?_
            refine h_look rfl (look_indexAddr _ Try.underlying22 szTry_35 rfl rfl rfl rfl rfl (by omega)) ?_
            refine h_look rfl (look_fieldAddr Try.underlying35 rfl (fun _ _ => rfl) rfl rfl) ?_
            refine h_look rfl (look_load1 Try.underlying3 rfl rfl rfl (fun w' hS => (hS.2.rd hce_c i t hti) _ _ rfl)) ?_
            refine h_look rfl (look_fieldAddr Try.underlying35 rfl (fun _ _ => rfl) rfl rfl) ?_
            refine h_look rfl (look_load1 Try.underlying3 rfl rfl rfl (fun w' hS => (hS.1).cell rfl)) ?_
            refine h_look rfl (look_sub rfl rfl rfl rfl (by have := maxLen_is; unfold I64; omega)) ?_
            refine h_look rfl (look_fieldAddr Try.underlying35 rfl (fun _ _ => rfl) rfl rfl) ?_
            refine h_look rfl (look_load1 Try.underlying3 rfl rfl rfl (fun w' hS => (hS.1).cell rfl)) ?_
            refine h_look rfl (look_move rfl rfl) ?_
            refine h_look rfl (look_move rfl rfl) ?_
            refine h_look rfl (look_indexAddr _ Try.underlying22 szTry_35 rfl rfl rfl rfl rfl (by omega)) ?_
            refine h_look rfl (look_fieldAddr Try.underlying35 rfl (fun _ _ => rfl) rfl rfl) ?_
            refine h_look rfl (look_load1 Try.underlying3 rfl rfl rfl (fun w' hS => (hS.2.rd hce_c i t hti) _ _ rfl)) ?_
            refine h_look rfl (look_fieldAddr Try.underlying35 rfl (fun _ _ => rfl) rfl rfl) ?_
            refine h_look rfl (look_load1 Try.underlying3 rfl rfl rfl (fun w' hS => (hS.1).cell rfl)) ?_
            refine h_look rfl (look_sub rfl rfl rfl rfl (by have := maxLen_is; unfold I64; omega)) ?_
            refine h_look rfl (look_fieldAddr Try.underlying35 rfl (fun _ _ => rfl) rfl rfl) ?_
            refine h_look rfl (look_load1 Try.underlying3 rfl rfl rfl (fun w' hS => (hS.1).cell rfl)) ?_
            refine h_look rfl (look_move rfl rfl) ?_
            refine h_look rfl (look_move rfl rfl) ?_
            refine h_look rfl (look_indexAddr _ Try.underlying22 szTry_35 rfl rfl rfl rfl rfl (by omega)) ?_
            refine h_look rfl (look_fieldAddr Try.underlying35 rfl (fun _ _ => rfl) rfl rfl) ?_
            refine h_look rfl (look_load1 Try.underlying3 rfl rfl rfl (fun w' hS => (hS.2.rd hce_c i t hti) _ _ rfl)) ?_
            refine h_look rfl (look_fieldAddr Try.underlying35 rfl (fun _ _ => rfl) rfl rfl) ?_
            refine h_look rfl (look_load1 Try.underlying3 rfl rfl rfl (fun w' hS => (hS.1).cell rfl)) ?_
            refine h_look rfl (look_sub rfl rfl rfl rfl (by have := maxLen_is; unfold I64; omega)) ?_
            refine h_seq rfl ?_ ⟨hB3, hL⟩
            refine s_call (vs := [_]) enTry_26 ⟨⟨_, rfl, rfl⟩, trivial⟩ (step26_any (t.x - cc.x) _) ?_
            rintro _ u7 ⟨rfl, hc7⟩
            refine ⟨_, rfl, ?_⟩
            replace hX := hX.comp hc7
            replace hB3 := hB3.ext hc7
            replace hL := hL.ext hc7
            replace hO := hO.ext hc7
            refine s_nil ?_
            refine then_normal ?_
            refine ⟨⟨hB3, hL⟩, ?_⟩
            refine h_look rfl (look_add rfl rfl rfl rfl (by have := maxLen_is; unfold I64; omega)) ?_
            refine h_seq rfl ?_ ⟨hB3, hL⟩
            refine s_call (vs := [_]) enTry_26 ⟨⟨_, rfl, rfl⟩, trivial⟩ (step26_any (t.y - cc.y) _) ?_
            rintro _ u8 ⟨rfl, hc8⟩
            refine ⟨_, rfl, ?_⟩
            replace hX := hX.comp hc8
            replace hB3 := hB3.ext hc8
            replace hL := hL.ext hc8
            replace hO := hO.ext hc8
            refine s_nil ?_
            refine then_normal ?_
            refine ⟨⟨hB3, hL⟩, ?_⟩
            refine h_look rfl (look_add rfl rfl rfl rfl (by have := maxLen_is; unfold I64; omega)) ?_
            refine h_seq rfl ?_ ⟨hB3, hL⟩
            refine s_call (vs := [_]) enTry_26 ⟨⟨_, rfl, rfl⟩, trivial⟩ (step26_any (t.z - cc.z) _) ?_
            rintro _ u9 ⟨rfl, hc9⟩
            refine ⟨_, rfl, ?_⟩
            replace hX := hX.comp hc9
            replace hB3 := hB3.ext hc9
            replace hL := hL.ext hc9
            replace hO := hO.ext hc9
            refine s_nil ?_
            refine then_normal ?_
            refine ⟨⟨hB3, hL⟩, ?_⟩
            refine h_look rfl (look_add rfl rfl rfl rfl (by have := maxLen_is; unfold I64; omega)) ?_
            refine h_look rfl (look_build (pl := [(0, 1), (1, 1), (2, 1)]) (parts := [(0, .tmp 90), (1, .tmp 102), (2, .tmp 114)]) (vs := [(0, _), (1, _), (2, _)]) (cells := ccell (stp cc t)) Try.underlying35 zeTry_35 (by kernel_rfl) ⟨⟨_, rfl, rfl⟩, ⟨_, rfl, rfl⟩, ⟨_, rfl, rfl⟩, trivial⟩ rfl (by kernel_rfl)) ?_
            refine h_nil ?_
            refine then_wpl ?_
            refine s_store szTry_35 rfl (by simp [ccell, gcell, itcell, rcell, Value.cells, Value.oneCell']) rfl rfl hB3 rfl ?_
            intro u10 hk10 hT10
            replace hT10 : Blk u10 g3 35 (ccell (stp cc t)) := hT10
            replace hX := hX.kp hk10 (by omega)
            replace hL := hL.kp hk10 ne_hL_g3
            replace hO := hO.kp hk10 ne_hO_g3
            clear hB3
            have hB3 := hT10
            refine s_nil ?_
            refine then_normal ?_
            refine wp_region_lit ?_
            refine s_look (look_move rfl rfl) ?_
            refine s_look (look_loadN Try.underlying35 rfl szTry_35 rfl rfl rfl (eqc_n hB3)) ?_
            refine s_buildSlice (parts := [(0, .tmp 117)]) (vs := [(0, .agg (ccell (stp cc t)).toArray)]) (cells := ccell (stp cc t)) Try.underlying22 szTry_35 zeTry_35 rfl rfl ⟨⟨_, rfl, rfl⟩, trivial⟩ rfl (by kernel_rfl) ?_
            intro g11 u11 hu11 hB11 hg11 hs11
            have lt_g3_g11 : g3 < g11 := by have := hB3.lt; omega
            have ne_hL_g11 : (Value.ownBlock (.slice (some ⟨b3, o3, none⟩) L.length cL)) ≠ some g11 := hL.ne_new (by omega)
            have ne_hO_g11 : (Value.ownBlock (ov)) ≠ some g11 := hO.ne_new (by omega)
            have ge_g11 : w.heap.size ≤ g11 := by have := hX.size; omega
            replace hX := hX.comp hu11
            replace hB3 := hB3.ext hu11
            replace hL := hL.ext hu11
            replace hO := hO.ext hu11
            have hsz12 := hX.size
            refine s_appendL (ce := ccell) (news := [stp cc t]) Try.underlying22 zsbTry_35 rfl rfl rfl hO rfl (Blk.src (x := stp cc t) rfl (by simp [ccell, Value.oneCell']) hB11) (by have := maxLen_is; simp only [List.length_cons, List.length_nil]; omega) (by simp only [List.length_cons, List.length_nil]; omega) (by omega) ?_
            intro v12 u12 hN12 hgr12 hat12
            replace hX := hX.grow hO (Nat.le_refl _) hgr12
            have hn_hB3 := hB3.grown hgr12 ne_hO_g3
            replace ne_hO_g3 := ne_app ne_hO_g3 hB3.lt hat12
            clear hB3
            have hB3 := hn_hB3
            clear hn_hB3
            have hn_hL := hL.grown hgr12 (Dis.ne dis_hO_hL)
            replace dis_hO_hL := Dis.app dis_hO_hL (fun k e => (hL.ge e).2) hat12
            clear hL
            have hL := hn_hL
            clear hn_hL
            clear hO
            have hO := hN12
            refine s_look (look_assign rfl rfl) ?_
            refine s_nil ?_
            refine inB_normal ?_
            refine then_normal ?_
            refine region_s ?_
            refine q_look (look_move rfl rfl) ?_
            refine q_look (look_add rfl rfl rfl rfl (by have := maxLen_is; unfold I64; omega)) ?_
            refine q_look (look_assign rfl rfl) ?_
            refine q_nil ?_
            rintro _ rfl
            exact loop_end ((k + 1, stp cc t, ln ++ [stp cc t], v12)) (by simp only []; omega) ⟨rfl, rfl, rfl, rfl, rfl, rfl, trivial⟩ ⟨hX, hL, ne_hL_g3, dis_hO_hL, hB3, hO, ne_hO_g3, by show k + 1 ≤ 24; omega, hMi.step hs hcne⟩
          · skip
            refine wp_exit ?_
            refine then_exit ?_
            refine then_exit ?_
            refine inB_exit_same ?_
            refine inB_normal ?_
            refine then_normal ?_
            refine region_s ?_
            refine q_look (look_move rfl rfl) ?_
            refine q_look (look_add rfl rfl rfl rfl (by have := maxLen_is; unfold I64; omega)) ?_
            refine q_look (look_assign rfl rfl) ?_
            refine q_nil ?_
            rintro _ rfl
            exact loop_end ((i + 1, cc, ln, ov)) (by simp only []; omega) ⟨rfl, rfl, rfl, rfl, rfl, trivial⟩ ⟨hX, hL, ne_hL_g3, dis_hO_hL, hB3, hO, ne_hO_g3, by show i + 1 ≤ L.length; omega, hMi.done hc76⟩
      · have hge : ¬ i < L.length := by have := nn_f hc64; omega
        obtain rfl := hT.done hge
        refine wp_exit ?_
        refine then_exit ?_
        refine then_exit ?_
        refine inB_exit_same ?_
        refine then_normal ?_
        refine wp_seq ?_
        obtain ⟨A4, c4, rfl, _⟩ := hO.sl hce_c
        simp only [List.length_cons] at hl3
        refine wp_region_lit ?_
        refine s_look (look_move rfl rfl) ?_
        refine s_look (look_move rfl rfl) ?_
        refine s_call (vs := [_, _]) enTry_17 ⟨⟨_, rfl, rfl⟩, ⟨_, rfl, rfl⟩, trivial⟩ (call_true (same_any (a :: d :: r0) (a :: d :: r0) A4 (some ⟨b2, o2, none⟩) c4 c _ (hO.slOf hce_c).1 (hA.ext hX) hla) (decide_eq_true rfl)) ?_
        rintro _ u13 ⟨rfl, hc13⟩
        refine ⟨_, rfl, ?_⟩
        replace hX := hX.comp hc13
        replace hB3 := hB3.ext hc13
        replace hL := hL.ext hc13
        replace hO := hO.ext hc13
        refine s_look (look_move rfl rfl) ?_
        refine s_want rfl rfl rfl (by simp) ?_
        refine s_look (look_move rfl rfl) ?_
        refine s_want rfl rfl rfl (by simp) ?_
        refine s_call (vs := [_, _]) enTry_15 ⟨⟨_, rfl, rfl⟩, ⟨_, rfl, rfl⟩, trivial⟩ (call_int (cost_any (a :: d :: r0) (some ⟨b2, o2, none⟩) c 1000 _ (hA.ext hX) hla (by simp only [List.length_cons]; omega)) hcs1) ?_
        rintro _ u14 ⟨rfl, hc14⟩
        refine ⟨_, rfl, ?_⟩
        replace hX := hX.comp hc14
        replace hB3 := hB3.ext hc14
        replace hL := hL.ext hc14
        replace hO := hO.ext hc14
        refine s_want rfl rfl rfl (by simp) ?_
        refine s_look (look_move rfl rfl) ?_
        refine s_want rfl rfl rfl (by simp) ?_
        refine s_look (look_len_slice Try.underlying22 rfl rfl) ?_
        refine s_want rfl rfl rfl (by simp) ?_
        refine s_look (look_sub rfl rfl rfl rfl (by simp only [List.length_cons] at m2 ⊢; unfold I64; omega)) ?_
        refine s_want rfl rfl rfl (by simp) ?_
        refine s_look (look_move rfl rfl) ?_
        refine s_want rfl rfl rfl (by simp) ?_
        refine s_look (look_len_slice Try.underlying22 rfl rfl) ?_
        refine s_want rfl rfl rfl (by simp) ?_
        refine s_look (look_sub rfl rfl rfl rfl (by simp only [List.length_cons] at m2 ⊢; unfold I64; omega)) ?_
        refine s_want rfl rfl rfl (by simp) ?_
        refine s_look (look_mul rfl rfl rfl rfl (by simp only [List.length_cons] at m2 ⊢; unfold I64; omega)) ?_
        refine s_want rfl rfl rfl (by simp) ?_
        refine s_look (look_add rfl rfl rfl rfl (by simp only [List.length_cons] at m2 ⊢; unfold I64; omega)) ?_
        refine s_want rfl rfl rfl (by simp) ?_
        refine s_look (look_eql rfl rfl rfl rfl) ?_
        refine s_look (look_and2 rfl rfl rfl rfl) ?_
        refine s_look (look_move rfl rfl) ?_
        refine s_want rfl rfl rfl (by simp) ?_
        refine s_look (look_move rfl rfl) ?_
        refine s_want rfl rfl rfl (by simp) ?_
        refine s_call (vs := [_, _]) enTry_15 ⟨⟨_, rfl, rfl⟩, ⟨_, rfl, rfl⟩, trivial⟩ (call_int (cost_any (a :: d :: r0) (some ⟨b2, o2, none⟩) c 0 _ (hA.ext hX) hla (by simp only [List.length_cons]; omega)) hcs2) ?_
        rintro _ u15 ⟨rfl, hc15⟩
        refine ⟨_, rfl, ?_⟩
        replace hX := hX.comp hc15
        replace hB3 := hB3.ext hc15
        replace hL := hL.ext hc15
        replace hO := hO.ext hc15
        refine s_want rfl rfl rfl (by simp) ?_
        refine s_look (look_move rfl rfl) ?_
        refine s_want rfl rfl rfl (by simp) ?_
        refine s_look (look_len_slice Try.underlying22 rfl rfl) ?_
        refine s_want rfl rfl rfl (by simp) ?_
        refine s_look (look_sub rfl rfl rfl rfl (by simp only [List.length_cons] at m2 ⊢; unfold I64; omega)) ?_
        refine s_want rfl rfl rfl (by simp) ?_
        refine s_look (look_eql rfl rfl rfl rfl) ?_
        refine s_look (look_and2 rfl rfl rfl rfl) ?_
        refine s_look (look_move rfl rfl) ?_
        refine s_want rfl rfl rfl (by simp) ?_
        refine s_call (vs := []) enTry_10 trivial (awake_any _) ?_
        rintro _ u16 ⟨rfl, hc16⟩
        refine ⟨_, rfl, ?_⟩
        replace hX := hX.comp hc16
        replace hB3 := hB3.ext hc16
        replace hL := hL.ext hc16
        replace hO := hO.ext hc16
        refine s_look (look_and2 rfl rfl rfl rfl) ?_
        refine s_look (look_assign rfl rfl) ?_
        refine s_nil ?_
        refine then_normal ?_
        refine wp_ret ?_
        exact res1 Try.results8 rfl ⟨ret_bool (by first | rfl | simp), hX⟩

end Go.Proofs.Ytbmchijgejgboaa
