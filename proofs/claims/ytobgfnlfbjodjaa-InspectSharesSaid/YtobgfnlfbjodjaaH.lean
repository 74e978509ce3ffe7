/- The walks of chapter 35 (inspect), eighth part: extents grow, samples have their shares. -/
import Derived.Test.YtobgfnlfbjodjaaG
namespace Go.Proofs.Ytobgfnlfbjodjaa
open Go Go.RowKit Core
set_option linter.unusedVariables false
set_option linter.unusedSimpArgs false
attribute [local irreducible] wpQuiet wpList wpH Code.wp Calls bodyPost act


theorem cut_u {p : Int} (h : 0 ≤ p) : cutP p = min p 100 := by unfold cutP; omega
theorem dbl_ge {p : Int} (h : 0 ≤ p ∧ p ≤ 100) : ∀ n, p ≤ dbl n p
  | 0 => Int.le_refl _
  | n + 1 => by have := dbl_ge h n; have := dbl_bd h n; simp only [dbl]; omega
theorem dbl_mono {p : Int} (h : 0 ≤ p ∧ p ≤ 100) {m : Nat} : ∀ {n : Nat}, m ≤ n → dbl m p ≤ dbl n p
  | 0, hmn => by rw [show m = 0 by omega]; exact Int.le_refl _
  | n + 1, hmn => by
    by_cases e : m = n + 1
    · rw [e]; exact Int.le_refl _
    · have := dbl_mono h (show m ≤ n by omega); have := dbl_bd h n; simp only [dbl]; omega
theorem ext_bd {p f n : Int} (hp : 0 ≤ p) : min p 100 ≤ extentP p f n ∧ extentP p f n ≤ 100 := by
  have hc := cut_bd p
  rw [← cut_u hp]
  unfold extentP
  split
  · omega
  · exact ⟨dbl_ge hc _, (dbl_bd hc _).2⟩
theorem ext_out {p f n : Int} (hp : 0 ≤ p) (h : n < 1 ∨ n < f) : extentP p f n = min p 100 := by
  unfold extentP
  rw [if_pos (by omega), cut_u hp]
theorem ext_in {p f n : Int} (h1 : 1 ≤ n) (h2 : n ≤ 65535) (h3 : 0 ≤ f) (h4 : f ≤ n) : extentP p f n = dbl (20 * f / n).toNat (cutP p) := by
  unfold extentP
  rw [if_neg (by omega)]
theorem ext_less {p f n : Int} (h1 : 1 ≤ n) (h2 : n ≤ 65535) (h3 : 1 ≤ f) (h4 : f ≤ n) : extentP p (f - 1) n ≤ extentP p f n ∧ (20 * f / n = 20 * (f - 1) / n → extentP p f n = extentP p (f - 1) n) := by
  rw [ext_in h1 h2 (by omega) (by omega), ext_in h1 h2 (by omega) h4]
  have h : 20 * (f - 1) / n ≤ 20 * f / n := Int.ediv_le_ediv (by omega) (by omega)
  exact ⟨dbl_mono (cut_bd p) (by omega), fun e => by rw [e]⟩
theorem quo_bd {f n : Int} (h1 : 1 ≤ n) (h3 : 0 ≤ f) (h4 : f ≤ n) : 0 ≤ 20 * f / n ∧ 20 * f / n ≤ 20 :=
  ⟨Int.ediv_nonneg (by omega) (by omega), by have := Int.ediv_le_ediv (a := 20 * f) (b := 20 * n) (c := n) (by omega) (by omega); rw [Int.mul_ediv_cancel _ (by omega)] at this; exact this⟩
theorem ext_low {p f n : Int} (hp : 0 ≤ p) (h1 : 1 ≤ n) (h2 : n ≤ 65535) (h3 : 0 ≤ f) (h4 : f ≤ n) (h5 : 20 * f < n) : extentP p f n = min p 100 := by
  rw [ext_in h1 h2 h3 h4, Int.ediv_eq_zero_of_lt (by omega) h5, ← cut_u hp]; rfl
theorem ext_one {p f n : Int} (hp : 0 ≤ p) (h1 : 1 ≤ n) (h2 : n ≤ 65535) (h3 : 0 ≤ f) (h4 : f ≤ n) (h5 : n ≤ 20 * f) (h6 : 10 * f < n) : extentP p f n = min (2 * min p 100) 100 := by
  have e : 20 * f / n = 1 := by
    have a : 1 ≤ 20 * f / n := Int.le_ediv_of_mul_le (by omega) (by omega)
    have b : 20 * f / n < 2 := Int.ediv_lt_of_lt_mul (by omega) (by omega)
    omega
  rw [ext_in h1 h2 h3 h4, e, ← cut_u hp]; rfl

set_option maxHeartbeats 1000000 in
theorem grows_law (x f n : Int) (w : World) (hx : 0 ≤ x ∧ x ≤ 255) (hf : 0 ≤ f ∧ f ≤ 65535) (hn : 0 ≤ n ∧ n ≤ 65535) :
    Calls Try.prog 10 #[.int .u8 x, .int .u16 f, .int .u16 n] w fun e w' => e = .returned (.bool (true)) ∧ Ext w w' := by
  refine calls_act Try.func10 rfl Try.ntmps10 rfl rfl ?_
  show Code.wp _ _ _ (act 105 [(0, true, .int .u8 x), (1, true, .int .u16 f), (2, true, .int .u16 n)] _) _
  have hX : Ext w w := Ext.rfl' w
  refine wp_seq ?_
  refine region_s ?_
  refine q_look (look_assign rfl rfl) ?_
  refine q_nil ?_
  rintro _ rfl
  refine then_normal ?_
  refine wp_seq ?_
  refine region_s ?_
  refine q_look (look_move rfl rfl) ?_
  refine q_look (look_conv_int Try.underlying3 Try.underlying5 rfl rfl (wrap_I64 (by unfold I64; omega))) ?_
  refine q_look (look_min2 rfl rfl rfl rfl) ?_
  refine q_look (look_move rfl rfl) ?_
  refine q_look (look_conv_int Try.underlying3 Try.underlying55 rfl rfl (wrap_I64 (by unfold I64; omega))) ?_
  refine q_look (look_move rfl rfl) ?_
  refine q_look (look_conv_int Try.underlying3 Try.underlying55 rfl rfl (wrap_I64 (by unfold I64; omega))) ?_
  refine q_look (look_assign rfl rfl) ?_
  refine q_look (look_assign rfl rfl) ?_
  refine q_look (look_assign rfl rfl) ?_
  refine q_nil ?_
  rintro _ rfl
  refine then_normal ?_
  refine wp_seq ?_
  refine region_q ?_
  refine q_look (look_move rfl rfl) ?_
  refine q_look (look_conv_int Try.underlying3 Try.underlying5 rfl rfl (wrap_I64 (by unfold I64; omega))) ?_
  refine q_look (look_move rfl rfl) ?_
  refine q_look (look_move rfl rfl) ?_
  refine q_call (vs := [_, _, _]) enTry_24 ⟨⟨_, rfl, rfl⟩, ⟨_, rfl, rfl⟩, ⟨_, rfl, rfl⟩, trivial⟩ (fun wc hw => cext hw (extent_any x f n wc)) ?_
  refine q_look (look_assign rfl rfl) ?_
  refine q_nil ?_
  intro w1 hw1
  replace hX := hX.comp hw1
  refine then_normal ?_
  refine wp_seq ?_
  refine wp_seq ?_
  refine region_s ?_
  refine q_look (look_move rfl rfl) ?_
  refine q_look (look_move rfl rfl) ?_
  refine q_look (look_lss rfl rfl rfl rfl) ?_
  refine q_look (look_move rfl rfl) ?_
  refine q_lookg rfl rfl rfl (fun hq => look_move rfl rfl) ?_
  refine q_lookg rfl rfl rfl (fun hq => look_gtr rfl hq rfl rfl) ?_
  refine q_look (look_or rfl rfl rfl rfl) ?_
  refine q_nil ?_
  rintro _ rfl
  refine then_normal ?_
  refine cond_false rfl (by have h := ext_bd (f := f) (n := n) hx.1; rw [Bool.or_eq_false_iff]; exact ⟨decide_eq_false (by omega), decide_eq_false (by omega)⟩) ?_
  refine wp_skip ?_
  refine then_normal ?_
  refine wp_seq ?_
  refine wp_seq ?_
  refine region_s ?_
  refine q_look (look_move rfl rfl) ?_
  refine q_look (look_lss rfl rfl rfl rfl) ?_
  refine q_look (look_move rfl rfl) ?_
  refine q_lookg rfl rfl rfl (fun hq => look_move rfl rfl) ?_
  refine q_lookg rfl rfl rfl (fun hq => look_move rfl rfl) ?_
  refine q_lookg rfl rfl rfl (fun hq => look_gtr rfl hq rfl hq) ?_
  refine q_look (look_or rfl rfl rfl rfl) ?_
  refine q_nil ?_
  rintro _ rfl
  refine then_normal ?_
  refine cond_split rfl (fun hc37 => ?_) (fun hc37 => ?_)
  · have hout : n < 1 ∨ n < f := by simp at hc37; omega
    refine wp_seq ?_
    refine region_q ?_
    refine q_look (look_move rfl rfl) ?_
    refine q_look (look_move rfl rfl) ?_
    refine q_look (look_eql rfl rfl rfl rfl) ?_
    refine q_look (look_move rfl rfl) ?_
    refine q_callg (vs := []) rfl rfl rfl enTry_14 (fun hq => trivial) (fun hq wc hw => cext hw (awake_any wc)) ?_
    refine q_look (look_and rfl rfl rfl rfl) ?_
    refine q_look (look_assign rfl rfl) ?_
    refine q_nil ?_
    intro w2 hw2
    replace hX := hX.comp hw2
    refine then_normal ?_
    refine wp_ret ?_
    refine then_ret ?_
    exact res1 Try.results10 rfl ⟨ret_bool (by rw [ext_out hx.1 hout]; simp), hX⟩
  · have hin : 1 ≤ n ∧ f ≤ n := by simp at hc37; omega
    have hq1 := quo_bd hin.1 hf.1 hin.2
    have hb1 := ext_bd (f := f) (n := n) hx.1
    refine wp_skip ?_
    refine then_normal ?_
    refine wp_seq ?_
    refine region_q ?_
    refine q_look (look_move rfl rfl) ?_
    refine q_look (look_conv_int Try.underlying3 Try.underlying5 rfl rfl (wrap_I64 (by unfold I64; omega))) ?_
    refine q_look (look_move rfl rfl) ?_
    refine q_look (look_sub rfl rfl rfl rfl (by unfold I64; omega)) ?_
    refine q_look (look_move rfl rfl) ?_
    refine q_call (vs := [_, _, _]) enTry_24 ⟨⟨_, rfl, rfl⟩, ⟨_, rfl, rfl⟩, ⟨_, rfl, rfl⟩, trivial⟩ (fun wc hw => cext hw (extent_any x (f - 1) n wc)) ?_
    refine q_look (look_assign rfl rfl) ?_
    refine q_nil ?_
    intro w3 hw3
    replace hX := hX.comp hw3
    refine then_normal ?_
    refine wp_seq ?_
    refine wp_seq ?_
    refine region_qd mixed (by kernel_rfl) ?_
    refine q_look (look_move rfl rfl) ?_
    refine q_look (look_gtr rfl rfl rfl rfl) ?_
    refine q_look (look_move rfl rfl) ?_
    refine q_lookg rfl rfl rfl (fun hq => look_move rfl rfl) ?_
    refine q_lookg rfl rfl rfl (fun hq => look_move rfl rfl) ?_
    refine q_lookg rfl rfl rfl (fun hq => look_gtr rfl hq rfl hq) ?_
    refine q_lookg rfl rfl rfl (fun hq => look_move rfl hq) ?_
    refine q_lookg rfl rfl rfl (fun hq => look_move rfl rfl) ?_
    refine q_lookg rfl rfl rfl (fun hq => look_mul rfl rfl rfl hq (by unfold I64; omega)) ?_
    refine q_lookg rfl rfl rfl (fun hq => look_move rfl rfl) ?_
    refine q_lookg rfl rfl rfl (fun hq => look_quo rfl hq rfl hq (by omega) (by omega) (by omega)) ?_
    refine q_lookg rfl rfl rfl (fun hq => look_move rfl rfl) ?_
    refine q_lookg rfl rfl rfl (fun hq => look_sub rfl hq rfl rfl (by unfold I64; omega)) ?_
    refine q_lookg rfl rfl rfl (fun hq => look_mul rfl rfl rfl hq (by unfold I64; omega)) ?_
    refine q_lookg rfl rfl rfl (fun hq => look_move rfl rfl) ?_
    refine q_lookg rfl rfl rfl (fun hq => look_quo rfl hq rfl hq (by have h0 := of_decide_eq_true (gqR (gqL hq)); omega) (by have h0 := of_decide_eq_true (gqR (gqL hq)); omega) (by omega)) ?_
    refine q_lookg rfl rfl rfl (fun hq => look_eql rfl hq rfl hq) ?_
    refine q_lookg rfl rfl rfl (fun hq => look_move rfl hq) ?_
    refine q_lookg rfl rfl rfl (fun hq => look_move rfl rfl) ?_
    refine q_lookg rfl rfl rfl (fun hq => look_move rfl rfl) ?_
    refine q_lookg rfl rfl rfl (fun hq => look_neq rfl hq rfl hq) ?_
    refine q_lookg rfl rfl rfl (fun hq => look_and rfl hq rfl hq) ?_
    refine q_lookg rfl rfl rfl (fun hq => look_or rfl hq rfl hq) ?_
    refine q_look (look_and rfl rfl rfl rfl) ?_
    refine q_nil ?_
    intro w4 hw4
    replace hX := hX.comp hw4
    refine then_normal ?_
    refine cond_false rfl (by
        rw [Bool.and_eq_false_iff]
        by_cases h0 : 0 < f
        · right
          have hl := ext_less (p := x) hin.1 hn.2 (show 1 ≤ f by omega) hin.2
          rw [Bool.or_eq_false_iff]
          refine ⟨decide_eq_false (by omega), ?_⟩
          rw [Bool.and_eq_false_iff]
          by_cases hd : 20 * f / n = 20 * (f - 1) / n
          · right; rw [decide_eq_true (hl.2 hd)]; rfl
          · left; exact decide_eq_false hd
        · left; exact decide_eq_false h0) ?_
    refine wp_skip ?_
    refine then_normal ?_
    refine wp_seq ?_
    refine region_q ?_
    refine q_look (look_move rfl rfl) ?_
    refine q_look (look_mul rfl rfl rfl rfl (by unfold I64; omega)) ?_
    refine q_look (look_move rfl rfl) ?_
    refine q_look (look_geq rfl rfl rfl rfl) ?_
    refine q_look (look_move rfl rfl) ?_
    refine q_lookg rfl rfl rfl (fun hq => look_move rfl rfl) ?_
    refine q_lookg rfl rfl rfl (fun hq => look_move rfl rfl) ?_
    refine q_lookg rfl rfl rfl (fun hq => look_eql rfl hq rfl hq) ?_
    refine q_look (look_or rfl rfl rfl rfl) ?_
    refine q_look (look_move rfl rfl) ?_
    refine q_lookg rfl rfl rfl (fun hq => look_move rfl rfl) ?_
    refine q_lookg rfl rfl rfl (fun hq => look_mul rfl rfl rfl hq (by unfold I64; omega)) ?_
    refine q_lookg rfl rfl rfl (fun hq => look_move rfl rfl) ?_
    refine q_lookg rfl rfl rfl (fun hq => look_lss rfl hq rfl hq) ?_
    refine q_lookg rfl rfl rfl (fun hq => look_move rfl hq) ?_
    refine q_lookg rfl rfl rfl (fun hq => look_move rfl rfl) ?_
    refine q_lookg rfl rfl rfl (fun hq => look_mul rfl rfl rfl hq (by unfold I64; omega)) ?_
    refine q_lookg rfl rfl rfl (fun hq => look_move rfl rfl) ?_
    refine q_lookg rfl rfl rfl (fun hq => look_geq rfl hq rfl hq) ?_
    refine q_lookg rfl rfl rfl (fun hq => look_or rfl hq rfl hq) ?_
    refine q_lookg rfl rfl rfl (fun hq => look_move rfl hq) ?_
    refine q_lookg rfl rfl rfl (fun hq => look_move rfl rfl) ?_
    refine q_lookg rfl rfl rfl (fun hq => look_move rfl rfl) ?_
    refine q_lookg rfl rfl rfl (fun hq => look_mul rfl rfl rfl hq (by unfold I64; omega)) ?_
    refine q_lookg rfl rfl rfl (fun hq => look_min2 rfl hq rfl rfl) ?_
    refine q_lookg rfl rfl rfl (fun hq => look_eql rfl hq rfl hq) ?_
    refine q_lookg rfl rfl rfl (fun hq => look_or rfl hq rfl hq) ?_
    refine q_look (look_and rfl rfl rfl rfl) ?_
    refine q_look (look_move rfl rfl) ?_
    refine q_callg (vs := []) rfl rfl rfl enTry_14 (fun hq => trivial) (fun hq wc hw => cext hw (awake_any wc)) ?_
    refine q_look (look_and rfl rfl rfl rfl) ?_
    refine q_look (look_assign rfl rfl) ?_
    refine q_nil ?_
    intro w5 hw5
    replace hX := hX.comp hw5
    refine then_normal ?_
    refine wp_ret ?_
    exact res1 Try.results10 rfl ⟨ret_bool (by
        simp only [Bool.and_true, Bool.and_eq_true, Bool.or_eq_true, decide_eq_true_eq]
        refine ⟨?_, ?_⟩
        · by_cases h : n ≤ 20 * f
          · exact .inl h
          · exact .inr (ext_low hx.1 hin.1 hn.2 hf.1 hin.2 (by omega))
        · by_cases h : 20 * f < n
          · exact .inl (.inl h)
          · by_cases h2 : n ≤ 10 * f
            · exact .inl (.inr h2)
            · exact .inr (ext_one hx.1 hin.1 hn.2 hf.1 hin.2 (by omega) (by omega))), hX⟩


theorem smp_len {p : Int} (hp : 0 ≤ p ∧ p ≤ 100) : ∀ (l : List ByteArray) (i : Nat), ((smp p i l).length : Int) = ((i : Int) + l.length) * p / 100 - (i : Int) * p / 100
  | [], i => by simp [smp]
  | x :: r, i => by
    have ih := smp_len hp r (i + 1)
    have e1 : ((i : Int) + 1) * p = (i : Int) * p + p := by rw [Int.add_mul, Int.one_mul]
    have e2 : ((i : Int) + ((x :: r).length : Nat)) = (((i + 1 : Nat) : Int) + (r.length : Nat)) := by simp only [List.length_cons]; omega
    rw [e2]
    unfold smp
    rw [show (((i + 1 : Nat) : Int)) = (i : Int) + 1 by omega] at ih ⊢
    rw [e1] at ih ⊢
    by_cases h : (i : Int) * p / 100 < ((i : Int) * p + p) / 100
    · rw [if_pos (decide_eq_true h), List.length_cons]; omega
    · rw [if_neg (by simpa using h)]; omega
theorem smp_pre {p : Int} : ∀ (l : List ByteArray) (i n : Nat), smp p i (l.take n) = (smp p i l).take (smp p i (l.take n)).length
  | [], i, n => by simp [smp]
  | x :: r, i, 0 => by simp [smp]
  | x :: r, i, n + 1 => by
    have ih := smp_pre (p := p) r (i + 1) n
    rw [List.take_succ_cons]
    unfold smp
    split
    · rw [List.length_cons, List.take_succ_cons, ← ih]
    · exact ih
theorem share_len {p : Int} (h : 0 ≤ p) (l : List ByteArray) : ((sampleP l p).length : Int) = (l.length : Int) * min p 100 / 100 := by
  unfold sampleP
  rw [smp_len (cut_bd p), cut_u h]; simp
theorem share_take {p : Int} (l : List ByteArray) (n : Nat) : sampleP (l.take n) p = (sampleP l p).take (sampleP (l.take n) p).length := smp_pre l 0 n
theorem share_le {p : Int} (l : List ByteArray) (n : Nat) : (sampleP (l.take n) p).length ≤ (sampleP l p).length := by
  rw [share_take]; exact List.length_take_le' _ _
theorem remAt {k : Int} {n : Nat} (h : 0 < n) : ∃ i : Nat, k % (n : Int) = (i : Int) ∧ i < n := by
  have h1 := Int.emod_nonneg k (show (n : Int) ≠ 0 by omega)
  have h2 := Int.emod_lt_of_pos k (show (0 : Int) < (n : Int) by omega)
  exact ⟨(k % (n : Int)).toNat, by omega, by omega⟩
theorem mul_u {a b A B : Int} (h1 : 0 ≤ a ∧ a ≤ A) (h2 : 0 ≤ b ∧ b ≤ B) : 0 ≤ a * b ∧ a * b ≤ A * B :=
  ⟨Int.mul_nonneg h1.1 h2.1, Int.mul_le_mul h1.2 h2.2 h2.1 (by omega)⟩

set_option maxHeartbeats 1000000 in
theorem shares_law (l : List ByteArray) (A : Option Addr) (cap : Nat) (x k : Int) (w : World) (hA : Sl scell 1 w A l) (hcap : l.length ≤ cap) (hnil : A = none → cap = 0) (hx : 0 ≤ x ∧ x ≤ 255) (hk : 0 ≤ k ∧ k ≤ 255) :
    Calls Try.prog 9 #[.slice A l.length cap, .int .u8 x, .int .u8 k] w fun e w' => e = .returned (.bool (true)) ∧ Ext w w' := by
  refine calls_act Try.func9 rfl Try.ntmps9 rfl rfl ?_
  show Code.wp _ _ _ (act 71 [(0, true, .slice A l.length cap), (1, true, .int .u8 x), (2, true, .int .u8 k)] _) _
  have hX : Ext w w := Ext.rfl' w
  refine wp_seq ?_
  refine region_s ?_
  refine q_look (look_assign rfl rfl) ?_
  refine q_nil ?_
  rintro _ rfl
  refine then_normal ?_
  refine wp_seq ?_
  refine wp_seq ?_
  refine region_s ?_
  refine q_look (look_move rfl rfl) ?_
  refine q_look (look_len_slice Try.underlying40 rfl rfl) ?_
  refine q_look (look_gtr rfl rfl rfl rfl) ?_
  refine q_nil ?_
  rintro _ rfl
  refine then_normal ?_
  refine cond_split rfl (fun hc13 => ?_) (fun hc13 => ?_)
  · skip
    refine wp_seq ?_
    refine region_q ?_
    refine q_call (vs := []) enTry_14 trivial (fun wc hw => cext hw (awake_any wc)) ?_
    refine q_look (look_assign rfl rfl) ?_
    refine q_nil ?_
    intro w1 hw1
    replace hX := hX.comp hw1
    refine then_normal ?_
    refine wp_ret ?_
    refine then_ret ?_
    exact res1 Try.results9 rfl ⟨rfl, hX⟩
  · have hlen : l.length ≤ 300 := by simp at hc13; omega
    refine wp_skip ?_
    refine then_normal ?_
    refine wp_seq ?_
    refine region_s ?_
    refine q_look (look_move rfl rfl) ?_
    refine q_look (look_conv_int Try.underlying3 Try.underlying5 rfl rfl (wrap_I64 (by unfold I64; omega))) ?_
    refine q_look (look_min2 rfl rfl rfl rfl) ?_
    refine q_look (look_assign rfl rfl) ?_
    refine q_nil ?_
    rintro _ rfl
    refine then_normal ?_
    refine wp_seq ?_
    refine region_s ?_
    refine q_look (look_assign rfl rfl) ?_
    refine q_nil ?_
    rintro _ rfl
    refine then_normal ?_
    refine seq_cut (n := 71) (fun (i : Nat) => [(0, .slice A l.length cap), (1, .int .u8 x), (7, .int .i64 (min x 100)), (8, .int .i64 (i : Int))]) (fun i w' => Ext w w' ∧ i ≤ l.length) ?_ ?_
    · refine wp_seq ?_
      refine region_s ?_
      refine q_look (look_move rfl rfl) ?_
      refine q_look (look_len_slice Try.underlying40 rfl rfl) ?_
      refine q_look (look_gtr rfl rfl rfl rfl) ?_
      refine q_nil ?_
      rintro _ rfl
      refine then_normal ?_
      refine cond_split rfl (fun hc20 => ?_) (fun hc20 => ?_)
      · have hl0 : 0 < l.length := by simp at hc20; omega
        obtain ⟨i, hi, hil⟩ := remAt (k := k) hl0
        refine region_s ?_
        refine q_look (look_move rfl rfl) ?_
        refine q_look (look_conv_int Try.underlying3 Try.underlying5 rfl rfl (wrap_I64 (by unfold I64; omega))) ?_
        refine q_look (look_move rfl rfl) ?_
        refine q_look (look_len_slice Try.underlying40 rfl rfl) ?_
        refine q_look (Look.as (look_rem rfl rfl rfl rfl (by omega) (by omega)) (congrArg (Value.int .i64) hi)) ?_
        refine q_look (look_assign rfl rfl) ?_
        refine q_nil ?_
        rintro _ rfl
        first | exact cut_end i ⟨rfl, rfl, rfl, rfl, trivial⟩ ⟨hX, by omega⟩ | exact cut_end 0 ⟨rfl, rfl, rfl, rfl, trivial⟩ ⟨hX, by omega⟩
      · have hl0 : l.length = 0 := by have := of_decide_eq_false hc20; omega
        refine wp_skip ?_
        first | exact cut_end i ⟨rfl, rfl, rfl, rfl, trivial⟩ ⟨hX, by omega⟩ | exact cut_end 0 ⟨rfl, rfl, rfl, rfl, trivial⟩ ⟨hX, by omega⟩
    · rintro i σ wr ⟨hX, hil⟩
      show Code.wp _ _ _ (act 71 [(0, true, .slice A l.length cap), (1, true, .int .u8 x), (7, true, .int .i64 (min x 100)), (8, true, .int .i64 (i : Int))] _) _
      have hL1 : ((l.take i).drop 0).length = i := by simp; omega
      have hsl := share_le (p := x) l i
      have hs1 := share_len hx.1 l
      have hs2 := share_len hx.1 (l.take i)
      rw [List.length_take, show min i l.length = i by omega] at hs2
      have hm1 := mul_u (show (0:Int) ≤ (l.length : Int) ∧ (l.length : Int) ≤ 300 by omega) (show 0 ≤ min x 100 ∧ min x 100 ≤ 100 by omega)
      have hm2 := mul_u (show (0:Int) ≤ (i : Int) ∧ (i : Int) ≤ 300 by omega) (show 0 ≤ min x 100 ∧ min x 100 ≤ 100 by omega)
      have hcap2 : ∀ h : cutA A cap 0 1 = none, cap = 0 := fun h => by have := cutA_none hnil h; omega
      refine wp_seq ?_
      refine region_h (fun W => Ext w W) [(0, true), (1, true), (2, true), (4, true), (5, true), (6, true), (7, true), (8, true), (3, false), (9, false), (10, true), (11, true)] mixed (by kernel_rfl) rfl (by kernel_rfl) (by repeat (first | exact pk_body | refine pk_then ?_ | refine pk_block ?_)) ?_
      intro u1 hR1
      replace hX := hX.comp hR1
      refine ⟨hX, ?_⟩
      refine h_look rfl (look_move rfl rfl) ?_
      refine h_look rfl (look_move rfl rfl) ?_
      refine h_look rfl (look_conv_int Try.underlying3 Try.underlying5 rfl rfl (wrap_I64 (by unfold I64; omega))) ?_
      refine h_look rfl (look_move rfl rfl) ?_
      refine h_look rfl (look_move rfl rfl) ?_
      refine h_look rfl (Look.as (look_slice_h (hi := i) Try.underlying40 szTry_9 rfl rfl rfl rfl rfl (by omega)) (by rw [hL1]) (v' := .slice (cutA A cap 0 1) ((l.take i).drop 0).length cap)) ?_
      refine h_look rfl (look_move rfl rfl) ?_
      refine h_look rfl (look_conv_int Try.underlying3 Try.underlying5 rfl rfl (wrap_I64 (by unfold I64; omega))) ?_
      refine h_seq rfl ?_ hX
      refine s_call (vs := [_, _]) enTry_22 ⟨⟨_, rfl, rfl⟩, ⟨_, rfl, rfl⟩, trivial⟩ (sample_any l A cap x _ (hA.ext hX) (by omega)) ?_
      rintro _ u2 ⟨v2, rfl, hc2, hM⟩
      refine ⟨_, rfl, ?_⟩
      replace hM := hM.weak hX.size
      replace hX := hX.comp hc2
      obtain ⟨AM, cM, rfl, hSlhM, _, hmxhM, _⟩ := hM.sl hce_s
      refine s_nil ?_
      refine then_normal ?_
      refine ⟨hX, ?_⟩
      refine h_seq rfl ?_ hX
      refine s_call (vs := [_, _]) enTry_22 ⟨⟨_, rfl, rfl⟩, ⟨_, rfl, rfl⟩, trivial⟩ (sample_any ((l.take i).drop 0) (cutA A cap 0 1) cap x _ ((hA.ext hX).cut hcap 0 i) (by omega)) ?_
      rintro _ u3 ⟨v3, rfl, hc3, hN⟩
      refine ⟨_, rfl, ?_⟩
      have dis_hM_hN := Own.dis_new hM hN
      replace hN := hN.weak hX.size
      replace hX := hX.comp hc3
      replace hM := hM.ext hc3
      obtain ⟨AN, cN, rfl, hSlhN, _, hmxhN, _⟩ := hN.sl hce_s
      refine s_nil ?_
      refine then_normal ?_
      refine ⟨hX, ?_⟩
      refine h_look rfl (look_assign rfl rfl) ?_
      refine h_look rfl (look_assign rfl rfl) ?_
      refine h_nil ?_
      refine then_normal ?_
      refine wp_seq ?_
      refine wp_region_lit ?_
      refine s_look (look_move rfl rfl) ?_
      refine s_look (look_len_slice Try.underlying40 rfl rfl) ?_
      refine s_look (look_move rfl rfl) ?_
      refine s_look (look_len_slice Try.underlying40 rfl rfl) ?_
      refine s_look (look_move rfl rfl) ?_
      refine s_look (look_mul rfl rfl rfl rfl (by unfold I64; omega)) ?_
      refine s_look (look_quo rfl rfl rfl rfl (by omega) (by omega) (by omega)) ?_
      refine s_look (look_eql rfl rfl rfl rfl) ?_
      refine s_look (look_move rfl rfl) ?_
      refine s_want rfl rfl rfl (by rw [decide_eq_true_eq]; exact hs1) ?_
      refine s_look (look_move rfl rfl) ?_
      refine s_want rfl rfl rfl (by rw [decide_eq_true_eq]; exact hs1) ?_
      refine s_look (look_len_slice Try.underlying40 rfl rfl) ?_
      refine s_want rfl rfl rfl (by rw [decide_eq_true_eq]; exact hs1) ?_
      refine s_look (look_move rfl rfl) ?_
      refine s_want rfl rfl rfl (by rw [decide_eq_true_eq]; exact hs1) ?_
      refine s_look (look_move rfl rfl) ?_
      refine s_want rfl rfl rfl (by rw [decide_eq_true_eq]; exact hs1) ?_
      refine s_look (look_mul rfl rfl rfl rfl (by unfold I64; omega)) ?_
      refine s_want rfl rfl rfl (by rw [decide_eq_true_eq]; exact hs1) ?_
      refine s_look (look_quo rfl rfl rfl rfl (by omega) (by omega) (by omega)) ?_
      refine s_want rfl rfl rfl (by rw [decide_eq_true_eq]; exact hs1) ?_
      refine s_look (look_eql rfl rfl rfl rfl) ?_
      refine s_look (look_and2 rfl rfl rfl rfl) ?_
      refine s_look (look_move rfl rfl) ?_
      refine s_want rfl rfl rfl (by simp only [List.drop_zero, Bool.and_true, Bool.and_eq_true, decide_eq_true_eq]; omega) ?_
      refine s_look (look_move rfl rfl) ?_
      refine s_want rfl rfl rfl (by simp only [List.drop_zero, Bool.and_true, Bool.and_eq_true, decide_eq_true_eq]; omega) ?_
      refine s_look (look_len_slice Try.underlying40 rfl rfl) ?_
      refine s_want rfl rfl rfl (by simp only [List.drop_zero, Bool.and_true, Bool.and_eq_true, decide_eq_true_eq]; omega) ?_
      refine s_look (look_move rfl rfl) ?_
      refine s_want rfl rfl rfl (by simp only [List.drop_zero, Bool.and_true, Bool.and_eq_true, decide_eq_true_eq]; omega) ?_
      refine s_look (look_len_slice Try.underlying40 rfl rfl) ?_
      refine s_want rfl rfl rfl (by simp only [List.drop_zero, Bool.and_true, Bool.and_eq_true, decide_eq_true_eq]; omega) ?_
      refine s_look (look_leq rfl rfl rfl rfl) ?_
      refine s_look (look_and2 rfl rfl rfl rfl) ?_
      refine s_look (look_move rfl rfl) ?_
      refine s_want rfl rfl rfl (by simp only [List.drop_zero, Bool.and_true, Bool.and_eq_true, decide_eq_true_eq]; omega) ?_
      refine s_look (look_move rfl rfl) ?_
      refine s_want rfl rfl rfl (by simp only [List.drop_zero, Bool.and_true, Bool.and_eq_true, decide_eq_true_eq]; omega) ?_
      refine s_look (look_move rfl rfl) ?_
      refine s_want rfl rfl rfl (by simp only [List.drop_zero, Bool.and_true, Bool.and_eq_true, decide_eq_true_eq]; omega) ?_
      refine s_look (look_move rfl rfl) ?_
      refine s_want rfl rfl rfl (by simp only [List.drop_zero, Bool.and_true, Bool.and_eq_true, decide_eq_true_eq]; omega) ?_
      refine s_look (look_len_slice Try.underlying40 rfl rfl) ?_
      refine s_want rfl rfl rfl (by simp only [List.drop_zero, Bool.and_true, Bool.and_eq_true, decide_eq_true_eq]; omega) ?_
      refine s_look (Look.as (look_slice_h (hi := (sampleP ((l.take i).drop 0) x).length) Try.underlying40 szTry_9 rfl rfl rfl rfl rfl (by rw [List.drop_zero]; omega)) (by rw [show (((sampleP l x).take (sampleP ((l.take i).drop 0) x).length).drop 0).length = (sampleP ((l.take i).drop 0) x).length from by rw [List.drop_zero, List.drop_zero, List.length_take]; omega]) (v' := .slice (cutA AM cM 0 1) (((sampleP l x).take (sampleP ((l.take i).drop 0) x).length).drop 0).length cM)) ?_
      refine s_want rfl rfl rfl (by simp only [List.drop_zero, Bool.and_true, Bool.and_eq_true, decide_eq_true_eq]; omega) ?_
      refine s_call (vs := [_, _]) enTry_21 ⟨⟨_, rfl, rfl⟩, ⟨_, rfl, rfl⟩, trivial⟩ (call_true (samestrs_any _ _ AN (cutA AM cM 0 1) cN cM _ (hN.slOf hce_s).1 (Sl.cut (hM.slOf hce_s).1 (hM.slOf hce_s).2.2.1 0 _) (by omega)) (by rw [decide_eq_true_eq, List.drop_zero, List.drop_zero]; exact share_take l i)) ?_
      rintro _ u4 ⟨rfl, hc4⟩
      refine ⟨_, rfl, ?_⟩
      replace hX := hX.comp hc4
      replace hM := hM.ext hc4
      replace hN := hN.ext hc4
      refine s_look (look_and2 rfl rfl rfl rfl) ?_
      refine s_look (look_move rfl rfl) ?_
      refine s_want rfl rfl rfl (by simp only [List.drop_zero, Bool.and_true, Bool.and_eq_true, decide_eq_true_eq]; omega) ?_
      refine s_call (vs := []) enTry_14 trivial (awake_any _) ?_
      rintro _ u5 ⟨rfl, hc5⟩
      refine ⟨_, rfl, ?_⟩
      replace hX := hX.comp hc5
      replace hM := hM.ext hc5
      replace hN := hN.ext hc5
      refine s_look (look_and2 rfl rfl rfl rfl) ?_
      refine s_look (look_assign rfl rfl) ?_
      refine s_nil ?_
      refine then_normal ?_
      refine wp_ret ?_
      exact res1 Try.results9 rfl ⟨ret_bool (by simp only [List.drop_zero, Bool.and_true, Bool.and_eq_true, decide_eq_true_eq]; omega), hX⟩

end Go.Proofs.Ytobgfnlfbjodjaa
