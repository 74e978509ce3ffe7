/- The walks of chapter 44 (route), eighth part: up and down. -/
import Derived.Test.YthddekipelbooaaG
namespace Go.Proofs.Ythddekipelbooaa
open Go Go.RowKit Core
set_option linter.unusedVariables false
set_option linter.unusedSimpArgs false
attribute [local irreducible] wpQuiet wpList wpH wpT Code.wp Calls bodyPost act


def it0 : It := ⟨⟨0, 0, 0⟩, ⟨0, 0, 0⟩, 0⟩
def ltI (l : List It) (a b : Nat) : Bool := decide ((l.getD a it0).left < (l.getD b it0).left)
def swp (l : List It) (i j : Nat) : List It := (l.set i (l.getD j it0)).set j (l.getD i it0)
def upL : Nat → List It → Nat → List It
  | 0, l, _ => l
  | f + 1, l, j => if j = 0 then l else if ltI l j ((j - 1) / 2) = true then upL f (swp l ((j - 1) / 2) j) ((j - 1) / 2) else l
/-- The child that goes up. -/
def chI (l : List It) (i n : Nat) : Nat := if 2 * i + 2 < n ∧ ltI l (2 * i + 2) (2 * i + 1) = true then 2 * i + 2 else 2 * i + 1
def downL : Nat → List It → Nat → Nat → List It
  | 0, l, _, _ => l
  | f + 1, l, i, n => if n ≤ 2 * i + 1 then l else if ltI l (chI l i n) i = true then downL f (swp l i (chI l i n)) (chI l i n) n else l
theorem swp_len (l : List It) (i j : Nat) : (swp l i j).length = l.length := by simp [swp]
theorem swp_eq {l : List It} {i j : Nat} {x y : It} (hx : l[i]? = some x) (hy : l[j]? = some y) : (l.set i y).set j x = swp l i j := by unfold swp; rw [getD_of hx, getD_of hy]
theorem ltI_eq {l : List It} {i j : Nat} {x y : It} (hx : l[i]? = some x) (hy : l[j]? = some y) : ltI l i j = decide (x.left < y.left) := by unfold ltI; rw [getD_of hx, getD_of hy]
theorem tdiv_up (j : Nat) : IntKind.i64.wrap (((j : Int) - 1).tdiv 2) = (((j - 1) / 2 : Nat) : Int) ∨ ¬ j < 9000000000000000000 := by
  by_cases h : j < 9000000000000000000
  · left
    have e : ((j : Int) - 1).tdiv 2 = (((j - 1) / 2 : Nat) : Int) := by
      rcases Nat.eq_zero_or_pos j with h0 | h0
      · subst h0; rfl
      · rw [Int.tdiv_eq_ediv_of_nonneg (by omega)]; omega
    rw [e]; exact wrap_I64 (by unfold I64; omega)
  · exact .inr h
theorem up_step {f : Nat} {l : List It} {j : Nat} {x y : It} (hx : l[j]? = some x) (hy : l[(j - 1) / 2]? = some y) (hj : j ≤ f) (h0 : j ≠ 0) : upL f l j = if x.left < y.left then upL (f - 1) (swp l ((j - 1) / 2) j) ((j - 1) / 2) else l := by
  obtain ⟨k, rfl⟩ : ∃ k, f = k + 1 := ⟨f - 1, by omega⟩
  unfold upL
  rw [if_neg h0, ltI_eq hx hy, Nat.add_sub_cancel]
  by_cases h : x.left < y.left
  · rw [if_pos h, if_pos (decide_eq_true h)]
    cases k <;> rfl
  · rw [if_neg h, if_neg (by rw [decide_eq_false h]; decide)]
theorem up_zero (f : Nat) (l : List It) : upL f l 0 = l := by cases f <;> simp [upL]
theorem down_end {f : Nat} {l : List It} {i n : Nat} (h : n ≤ 2 * i + 1) : downL f l i n = l := by
  cases f with
  | zero => rfl
  | succ k => unfold downL; rw [if_pos h]
theorem down_step {f : Nat} {l : List It} {i j n : Nat} {x y : It} (hn : ¬ n ≤ 2 * i + 1) (hf : n ≤ f + i) (hj : chI l i n = j) (hx : l[j]? = some x) (hy : l[i]? = some y) : downL f l i n = if x.left < y.left then downL (f - 1) (swp l i j) j n else l := by
  obtain ⟨k, rfl⟩ : ∃ k, f = k + 1 := ⟨f - 1, by omega⟩
  show (if n ≤ 2 * i + 1 then l else if ltI l (chI l i n) i = true then downL k (swp l i (chI l i n)) (chI l i n) n else l) = _
  rw [if_neg hn, hj, ltI_eq hx hy, Nat.add_sub_cancel]
  by_cases h : x.left < y.left
  · rw [if_pos h, if_pos (decide_eq_true h)]
  · rw [if_neg h, if_neg (by rw [decide_eq_false h]; decide)]
/-- heap.Push, heap.Pop. -/
def pushH (l : List It) (x : It) : List It := upL l.length (l ++ [x]) l.length
def popM (l : List It) : List It := downL (l.length - 1) (swp l 0 (l.length - 1)) 0 (l.length - 1)
def popL (l : List It) : List It := (popM l).take (l.length - 1)
def popX (l : List It) : It := (popM l).getD (l.length - 1) it0
theorem upL_len : ∀ (f : Nat) (l : List It) (j : Nat), (upL f l j).length = l.length
  | 0, l, j => rfl
  | f + 1, l, j => by
    unfold upL
    split
    · rfl
    · split
      · rw [upL_len f, swp_len]
      · rfl
theorem downL_len : ∀ (f : Nat) (l : List It) (i n : Nat), (downL f l i n).length = l.length
  | 0, l, i, n => rfl
  | f + 1, l, i, n => by
    unfold downL
    split
    · rfl
    · split
      · rw [downL_len f, swp_len]
      · rfl
theorem popM_len (l : List It) : (popM l).length = l.length := by unfold popM; rw [downL_len, swp_len]
theorem popM_eq {l : List It} (h : 0 < l.length) : popM l = popL l ++ [popX l] := by
  unfold popL popX
  have h1 : l.length - 1 < (popM l).length := by rw [popM_len]; omega
  have h2 := List.take_succ_eq_append_getElem (l := popM l) h1
  rw [show l.length - 1 + 1 = (popM l).length by rw [popM_len]; omega, List.take_length] at h2
  rw [List.getD_eq_getElem?_getD, List.getElem?_eq_getElem h1]
  exact h2

theorem up_any (n0 q j0 : Nat) (l0 : List It) (w : World) (hQ : QS n0 w q l0) (hj0 : j0 < l0.length) (hl0 : l0.length ≤ 2000000) :
    Calls Try.prog 48 #[vH q, .int .i64 (j0 : Int)] w fun e w' => e = .returned (.tuple #[]) ∧ QM q w w' ∧ QS n0 w' q (upL j0 l0 j0) := by
  refine calls_act Try.func48 rfl Try.ntmps48 rfl rfl ?_
  show Code.wp _ _ _ (act 23 [(0, true, vH q), (1, true, .int .i64 (j0 : Int))] _) _
  have hX : QM q w w := QM.rfl' hQ.lt
  refine wp_block ?_
  refine loop_act (fun (ls : Nat × List It × Nat) => [(0, vH q), (1, .int .i64 (ls.1 : Int))]) (fun ls w' => (QM q w w') ∧ (QS n0 w' q ls.2.1) ∧ (ls.1 < ls.2.1.length) ∧ (ls.2.1.length ≤ 2000000) ∧ (ls.1 ≤ ls.2.2) ∧ (upL ls.2.2 ls.2.1 ls.1 = upL j0 l0 j0)) (fun ls => ls.1) ((j0, l0, j0)) ?_ ?_ ?_
  · exact ⟨rfl, rfl, trivial⟩
  · exact ⟨hX, hQ, hj0, hl0, Nat.le_refl _, rfl⟩
  · rintro ⟨j, l, f⟩ σ wr hF
    obtain ⟨hX, hQ, hj, hl, hjf, hU⟩ : (QM q w wr) ∧ (QS n0 wr q l) ∧ (j < l.length) ∧ (l.length ≤ 2000000) ∧ (j ≤ f) ∧ (upL f l j = upL j0 l0 j0) := hF
    show Code.wp _ _ _ (act 23 [(0, true, vH q), (1, true, .int .i64 (j : Int))] _) _
    refine wp_block ?_
    refine wp_seq ?_
    refine region_s ?_
    refine q_look (look_move rfl rfl) ?_
    refine q_look (look_sub rfl rfl rfl rfl (by unfold I64; omega)) ?_
    refine q_look (look_quot rfl rfl rfl rfl (by decide) ((tdiv_up j).resolve_right (fun h => h (by omega)))) ?_
    refine q_look (look_assign rfl rfl) ?_
    refine q_nil ?_
    rintro _ rfl
    refine then_normal ?_
    refine wp_seq ?_
    refine wp_seq ?_
    rcases Nat.eq_zero_or_pos j with h0 | h0
    · subst h0
      refine wp_region_lit ?_
      refine s_look (look_move rfl rfl) ?_
      refine s_look (look_move rfl rfl) ?_
      refine s_look (Look.as (look_eql rfl rfl rfl rfl) (v' := .bool true) (by rfl)) ?_
      refine s_look (look_move rfl rfl) ?_
      refine s_dead (v := .bool false) rfl rfl rfl rfl ?_
      refine s_dead (v := .bool false) rfl rfl rfl rfl ?_
      refine s_dead (v := .bool false) rfl rfl rfl rfl ?_
      refine s_dead (v := .bool false) rfl rfl rfl rfl ?_
      refine s_dead (v := .bool false) rfl rfl rfl rfl ?_
      refine s_look (look_or_t rfl rfl) ?_
      refine s_nil ?_
      refine then_normal ?_
      refine cond_true rfl rfl ?_
      refine wp_exit ?_
      refine then_exit ?_
      refine inB_exit_other rfl ?_
      refine then_exit ?_
      refine inB_exit_same ?_
      first | exact resE Try.results48 ⟨rfl, hX, by rw [← hU, up_zero]; exact hQ⟩ | exact resE Try.results48 ⟨rfl, hX, by rw [← hU, up_step hx hy hjf h0, if_neg hlt]; exact hQ⟩
    · replace h0 : j ≠ 0 := by omega
      obtain ⟨x, hx⟩ := get_lt hj
      obtain ⟨y, hy⟩ := get_lt (show (j - 1) / 2 < l.length by omega)
      refine wp_region_lit ?_
      refine s_look (look_move rfl rfl) ?_
      refine s_look (look_move rfl rfl) ?_
      refine s_look (Look.as (look_eql rfl rfl rfl rfl) (v' := .bool false) (by rw [decide_eq_false (show ¬ (((j - 1) / 2 : Nat) : Int) = (j : Int) by omega)])) ?_
      refine s_look (look_move rfl rfl) ?_
      refine s_want rfl rfl rfl rfl ?_
      refine s_look (look_move rfl rfl) ?_
      refine s_want rfl rfl rfl rfl ?_
      refine s_look (look_move rfl rfl) ?_
      refine s_want rfl rfl rfl rfl ?_
      refine s_look (look_move rfl rfl) ?_
      refine s_want rfl rfl rfl rfl ?_
      refine s_invokeQ (vs := [_, _]) rfl ⟨⟨_, rfl, rfl⟩, ⟨_, rfl, rfl⟩, trivial⟩ (lessQ hQ hx hy) ?_
      rintro _ u1 ⟨rfl, hc1⟩
      refine ⟨_, rfl, ?_⟩
      replace hX := hX.comp hc1
      replace hQ := hQ.ext hc1
      refine s_want rfl rfl rfl rfl ?_
      refine s_look (look_not rfl rfl) ?_
      refine s_look (look_or2 rfl rfl rfl rfl) ?_
      refine s_nil ?_
      refine then_normal ?_
      refine cond_split rfl (fun hc17 => ?_) (fun hc17 => ?_)
      · have hlt : ¬ x.left < y.left := by intro h; rw [decide_eq_true h] at hc17; cases hc17
        refine wp_exit ?_
        refine then_exit ?_
        refine inB_exit_other rfl ?_
        refine then_exit ?_
        refine inB_exit_same ?_
        first | exact resE Try.results48 ⟨rfl, hX, by rw [← hU, up_zero]; exact hQ⟩ | exact resE Try.results48 ⟨rfl, hX, by rw [← hU, up_step hx hy hjf h0, if_neg hlt]; exact hQ⟩
      · have hlt : x.left < y.left := of_decide_eq_true (nt_f hc17)
        refine wp_skip ?_
        refine then_normal ?_
        refine wp_seq ?_
        refine wp_region_lit ?_
        refine s_look (look_move rfl rfl) ?_
        refine s_look (look_move rfl rfl) ?_
        refine s_look (look_move rfl rfl) ?_
        refine s_invokeQ (vs := [_, _]) rfl ⟨⟨_, rfl, rfl⟩, ⟨_, rfl, rfl⟩, trivial⟩ (swapQ hQ hy hx) ?_
        rintro _ u2 ⟨rfl, hm2, hQ2⟩
        refine ⟨_, rfl, ?_⟩
        replace hX := hX.trans hm2
        clear hQ
        have hQ := hQ2
        rw [swp_eq hy hx] at hQ
        refine s_nil ?_
        refine then_normal ?_
        refine region_s ?_
        refine q_look (look_move rfl rfl) ?_
        refine q_look (look_assign rfl rfl) ?_
        refine q_nil ?_
        rintro _ rfl
        refine inB_normal ?_
        exact loop_end (((j - 1) / 2, swp l ((j - 1) / 2) j, f - 1)) (by simp only []; omega) ⟨rfl, rfl, trivial⟩ ⟨hX, hQ, by show (j - 1) / 2 < (swp l ((j - 1) / 2) j).length; rw [swp_len]; omega, by show (swp l ((j - 1) / 2) j).length ≤ 2000000; rw [swp_len]; exact hl, by show (j - 1) / 2 ≤ f - 1; omega, by show upL (f - 1) (swp l ((j - 1) / 2) j) ((j - 1) / 2) = _; rw [← hU, up_step hx hy hjf h0, if_pos hlt]⟩

theorem down_any (n0 q i0 n : Nat) (l0 : List It) (w : World) (hQ : QS n0 w q l0) (hi0 : i0 < l0.length) (hn0 : n ≤ l0.length) (hl0 : l0.length ≤ 2000000) :
    Calls Try.prog 49 #[vH q, .int .i64 (i0 : Int), .int .i64 (n : Int)] w fun e w' => ∃ b : Bool, e = .returned (.bool b) ∧ QM q w w' ∧ QS n0 w' q (downL n l0 i0 n) := by
  refine calls_act Try.func49 rfl Try.ntmps49 rfl rfl ?_
  show Code.wp _ _ _ (act 48 [(0, true, vH q), (1, true, .int .i64 (i0 : Int)), (2, true, .int .i64 (n : Int))] _) _
  have hX : QM q w w := QM.rfl' hQ.lt
  refine wp_seq ?_
  refine region_s ?_
  refine q_look (look_assign rfl rfl) ?_
  refine q_nil ?_
  rintro _ rfl
  refine then_normal ?_
  refine wp_seq ?_
  refine region_s ?_
  refine q_look (look_move rfl rfl) ?_
  refine q_look (look_assign rfl rfl) ?_
  refine q_nil ?_
  rintro _ rfl
  refine then_normal ?_
  refine wp_seq ?_
  refine wp_block ?_
  refine loop_act (fun (ls : Nat × List It × Nat) => [(0, vH q), (1, .int .i64 (i0 : Int)), (2, .int .i64 (n : Int)), (7, .int .i64 (ls.1 : Int))]) (fun ls w' => (QM q w w') ∧ (QS n0 w' q ls.2.1) ∧ (ls.1 < ls.2.1.length) ∧ (n ≤ ls.2.1.length) ∧ (ls.2.1.length ≤ 2000000) ∧ (n ≤ ls.2.2 + ls.1) ∧ (downL ls.2.2 ls.2.1 ls.1 n = downL n l0 i0 n)) (fun ls => n - ls.1) ((i0, l0, n)) ?_ ?_ ?_
  · exact ⟨rfl, rfl, rfl, rfl, trivial⟩
  · exact ⟨hX, hQ, hi0, hn0, hl0, (by show n ≤ n + i0; omega), rfl⟩
  · rintro ⟨i, l, f⟩ σ wr hF
    obtain ⟨hX, hQ, hi, hn, hl, hf, hD⟩ : (QM q w wr) ∧ (QS n0 wr q l) ∧ (i < l.length) ∧ (n ≤ l.length) ∧ (l.length ≤ 2000000) ∧ (n ≤ f + i) ∧ (downL f l i n = downL n l0 i0 n) := hF
    show Code.wp _ _ _ (act 48 [(0, true, vH q), (1, true, .int .i64 (i0 : Int)), (2, true, .int .i64 (n : Int)), (7, true, .int .i64 (i : Int))] _) _
    refine wp_block ?_
    refine wp_seq ?_
    refine region_s ?_
    refine q_look (look_move rfl rfl) ?_
    refine q_look (look_mul rfl rfl rfl rfl (by unfold I64; omega)) ?_
    refine q_look (look_add rfl rfl rfl rfl (by unfold I64; omega)) ?_
    refine q_look (look_assign rfl rfl) ?_
    refine q_nil ?_
    rintro _ rfl
    refine then_normal ?_
    refine wp_seq ?_
    refine wp_seq ?_
    refine region_s ?_
    refine q_look (look_move rfl rfl) ?_
    refine q_look (look_move rfl rfl) ?_
    refine q_look (look_geq rfl rfl rfl rfl) ?_
    refine q_look (look_move rfl rfl) ?_
    refine q_lookg rfl rfl rfl (fun hq => look_move rfl rfl) ?_
    refine q_lookg rfl rfl rfl (fun hq => look_lss rfl hq rfl rfl) ?_
    refine q_look (look_or rfl rfl rfl rfl) ?_
    refine q_nil ?_
    rintro _ rfl
    refine then_normal ?_
    refine cond_split rfl (fun hc21 => ?_) (fun hc21 => ?_)
    · have hn1 : n ≤ 2 * i + 1 := by simp [gq] at hc21; omega
      refine wp_exit ?_
      refine then_exit ?_
      refine inB_exit_other rfl ?_
      refine then_exit ?_
      refine inB_exit_same ?_
      refine then_normal ?_
      refine wp_seq ?_
      refine region_s ?_
      refine q_look (look_move rfl rfl) ?_
      refine q_look (look_move rfl rfl) ?_
      refine q_look (look_gtr rfl rfl rfl rfl) ?_
      refine q_look (look_assign rfl rfl) ?_
      refine q_nil ?_
      rintro _ rfl
      refine then_normal ?_
      refine wp_ret ?_
      first | exact res1 Try.results49 rfl ⟨_, rfl, hX, by rw [← hD, down_end hn1]; exact hQ⟩ | exact res1 Try.results49 rfl ⟨_, rfl, hX, by rw [← hD, down_step hn1 hf hch hx hy, if_neg hlt]; exact hQ⟩
    · have hn1 : ¬ n ≤ 2 * i + 1 := by have h2 := of_decide_eq_false (or_f hc21).1; omega
      obtain ⟨y, hy⟩ := get_lt hi
      obtain ⟨x1, hx1⟩ := get_lt (show 2 * i + 1 < l.length by omega)
      rw [show 2 * (i : Int) + 1 = ((2 * i + 1 : Nat) : Int) by omega]
      refine wp_skip ?_
      refine then_normal ?_
      refine wp_seq ?_
      refine region_s ?_
      refine q_look (look_move rfl rfl) ?_
      refine q_look (look_assign rfl rfl) ?_
      refine q_nil ?_
      rintro _ rfl
      refine then_normal ?_
      refine wp_seq ?_
      refine wp_seq ?_
      refine region_s ?_
      refine q_look (look_move rfl rfl) ?_
      refine q_look (look_add rfl rfl rfl rfl (by unfold I64; omega)) ?_
      refine q_look (look_assign rfl rfl) ?_
      refine q_nil ?_
      rintro _ rfl
      rw [show ((2 * i + 1 : Nat) : Int) + 1 = ((2 * i + 2 : Nat) : Int) by omega]
      refine then_normal ?_
      refine wp_seq ?_
      rcases Nat.lt_or_ge (2 * i + 2) n with h2 | h2
      · obtain ⟨x2, hx2⟩ := get_lt (show 2 * i + 2 < l.length by omega)
        refine wp_region_lit ?_
        refine s_look (look_move rfl rfl) ?_
        refine s_look (look_move rfl rfl) ?_
        refine s_look (Look.as (look_lss rfl rfl rfl rfl) (v' := .bool true) (by rw [decide_eq_true (show ((2 * i + 2 : Nat) : Int) < (n : Int) by omega)])) ?_
        refine s_look (look_move rfl rfl) ?_
        refine s_want rfl rfl rfl rfl ?_
        refine s_look (look_move rfl rfl) ?_
        refine s_want rfl rfl rfl rfl ?_
        refine s_look (look_move rfl rfl) ?_
        refine s_want rfl rfl rfl rfl ?_
        refine s_look (look_move rfl rfl) ?_
        refine s_want rfl rfl rfl rfl ?_
        refine s_invokeQ (vs := [_, _]) rfl ⟨⟨_, rfl, rfl⟩, ⟨_, rfl, rfl⟩, trivial⟩ (lessQ hQ hx2 hx1) ?_
        rintro _ u1 ⟨rfl, hc1⟩
        refine ⟨_, rfl, ?_⟩
        replace hX := hX.comp hc1
        replace hQ := hQ.ext hc1
        refine s_look (look_and2 rfl rfl rfl rfl) ?_
        refine s_nil ?_
        refine then_normal ?_
        refine cond_split rfl (fun hc33 => ?_) (fun hc33 => ?_)
        · have hl2 : x2.left < x1.left := by simpa using hc33
          obtain ⟨j, hj⟩ : ∃ j, j = 2 * i + 2 := ⟨_, rfl⟩
          obtain ⟨x, hx⟩ : ∃ x, l[j]? = some x := ⟨x2, by rw [hj]; exact hx2⟩
          have hch : chI l i n = j := by unfold chI; rw [if_pos ⟨h2, by rw [ltI_eq hx2 hx1]; exact decide_eq_true hl2⟩, hj]
          rw [← hj]
          refine region_s ?_
          refine q_look (look_move rfl rfl) ?_
          refine q_look (look_assign rfl rfl) ?_
          refine q_nil ?_
          rintro _ rfl
          refine then_normal ?_
          refine wp_seq ?_
          refine wp_seq ?_
          refine wp_region_lit ?_
          refine s_look (look_move rfl rfl) ?_
          refine s_look (look_move rfl rfl) ?_
          refine s_look (look_move rfl rfl) ?_
          refine s_invokeQ (vs := [_, _]) rfl ⟨⟨_, rfl, rfl⟩, ⟨_, rfl, rfl⟩, trivial⟩ (lessQ hQ hx hy) ?_
          rintro _ u2 ⟨rfl, hc2⟩
          refine ⟨_, rfl, ?_⟩
          replace hX := hX.comp hc2
          replace hQ := hQ.ext hc2
          refine s_look (look_not rfl rfl) ?_
          refine s_nil ?_
          refine then_normal ?_
          refine cond_split rfl (fun hc39 => ?_) (fun hc39 => ?_)
          · have hlt : ¬ x.left < y.left := by intro h; rw [decide_eq_true h] at hc39; cases hc39
            refine wp_exit ?_
            refine then_exit ?_
            refine inB_exit_other rfl ?_
            refine then_exit ?_
            refine inB_exit_same ?_
            refine then_normal ?_
            refine wp_seq ?_
            refine region_s ?_
            refine q_look (look_move rfl rfl) ?_
            refine q_look (look_move rfl rfl) ?_
            refine q_look (look_gtr rfl rfl rfl rfl) ?_
            refine q_look (look_assign rfl rfl) ?_
            refine q_nil ?_
            rintro _ rfl
            refine then_normal ?_
            refine wp_ret ?_
            first | exact res1 Try.results49 rfl ⟨_, rfl, hX, by rw [← hD, down_end hn1]; exact hQ⟩ | exact res1 Try.results49 rfl ⟨_, rfl, hX, by rw [← hD, down_step hn1 hf hch hx hy, if_neg hlt]; exact hQ⟩
          · have hlt : x.left < y.left := of_decide_eq_true (nt_f hc39)
            refine wp_skip ?_
            refine then_normal ?_
            refine wp_seq ?_
            refine wp_region_lit ?_
            refine s_look (look_move rfl rfl) ?_
            refine s_look (look_move rfl rfl) ?_
            refine s_look (look_move rfl rfl) ?_
            refine s_invokeQ (vs := [_, _]) rfl ⟨⟨_, rfl, rfl⟩, ⟨_, rfl, rfl⟩, trivial⟩ (swapQ hQ hy hx) ?_
            rintro _ u3 ⟨rfl, hm3, hQ3⟩
            refine ⟨_, rfl, ?_⟩
            replace hX := hX.trans hm3
            clear hQ
            have hQ := hQ3
            rw [swp_eq hy hx] at hQ
            refine s_nil ?_
            refine then_normal ?_
            refine region_s ?_
            refine q_look (look_move rfl rfl) ?_
            refine q_look (look_assign rfl rfl) ?_
            refine q_nil ?_
            rintro _ rfl
            refine inB_normal ?_
            exact loop_end ((j, swp l i j, f - 1)) (by simp only []; omega) ⟨rfl, rfl, rfl, rfl, trivial⟩ ⟨hX, hQ, by show j < (swp l i j).length; rw [swp_len]; omega, by show n ≤ (swp l i j).length; rw [swp_len]; exact hn, by show (swp l i j).length ≤ 2000000; rw [swp_len]; exact hl, (by show n ≤ (f - 1) + j; omega), by show downL (f - 1) (swp l i j) j n = _; rw [← hD, down_step hn1 hf hch hx hy, if_pos hlt]⟩
        · have hl2 : ¬ x2.left < x1.left := by simpa using hc33
          obtain ⟨j, hj⟩ : ∃ j, j = 2 * i + 1 := ⟨_, rfl⟩
          obtain ⟨x, hx⟩ : ∃ x, l[j]? = some x := ⟨x1, by rw [hj]; exact hx1⟩
          have hch : chI l i n = j := by unfold chI; rw [if_neg (fun h => by rw [ltI_eq hx2 hx1] at h; exact hl2 (of_decide_eq_true h.2)), hj]
          rw [← hj]
          refine wp_skip ?_
          refine then_normal ?_
          refine wp_seq ?_
          refine wp_seq ?_
          refine wp_region_lit ?_
          refine s_look (look_move rfl rfl) ?_
          refine s_look (look_move rfl rfl) ?_
          refine s_look (look_move rfl rfl) ?_
          refine s_invokeQ (vs := [_, _]) rfl ⟨⟨_, rfl, rfl⟩, ⟨_, rfl, rfl⟩, trivial⟩ (lessQ hQ hx hy) ?_
          rintro _ u4 ⟨rfl, hc4⟩
          refine ⟨_, rfl, ?_⟩
          replace hX := hX.comp hc4
          replace hQ := hQ.ext hc4
          refine s_look (look_not rfl rfl) ?_
          refine s_nil ?_
          refine then_normal ?_
          refine cond_split rfl (fun hc39 => ?_) (fun hc39 => ?_)
          · have hlt : ¬ x.left < y.left := by intro h; rw [decide_eq_true h] at hc39; cases hc39
            refine wp_exit ?_
            refine then_exit ?_
            refine inB_exit_other rfl ?_
            refine then_exit ?_
            refine inB_exit_same ?_
            refine then_normal ?_
            refine wp_seq ?_
            refine region_s ?_
            refine q_look (look_move rfl rfl) ?_
            refine q_look (look_move rfl rfl) ?_
            refine q_look (look_gtr rfl rfl rfl rfl) ?_
            refine q_look (look_assign rfl rfl) ?_
            refine q_nil ?_
            rintro _ rfl
            refine then_normal ?_
            refine wp_ret ?_
            first | exact res1 Try.results49 rfl ⟨_, rfl, hX, by rw [← hD, down_end hn1]; exact hQ⟩ | exact res1 Try.results49 rfl ⟨_, rfl, hX, by rw [← hD, down_step hn1 hf hch hx hy, if_neg hlt]; exact hQ⟩
          · have hlt : x.left < y.left := of_decide_eq_true (nt_f hc39)
            refine wp_skip ?_
            refine then_normal ?_
            refine wp_seq ?_
            refine wp_region_lit ?_
            refine s_look (look_move rfl rfl) ?_
            refine s_look (look_move rfl rfl) ?_
            refine s_look (look_move rfl rfl) ?_
            refine s_invokeQ (vs := [_, _]) rfl ⟨⟨_, rfl, rfl⟩, ⟨_, rfl, rfl⟩, trivial⟩ (swapQ hQ hy hx) ?_
            rintro _ u5 ⟨rfl, hm5, hQ5⟩
            refine ⟨_, rfl, ?_⟩
            replace hX := hX.trans hm5
            clear hQ
            have hQ := hQ5
            rw [swp_eq hy hx] at hQ
            refine s_nil ?_
            refine then_normal ?_
            refine region_s ?_
            refine q_look (look_move rfl rfl) ?_
            refine q_look (look_assign rfl rfl) ?_
            refine q_nil ?_
            rintro _ rfl
            refine inB_normal ?_
            exact loop_end ((j, swp l i j, f - 1)) (by simp only []; omega) ⟨rfl, rfl, rfl, rfl, trivial⟩ ⟨hX, hQ, by show j < (swp l i j).length; rw [swp_len]; omega, by show n ≤ (swp l i j).length; rw [swp_len]; exact hn, by show (swp l i j).length ≤ 2000000; rw [swp_len]; exact hl, (by show n ≤ (f - 1) + j; omega), by show downL (f - 1) (swp l i j) j n = _; rw [← hD, down_step hn1 hf hch hx hy, if_pos hlt]⟩
      · obtain ⟨j, hj⟩ : ∃ j, j = 2 * i + 1 := ⟨_, rfl⟩
        obtain ⟨x, hx⟩ : ∃ x, l[j]? = some x := ⟨x1, by rw [hj]; exact hx1⟩
        have hch : chI l i n = j := by unfold chI; rw [if_neg (fun h => by omega), hj]
        rw [← hj]
        refine wp_region_lit ?_
        refine s_look (look_move rfl rfl) ?_
        refine s_look (look_move rfl rfl) ?_
        refine s_look (Look.as (look_lss rfl rfl rfl rfl) (v' := .bool false) (by rw [decide_eq_false (show ¬ ((2 * i + 2 : Nat) : Int) < (n : Int) by omega)])) ?_
        refine s_look (look_move rfl rfl) ?_
        refine s_dead (v := .bool false) rfl rfl rfl rfl ?_
        refine s_dead (v := .bool false) rfl rfl rfl rfl ?_
        refine s_dead (v := .bool false) rfl rfl rfl rfl ?_
        refine s_dead (v := .bool false) rfl rfl rfl rfl ?_
        refine s_look (look_and_f rfl rfl) ?_
        refine s_nil ?_
        refine then_normal ?_
        refine cond_false rfl rfl ?_
        refine wp_skip ?_
        refine then_normal ?_
        refine wp_seq ?_
        refine wp_seq ?_
        refine wp_region_lit ?_
        refine s_look (look_move rfl rfl) ?_
        refine s_look (look_move rfl rfl) ?_
        refine s_look (look_move rfl rfl) ?_
        refine s_invokeQ (vs := [_, _]) rfl ⟨⟨_, rfl, rfl⟩, ⟨_, rfl, rfl⟩, trivial⟩ (lessQ hQ hx hy) ?_
        rintro _ u6 ⟨rfl, hc6⟩
        refine ⟨_, rfl, ?_⟩
        replace hX := hX.comp hc6
        replace hQ := hQ.ext hc6
        refine s_look (look_not rfl rfl) ?_
        refine s_nil ?_
        refine then_normal ?_
        refine cond_split rfl (fun hc39 => ?_) (fun hc39 => ?_)
        · have hlt : ¬ x.left < y.left := by intro h; rw [decide_eq_true h] at hc39; cases hc39
          refine wp_exit ?_
          refine then_exit ?_
          refine inB_exit_other rfl ?_
          refine then_exit ?_
          refine inB_exit_same ?_
          refine then_normal ?_
          refine wp_seq ?_
          refine region_s ?_
          refine q_look (look_move rfl rfl) ?_
          refine q_look (look_move rfl rfl) ?_
          refine q_look (look_gtr rfl rfl rfl rfl) ?_
          refine q_look (look_assign rfl rfl) ?_
          refine q_nil ?_
          rintro _ rfl
          refine then_normal ?_
          refine wp_ret ?_
          first | exact res1 Try.results49 rfl ⟨_, rfl, hX, by rw [← hD, down_end hn1]; exact hQ⟩ | exact res1 Try.results49 rfl ⟨_, rfl, hX, by rw [← hD, down_step hn1 hf hch hx hy, if_neg hlt]; exact hQ⟩
        · have hlt : x.left < y.left := of_decide_eq_true (nt_f hc39)
          refine wp_skip ?_
          refine then_normal ?_
          refine wp_seq ?_
          refine wp_region_lit ?_
          refine s_look (look_move rfl rfl) ?_
          refine s_look (look_move rfl rfl) ?_
          refine s_look (look_move rfl rfl) ?_
          refine s_invokeQ (vs := [_, _]) rfl ⟨⟨_, rfl, rfl⟩, ⟨_, rfl, rfl⟩, trivial⟩ (swapQ hQ hy hx) ?_
          rintro _ u7 ⟨rfl, hm7, hQ7⟩
          refine ⟨_, rfl, ?_⟩
          replace hX := hX.trans hm7
          clear hQ
          have hQ := hQ7
          rw [swp_eq hy hx] at hQ
          refine s_nil ?_
          refine then_normal ?_
          refine region_s ?_
          refine q_look (look_move rfl rfl) ?_
          refine q_look (look_assign rfl rfl) ?_
          refine q_nil ?_
          rintro _ rfl
          refine inB_normal ?_
          exact loop_end ((j, swp l i j, f - 1)) (by simp only []; omega) ⟨rfl, rfl, rfl, rfl, trivial⟩ ⟨hX, hQ, by show j < (swp l i j).length; rw [swp_len]; omega, by show n ≤ (swp l i j).length; rw [swp_len]; exact hn, by show (swp l i j).length ≤ 2000000; rw [swp_len]; exact hl, (by show n ≤ (f - 1) + j; omega), by show downL (f - 1) (swp l i j) j n = _; rw [← hD, down_step hn1 hf hch hx hy, if_pos hlt]⟩

end Go.Proofs.Ythddekipelbooaa
