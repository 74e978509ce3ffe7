/- The walks of chapter 05 (cbor): the laws on numbers, cuts and strings. -/
import Derived.Test.YtcneinajeapbhaaH
namespace Go.Proofs.Ytcneinajeapbhaa
open Go Go.RowKit Core
set_option linter.unusedVariables false
set_option linter.unusedSimpArgs false
attribute [local irreducible] wpQuiet wpList wpH wpT Code.wp Calls bodyPost act


theorem list_len (n : Int) : (listP n).length ≤ 9 := by
  unfold listP
  split
  · simp
  · exact (head_len _ _).2

theorem law_numbers (l : List Int) (A : Option Addr) (cap : Nat) (more : List UInt8) (w : World) (hA : Sl icell 1 w A l) (hI : ∀ x ∈ l, I64 x) (hla : l.length ≤ maxLen) (hmo : more.length ≤ maxLen) :
    Calls Try.prog 4 #[.slice A l.length cap, .string (ofL more)] w fun e w' => e = .returned (.bool (true)) ∧ Ext w w' := by
  refine calls_act Try.func4 rfl Try.ntmps4 rfl rfl ?_
  show Code.wp _ _ _ (act 94 [(0, true, .slice A l.length cap), (1, true, .string (ofL more))] _) _
  have hX : Ext w w := Ext.rfl' w
  refine wp_seq ?_
  refine region_s ?_
  refine q_look (look_assign rfl rfl) ?_
  refine q_nil ?_
  rintro _ rfl
  refine then_normal ?_
  refine wp_seq ?_
  refine wp_seq ?_
  refine region_s ?_
  refine q_look (look_move rfl rfl) ?_
  refine q_look (look_len_slice Try.underlying27 rfl rfl) ?_
  refine q_look (look_gtr rfl rfl rfl rfl) ?_
  refine q_look (look_move rfl rfl) ?_
  refine q_lookg rfl rfl rfl (fun hq => look_move rfl rfl) ?_
  refine q_lookg rfl rfl rfl (fun hq => Look.as (look_len_string Try.underlying9 rfl hq) (by rw [ofL_size]) (v' := .int .i64 (more.length : Int))) ?_
  refine q_lookg rfl rfl rfl (fun hq => look_gtr rfl hq rfl rfl) ?_
  refine q_look (look_or rfl rfl rfl rfl) ?_
  refine q_nil ?_
  rintro _ rfl
  refine then_normal ?_
  refine cond_split rfl (fun hc16 => ?_) (fun hc16 => ?_)
  · simp only [Bool.and_eq_true, Bool.or_eq_true, Bool.not_eq_true', decide_eq_true_eq, decide_eq_false_iff_not] at hc16
    refine wp_seq ?_
    refine region_q ?_
    refine q_call (vs := []) enTry_11 trivial (fun wc hw => cext hw (awake_any wc)) ?_
    refine q_look (look_assign rfl rfl) ?_
    refine q_nil ?_
    intro w1 hw1
    replace hX := hX.comp hw1
    refine then_normal ?_
    refine wp_ret ?_
    refine then_ret ?_
    exact res1 Try.results4 rfl ⟨rfl, hX⟩
  · have hlen : l.length ≤ 100 ∧ more.length ≤ 100 := by rw [Bool.or_eq_false_iff] at hc16; have := nn_f hc16.1; have := nn_f hc16.2; omega
    refine wp_skip ?_
    refine then_normal ?_
    refine wp_seq ?_
    refine region_q ?_
    refine q_look (look_move rfl rfl) ?_
    refine q_look (look_len_slice Try.underlying27 rfl rfl) ?_
    refine q_call (vs := [_]) enTry_18 ⟨⟨_, rfl, rfl⟩, trivial⟩ (fun wc hw => cext hw (list_any (l.length : Int) wc (by unfold I64; omega))) ?_
    refine q_look (look_assign rfl rfl) ?_
    refine q_nil ?_
    intro w2 hw2
    replace hX := hX.comp hw2
    refine then_normal ?_
    refine wp_seq ?_
    refine wp_seq ?_
    refine region_s ?_
    refine q_look (look_assign rfl rfl) ?_
    refine q_nil ?_
    rintro _ rfl
    refine then_normal ?_
    refine wp_block ?_
    refine loop_act (fun (i : Nat) => [(1, .string (ofL more)), (0, .slice A l.length cap), (5, .string (ofL (listP (l.length : Int) ++ (l.take i).flatMap intP))), (6, .int .i64 (i : Int))]) (fun i w' => (Ext w w') ∧ (i ≤ l.length)) (fun i => l.length - i) (0) ?_ ?_ ?_
    · exact ⟨rfl, rfl, (congrArg (fun t => some (true, Value.string (ofL t))) (show listP (l.length : Int) = listP (l.length : Int) ++ (l.take 0).flatMap intP by simp)), rfl, trivial⟩
    · exact ⟨hX, Nat.zero_le _⟩
    · rintro i σ wr hF
      obtain ⟨hX, hi⟩ : (Ext w wr) ∧ (i ≤ l.length) := hF
      show Code.wp _ _ _ (act 94 [(1, true, .string (ofL more)), (0, true, .slice A l.length cap), (5, true, .string (ofL (listP (l.length : Int) ++ (l.take i).flatMap intP))), (6, true, .int .i64 (i : Int))] _) _
      refine wp_seq ?_
      refine wp_seq ?_
      refine region_s ?_
      refine q_look (look_move rfl rfl) ?_
      refine q_look (look_move rfl rfl) ?_
      refine q_look (look_len_slice Try.underlying27 rfl rfl) ?_
      refine q_look (look_lss rfl rfl rfl rfl) ?_
      refine q_nil ?_
      rintro _ rfl
      refine then_normal ?_
      refine cond_split rfl (fun hc24 => ?_) (fun hc24 => ?_)
      · have hlt : i < l.length := by have := nn_t hc24; omega
        obtain ⟨x, hx⟩ := get_lt hlt
        obtain ⟨b1, o1, rfl, h1⟩ := (hA.ext hX).at_ hlt
        have hxI := hI x (mem_get hx)
        have hfl := flat_len intP 9 (l.take i) (fun y _ => (int_len y).2)
        rw [List.length_take] at hfl
        have hll := list_len (l.length : Int)
        have hxl := (int_len x).2
        refine wp_skip ?_
        refine then_normal ?_
        refine wp_seq ?_
        refine wp_block ?_
        refine region_q ?_
        refine q_look (look_move rfl rfl) ?_
        refine q_look (look_move rfl rfl) ?_
        refine q_look (look_move rfl rfl) ?_
        refine q_look (look_indexAddr _ Try.underlying27 szTry_3 rfl rfl rfl rfl rfl (by omega)) ?_
        refine q_look (look_load1 Try.underlying3 rfl rfl rfl (ext_cell ((h1 i x hx) 0 _ rfl))) ?_
        refine q_call (vs := [_]) enTry_12 ⟨⟨_, rfl, rfl⟩, trivial⟩ (fun wc hw => cext hw (int_any x wc hxI)) ?_
        refine q_look (look_concat rfl rfl rfl rfl (by rw [List.length_append]; omega)) ?_
        refine q_look (look_assign rfl rfl) ?_
        refine q_nil ?_
        intro w3 hw3
        replace hX := hX.comp hw3
        refine inB_normal ?_
        refine then_normal ?_
        refine region_s ?_
        refine q_look (look_move rfl rfl) ?_
        refine q_look (look_add rfl rfl rfl rfl (by have := maxLen_is; unfold I64; omega)) ?_
        refine q_look (look_assign rfl rfl) ?_
        refine q_nil ?_
        rintro _ rfl
        exact loop_end (i + 1) (by omega) ⟨rfl, rfl, (congrArg (fun t => some (true, Value.string (ofL t))) (show (listP (l.length : Int) ++ (l.take i).flatMap intP) ++ intP x = listP (l.length : Int) ++ (l.take (i + 1)).flatMap intP by rw [flat_take intP hx, List.append_assoc])), rfl, trivial⟩ ⟨hX, by omega⟩
      · obtain rfl : i = l.length := by have := nn_f hc24; omega
        rw [List.take_length]
        obtain ⟨F, hF⟩ : ∃ F, F = l.flatMap intP := ⟨_, rfl⟩
        obtain ⟨E, hE⟩ : ∃ E, E = listP (l.length : Int) ++ F := ⟨_, rfl⟩
        have hfl := flat_len intP 9 l (fun y _ => (int_len y).2)
        rw [← hF] at hfl
        have hll := list_len (l.length : Int)
        have hhl := head_len 4 (l.length : Int)
        rw [← listP_eq] at hhl
        have hEl : 1 ≤ E.length ∧ E.length ≤ 2000 := by rw [hE, List.length_append]; omega
        rw [← hF, ← hE]
        refine wp_exit ?_
        refine then_exit ?_
        refine then_exit ?_
        refine inB_exit_same ?_
        refine then_normal ?_
        refine wp_seq ?_
        refine wp_seq ?_
        refine region_s ?_
        refine q_look (look_move rfl rfl) ?_
        refine q_look (Look.as (look_len_string Try.underlying9 rfl rfl) (by rw [ofL_size]) (v' := .int .i64 (E.length : Int))) ?_
        refine q_look (look_gtr rfl rfl rfl rfl) ?_
        refine q_nil ?_
        rintro _ rfl
        refine then_normal ?_
        refine cond_false rfl (decide_eq_false (by omega)) ?_
        refine wp_skip ?_
        refine then_normal ?_
        refine wp_seq ?_
        refine wp_region_lit ?_
        refine s_look (look_move rfl rfl) ?_
        refine s_look (look_move rfl rfl) ?_
        refine s_look (look_concat rfl rfl rfl rfl (by omega)) ?_
        refine s_call (vs := [_]) enTry_20 ⟨⟨_, rfl, rfl⟩, trivial⟩ (new_any (E ++ more) _) ?_
        rintro _ u1 ⟨g1, rfl, hu1, hB1, hg1⟩
        refine ⟨_, rfl, ?_⟩
        have ge_g1 : w.heap.size ≤ g1 := by have := hX.size; omega
        replace hX := hX.comp hu1
        refine s_look (look_assign rfl rfl) ?_
        refine s_nil ?_
        refine then_normal ?_
        refine wp_seq ?_
        refine wp_seq ?_
        have hEm : E ++ more = headP 4 (l.length : Int) ++ (F ++ more) := by rw [hE, listP_eq, List.append_assoc]
        have hc : countR (E ++ more) 0 4 (l.length : Int) false = ((l.length : Int), (headP 4 (l.length : Int)).length, 0) := by rw [hEm]; exact count_head (by omega) (by unfold U64; omega) (Int.le_refl _) _ (fun h => by cases h)
        have hd : (E ++ more).drop (headP 4 (l.length : Int)).length = F ++ more := by rw [hEm, List.drop_left]
        refine wp_region_lit ?_
        refine s_look (look_move rfl rfl) ?_
        refine s_look (look_eql_nil Try.underlying28 rfl rfl rfl rfl) ?_
        refine s_look (look_move rfl rfl) ?_
        refine s_want rfl rfl rfl rfl ?_
        refine s_look (look_move rfl rfl) ?_
        refine s_want rfl rfl rfl rfl ?_
        refine s_look (look_move rfl rfl) ?_
        refine s_want rfl rfl rfl rfl ?_
        refine s_look (look_len_slice Try.underlying27 rfl rfl) ?_
        refine s_want rfl rfl rfl rfl ?_
        refine s_call (vs := [_, _]) enTry_21 ⟨⟨_, rfl, rfl⟩, ⟨_, rfl, rfl⟩, trivial⟩ ((by have := list_reads g1 (E ++ more) 0 (l.length : Int) _ hB1 (by rw [List.length_append]; omega) (by unfold I64; omega); rw [hc] at this; simp only [hd] at this; exact this)) ?_
        rintro _ u2 ⟨rfl, hm2, hT2⟩
        refine ⟨_, rfl, ?_⟩
        replace hX := hX.mut hm2 (by omega)
        clear hB1
        have hB1 := hT2
        refine s_want rfl rfl rfl rfl ?_
        refine s_look (look_move rfl rfl) ?_
        refine s_want rfl rfl rfl rfl ?_
        refine s_look (look_len_slice Try.underlying27 rfl rfl) ?_
        refine s_want rfl rfl rfl rfl ?_
        refine s_look (look_neq rfl rfl rfl rfl) ?_
        refine s_look (look_or2 rfl rfl rfl rfl) ?_
        refine s_nil ?_
        refine then_normal ?_
        refine cond_false rfl (by simp) ?_
        refine wp_skip ?_
        refine then_normal ?_
        refine wp_seq ?_
        refine wp_seq ?_
        refine region_s ?_
        refine q_look (look_assign rfl rfl) ?_
        refine q_nil ?_
        rintro _ rfl
        refine then_normal ?_
        refine wp_block ?_
        refine loop_act (fun (j : Nat) => [(0, .slice A l.length cap), (1, .string (ofL more)), (7, .pointer (some ⟨g1, 0, none⟩)), (8, .int .i64 (j : Int))]) (fun j w' => (Ext w w') ∧ (Blk w' g1 57 (rcell ((l.drop j).flatMap intP ++ more) 0)) ∧ (j ≤ l.length)) (fun j => l.length - j) (0) ?_ ?_ ?_
        · exact ⟨rfl, rfl, rfl, rfl, trivial⟩
        · exact ⟨hX, by rw [hF] at hB1; exact hB1, Nat.zero_le _⟩
        · rintro j σ wr hF
          obtain ⟨hX, hB1, hj⟩ : (Ext w wr) ∧ (Blk wr g1 57 (rcell ((l.drop j).flatMap intP ++ more) 0)) ∧ (j ≤ l.length) := hF
          show Code.wp _ _ _ (act 94 [(0, true, .slice A l.length cap), (1, true, .string (ofL more)), (7, true, .pointer (some ⟨g1, 0, none⟩)), (8, true, .int .i64 (j : Int))] _) _
          refine wp_seq ?_
          refine wp_seq ?_
          refine region_s ?_
          refine q_look (look_move rfl rfl) ?_
          refine q_look (look_move rfl rfl) ?_
          refine q_look (look_len_slice Try.underlying27 rfl rfl) ?_
          refine q_look (look_lss rfl rfl rfl rfl) ?_
          refine q_nil ?_
          rintro _ rfl
          refine then_normal ?_
          refine cond_split rfl (fun hc55 => ?_) (fun hc55 => ?_)
          · have hlt : j < l.length := by have := nn_t hc55; omega
            obtain ⟨y, hy⟩ := get_lt hlt
            obtain ⟨b1, o1, rfl, h1⟩ := (hA.ext hX).at_ hlt
            have hyI := hI y (mem_get hy)
            have hfl2 := flat_len intP 9 (l.drop (j + 1)) (fun y _ => (int_len y).2)
            rw [List.length_drop] at hfl2
            have hyl := (int_len y).2
            rw [flat_drop intP hy, List.append_assoc] at hB1
            obtain ⟨G, hG⟩ : ∃ G, G = (l.drop (j + 1)).flatMap intP ++ more := ⟨_, rfl⟩
            have hGl : G.length ≤ 10000 := by rw [hG, List.length_append]; omega
            rw [← hG] at hB1
            have hr := int_head hyI (Int.le_refl y) (Int.le_refl y) G
            have hrd : (intP y ++ G).drop (intP y).length = G := List.drop_left
            refine wp_skip ?_
            refine then_normal ?_
            refine wp_seq ?_
            refine wp_block ?_
            refine wp_seq ?_
            refine region_h (fun W => Ext w W) [(0, true), (1, true), (2, true), (3, true), (4, true), (5, true), (6, true), (7, true), (8, true), (10, true), (11, true), (12, true), (13, true), (9, false), (14, true)] mixed (by kernel_rfl) rfl (by kernel_rfl) (by repeat (first | exact pk_body | refine pk_then ?_ | refine pk_block ?_)) ?_
            intro u3 hR3
            replace hX := hX.comp hR3
            replace hB1 := hB1.ext hR3
            refine ⟨hX, ?_⟩
            refine h_look rfl (look_move rfl rfl) ?_
            refine h_look rfl (look_move rfl rfl) ?_
            refine h_look rfl (look_move rfl rfl) ?_
            refine h_look rfl (look_indexAddr _ Try.underlying27 szTry_3 rfl rfl rfl rfl rfl (by omega)) ?_
            refine h_look rfl (look_load1 Try.underlying3 rfl rfl rfl (fun w' hS => ((hA.ext hS).rd j y hy) 0 _ rfl)) ?_
            refine h_look rfl (look_move rfl rfl) ?_
            refine h_look rfl (look_move rfl rfl) ?_
            refine h_look rfl (look_indexAddr _ Try.underlying27 szTry_3 rfl rfl rfl rfl rfl (by omega)) ?_
            refine h_look rfl (look_load1 Try.underlying3 rfl rfl rfl (fun w' hS => ((hA.ext hS).rd j y hy) 0 _ rfl)) ?_
            refine h_look rfl (look_move rfl rfl) ?_
            refine h_look rfl (look_move rfl rfl) ?_
            refine h_look rfl (look_indexAddr _ Try.underlying27 szTry_3 rfl rfl rfl rfl rfl (by omega)) ?_
            refine h_look rfl (look_load1 Try.underlying3 rfl rfl rfl (fun w' hS => ((hA.ext hS).rd j y hy) 0 _ rfl)) ?_
            refine h_seq rfl ?_ hX
            refine s_call (vs := [_, _, _]) enTry_22 ⟨⟨_, rfl, rfl⟩, ⟨_, rfl, rfl⟩, ⟨_, rfl, rfl⟩, trivial⟩ ((by have := int_reads g1 (intP y ++ G) 0 y y _ hB1 (by rw [List.length_append]; omega); rw [hr] at this; simp only [hrd] at this; exact this)) ?_
            rintro _ u4 ⟨rfl, hm4, hT4⟩
            refine ⟨_, rfl, ?_⟩
            replace hX := hX.mut hm4 (by omega)
            clear hB1
            have hB1 := hT4
            refine s_nil ?_
            refine then_normal ?_
            refine ⟨hX, ?_⟩
            refine h_look rfl (look_neq rfl rfl rfl rfl) ?_
            refine h_nil ?_
            rw [hG] at hB1
            refine then_normal ?_
            refine cond_false rfl (by simp) ?_
            refine wp_skip ?_
            refine inB_normal ?_
            refine then_normal ?_
            refine region_s ?_
            refine q_look (look_move rfl rfl) ?_
            refine q_look (look_add rfl rfl rfl rfl (by have := maxLen_is; unfold I64; omega)) ?_
            refine q_look (look_assign rfl rfl) ?_
            refine q_nil ?_
            rintro _ rfl
            exact loop_end (j + 1) (by omega) ⟨rfl, rfl, rfl, rfl, trivial⟩ ⟨hX, hB1, by omega⟩
          · obtain rfl : j = l.length := by have := nn_f hc55; omega
            rw [List.drop_length] at hB1
            change Blk _ g1 57 (rcell more 0) at hB1
            have hme := end_eq more
            refine wp_exit ?_
            refine then_exit ?_
            refine then_exit ?_
            refine inB_exit_same ?_
            refine then_normal ?_
            refine wp_seq ?_
            refine region_q ?_
            refine q_look (look_move rfl rfl) ?_
            refine q_call (vs := [_]) enTry_23 ⟨⟨_, rfl, rfl⟩, trivial⟩ (fun wc hw => cext hw (err_any g1 more 0 wc (hB1.ext hw))) ?_
            refine q_look (look_eql rfl rfl rfl rfl) ?_
            refine q_look (look_move rfl rfl) ?_
            refine q_lookg rfl rfl rfl (fun hq => look_move rfl rfl) ?_
            refine q_callg (vs := [_]) rfl rfl rfl enTry_24 (fun hq => ⟨⟨_, rfl, hq⟩, trivial⟩) (fun hq wc hw => cext hw (left_any g1 more 0 wc (hB1.ext hw))) ?_
            refine q_lookg rfl rfl rfl (fun hq => look_move rfl rfl) ?_
            refine q_lookg rfl rfl rfl (fun hq => Look.as (look_len_string Try.underlying9 rfl hq) (by rw [ofL_size]) (v' := .int .i64 (more.length : Int))) ?_
            refine q_lookg rfl rfl rfl (fun hq => look_eql rfl hq rfl hq) ?_
            refine q_look (look_and rfl rfl rfl rfl) ?_
            refine q_look (look_move rfl rfl) ?_
            refine q_lookg rfl rfl rfl (fun hq => look_move rfl rfl) ?_
            refine q_callg (vs := [_]) rfl rfl rfl enTry_25 (fun hq => ⟨⟨_, rfl, hq⟩, trivial⟩) (fun hq wc hw => cext hw (end_any g1 more 0 wc (hB1.ext hw))) ?_
            refine q_lookg rfl rfl rfl (fun hq => look_eql rfl hq rfl rfl) ?_
            refine q_lookg rfl rfl rfl (fun hq => look_move rfl rfl) ?_
            refine q_lookg rfl rfl rfl (fun hq => look_eql_str rfl hq rfl rfl) ?_
            refine q_lookg rfl rfl rfl (fun hq => look_eql_bool Try.underlying4 rfl hq rfl hq) ?_
            refine q_look (look_and rfl rfl rfl rfl) ?_
            refine q_look (look_move rfl rfl) ?_
            refine q_callg (vs := []) rfl rfl rfl enTry_11 (fun hq => trivial) (fun hq wc hw => cext hw (awake_any wc)) ?_
            refine q_look (look_and rfl rfl rfl rfl) ?_
            refine q_look (look_assign rfl rfl) ?_
            refine q_nil ?_
            intro w4 hw4
            replace hX := hX.comp hw4
            replace hB1 := hB1.ext hw4
            refine then_normal ?_
            refine wp_ret ?_
            exact res1 Try.results4 rfl ⟨ret_bool (by rw [hme]; simp), hX⟩

theorem law_cuts (l : List Int) (A : Option Addr) (cap : Nat) (c : Int) (w : World) (hA : Sl icell 1 w A l) (hI : ∀ x ∈ l, I64 x) (hla : l.length ≤ maxLen) (hc0 : 0 ≤ c ∧ c ≤ 65535) :
    Calls Try.prog 5 #[.slice A l.length cap, .int .u16 c] w fun e w' => e = .returned (.bool (true)) ∧ Ext w w' := by
  refine calls_act Try.func5 rfl Try.ntmps5 rfl rfl ?_
  show Code.wp _ _ _ (act 74 [(0, true, .slice A l.length cap), (1, true, .int .u16 c)] _) _
  have hX : Ext w w := Ext.rfl' w
  refine wp_seq ?_
  refine region_s ?_
  refine q_look (look_assign rfl rfl) ?_
  refine q_nil ?_
  rintro _ rfl
  refine then_normal ?_
  refine wp_seq ?_
  refine wp_seq ?_
  refine region_s ?_
  refine q_look (look_move rfl rfl) ?_
  refine q_look (look_len_slice Try.underlying27 rfl rfl) ?_
  refine q_look (look_gtr rfl rfl rfl rfl) ?_
  refine q_nil ?_
  rintro _ rfl
  refine then_normal ?_
  refine cond_split rfl (fun hc12 => ?_) (fun hc12 => ?_)
  · simp only [Bool.and_eq_true, Bool.or_eq_true, Bool.not_eq_true', decide_eq_true_eq, decide_eq_false_iff_not] at hc12
    refine wp_seq ?_
    refine region_q ?_
    refine q_call (vs := []) enTry_11 trivial (fun wc hw => cext hw (awake_any wc)) ?_
    refine q_look (look_assign rfl rfl) ?_
    refine q_nil ?_
    intro w1 hw1
    replace hX := hX.comp hw1
    refine then_normal ?_
    refine wp_ret ?_
    refine then_ret ?_
    exact res1 Try.results5 rfl ⟨rfl, hX⟩
  · have hlen : l.length ≤ 100 := by have := nn_f hc12; omega
    refine wp_skip ?_
    refine then_normal ?_
    refine wp_seq ?_
    refine region_q ?_
    refine q_look (look_move rfl rfl) ?_
    refine q_look (look_len_slice Try.underlying27 rfl rfl) ?_
    refine q_call (vs := [_]) enTry_18 ⟨⟨_, rfl, rfl⟩, trivial⟩ (fun wc hw => cext hw (list_any (l.length : Int) wc (by unfold I64; omega))) ?_
    refine q_look (look_assign rfl rfl) ?_
    refine q_nil ?_
    intro w2 hw2
    replace hX := hX.comp hw2
    refine then_normal ?_
    refine wp_seq ?_
    refine wp_seq ?_
    refine region_s ?_
    refine q_look (look_assign rfl rfl) ?_
    refine q_nil ?_
    rintro _ rfl
    refine then_normal ?_
    refine wp_block ?_
    refine loop_act (fun (i : Nat) => [(1, .int .u16 c), (0, .slice A l.length cap), (5, .string (ofL (listP (l.length : Int) ++ (l.take i).flatMap intP))), (6, .int .i64 (i : Int))]) (fun i w' => (Ext w w') ∧ (i ≤ l.length)) (fun i => l.length - i) (0) ?_ ?_ ?_
    · exact ⟨rfl, rfl, (congrArg (fun t => some (true, Value.string (ofL t))) (show listP (l.length : Int) = listP (l.length : Int) ++ (l.take 0).flatMap intP by simp)), rfl, trivial⟩
    · exact ⟨hX, Nat.zero_le _⟩
    · rintro i σ wr hF
      obtain ⟨hX, hi⟩ : (Ext w wr) ∧ (i ≤ l.length) := hF
      show Code.wp _ _ _ (act 74 [(1, true, .int .u16 c), (0, true, .slice A l.length cap), (5, true, .string (ofL (listP (l.length : Int) ++ (l.take i).flatMap intP))), (6, true, .int .i64 (i : Int))] _) _
      refine wp_seq ?_
      refine wp_seq ?_
      refine region_s ?_
      refine q_look (look_move rfl rfl) ?_
      refine q_look (look_move rfl rfl) ?_
      refine q_look (look_len_slice Try.underlying27 rfl rfl) ?_
      refine q_look (look_lss rfl rfl rfl rfl) ?_
      refine q_nil ?_
      rintro _ rfl
      refine then_normal ?_
      refine cond_split rfl (fun hc20 => ?_) (fun hc20 => ?_)
      · have hlt : i < l.length := by have := nn_t hc20; omega
        obtain ⟨x, hx⟩ := get_lt hlt
        obtain ⟨b1, o1, rfl, h1⟩ := (hA.ext hX).at_ hlt
        have hxI := hI x (mem_get hx)
        have hfl := flat_len intP 9 (l.take i) (fun y _ => (int_len y).2)
        rw [List.length_take] at hfl
        have hll := list_len (l.length : Int)
        have hxl := (int_len x).2
        refine wp_skip ?_
        refine then_normal ?_
        refine wp_seq ?_
        refine wp_block ?_
        refine region_q ?_
        refine q_look (look_move rfl rfl) ?_
        refine q_look (look_move rfl rfl) ?_
        refine q_look (look_move rfl rfl) ?_
        refine q_look (look_indexAddr _ Try.underlying27 szTry_3 rfl rfl rfl rfl rfl (by omega)) ?_
        refine q_look (look_load1 Try.underlying3 rfl rfl rfl (ext_cell ((h1 i x hx) 0 _ rfl))) ?_
        refine q_call (vs := [_]) enTry_12 ⟨⟨_, rfl, rfl⟩, trivial⟩ (fun wc hw => cext hw (int_any x wc hxI)) ?_
        refine q_look (look_concat rfl rfl rfl rfl (by rw [List.length_append]; omega)) ?_
        refine q_look (look_assign rfl rfl) ?_
        refine q_nil ?_
        intro w3 hw3
        replace hX := hX.comp hw3
        refine inB_normal ?_
        refine then_normal ?_
        refine region_s ?_
        refine q_look (look_move rfl rfl) ?_
        refine q_look (look_add rfl rfl rfl rfl (by have := maxLen_is; unfold I64; omega)) ?_
        refine q_look (look_assign rfl rfl) ?_
        refine q_nil ?_
        rintro _ rfl
        exact loop_end (i + 1) (by omega) ⟨rfl, rfl, (congrArg (fun t => some (true, Value.string (ofL t))) (show (listP (l.length : Int) ++ (l.take i).flatMap intP) ++ intP x = listP (l.length : Int) ++ (l.take (i + 1)).flatMap intP by rw [flat_take intP hx, List.append_assoc])), rfl, trivial⟩ ⟨hX, by omega⟩
      · obtain rfl : i = l.length := by have := nn_f hc20; omega
        rw [List.take_length]
        obtain ⟨F, hF⟩ : ∃ F, F = l.flatMap intP := ⟨_, rfl⟩
        obtain ⟨E, hE⟩ : ∃ E, E = listP (l.length : Int) ++ F := ⟨_, rfl⟩
        have hfl := flat_len intP 9 l (fun y _ => (int_len y).2)
        rw [← hF] at hfl
        have hll := list_len (l.length : Int)
        have hhl := head_len 4 (l.length : Int)
        rw [← listP_eq] at hhl
        have hEl : 1 ≤ E.length ∧ E.length ≤ 2000 := by rw [hE, List.length_append]; omega
        rw [← hF, ← hE]
        refine wp_exit ?_
        refine then_exit ?_
        refine then_exit ?_
        refine inB_exit_same ?_
        refine then_normal ?_
        refine wp_seq ?_
        refine wp_seq ?_
        refine region_s ?_
        refine q_look (look_move rfl rfl) ?_
        refine q_look (Look.as (look_len_string Try.underlying9 rfl rfl) (by rw [ofL_size]) (v' := .int .i64 (E.length : Int))) ?_
        refine q_look (look_eql rfl rfl rfl rfl) ?_
        refine q_nil ?_
        rintro _ rfl
        refine then_normal ?_
        refine cond_false rfl (decide_eq_false (by omega)) ?_
        refine wp_skip ?_
        refine then_normal ?_
        refine wp_seq ?_
        obtain ⟨m, hm⟩ : ∃ m : Nat, c % (E.length : Int) = (m : Int) := ⟨(c % (E.length : Int)).toNat, by have := Int.emod_nonneg c (show (E.length : Int) ≠ 0 by omega); omega⟩
        have hmE : m < E.length := by have := Int.emod_lt_of_pos c (show 0 < (E.length : Int) by omega); omega
        refine wp_region_lit ?_
        refine s_look (look_move rfl rfl) ?_
        refine s_look (look_move rfl rfl) ?_
        refine s_look (look_conv_int Try.underlying3 Try.underlying36 rfl rfl (wrap_I64 (by unfold I64; omega))) ?_
        refine s_look (look_move rfl rfl) ?_
        refine s_look (Look.as (look_len_string Try.underlying9 rfl rfl) (by rw [ofL_size]) (v' := .int .i64 (E.length : Int))) ?_
        refine s_look (look_rem rfl rfl rfl rfl (by omega) (by omega)) ?_
        refine s_look (look_slice_str_h (hi := m) Try.underlying9 rfl rfl rfl rfl hm (by omega)) ?_
        refine s_call (vs := [_]) enTry_20 ⟨⟨_, rfl, rfl⟩, trivial⟩ (new_any (E.take m) _) ?_
        rintro _ u1 ⟨g1, rfl, hu1, hB1, hg1⟩
        refine ⟨_, rfl, ?_⟩
        have ge_g1 : w.heap.size ≤ g1 := by have := hX.size; omega
        replace hX := hX.comp hu1
        refine s_look (look_assign rfl rfl) ?_
        refine s_nil ?_
        refine then_normal ?_
        refine wp_seq ?_
        refine wp_seq ?_
        refine region_s ?_
        refine q_look (look_move rfl rfl) ?_
        refine q_look (look_eql_nil Try.underlying28 rfl rfl rfl rfl) ?_
        refine q_nil ?_
        rintro _ rfl
        refine then_normal ?_
        refine cond_false rfl rfl ?_
        refine wp_skip ?_
        refine then_normal ?_
        refine wp_seq ?_
        have hcl := cut_list (n := l.length) (by omega) (Y := F) (m := m) (by rw [← hE]; exact hmE)
        rw [← hE] at hcl
        obtain ⟨n, c1, e1, hn⟩ : ∃ n c e, countR (E.take m) 0 4 100 false = (n, c, e) := ⟨_, _, _, rfl⟩
        rw [hn] at hcl
        obtain ⟨hcn, hci⟩ := hcl
        refine wp_region_lit ?_
        refine s_look (look_move rfl rfl) ?_
        refine s_call (vs := [_, _]) enTry_21 ⟨⟨_, rfl, rfl⟩, ⟨_, rfl, rfl⟩, trivial⟩ ((by have := list_reads g1 (E.take m) 0 100 _ hB1 (by rw [List.length_take]; omega) (by decide); rw [hn] at this; exact this)) ?_
        rintro _ u2 ⟨rfl, hm2, hT2⟩
        refine ⟨_, rfl, ?_⟩
        replace hX := hX.mut hm2 (by omega)
        clear hB1
        have hB1 := hT2
        refine s_look (look_assign rfl rfl) ?_
        refine s_nil ?_
        refine then_normal ?_
        refine wp_seq ?_
        refine wp_seq ?_
        refine region_s ?_
        refine q_look (look_assign rfl rfl) ?_
        refine q_nil ?_
        rintro _ rfl
        refine then_normal ?_
        refine wp_block ?_
        refine loop_act (fun (ls : Nat × List UInt8 × Int) => [(0, .slice A l.length cap), (7, .pointer (some ⟨g1, 0, none⟩)), (8, .int .i64 n), (9, .int .i64 (ls.1 : Int))]) (fun ls w' => (Ext w w') ∧ (Blk w' g1 57 (rcell ls.2.1 ls.2.2)) ∧ (ls.1 ≤ l.length) ∧ (ls.2.1.length ≤ 2000) ∧ (CutInv ((l.drop ls.1).flatMap intP) ls.2.1 ls.2.2)) (fun ls => l.length - ls.1) ((0, (E.take m).drop c1, e1)) ?_ ?_ ?_
        · exact ⟨rfl, rfl, rfl, rfl, trivial⟩
        · exact ⟨hX, hB1, Nat.zero_le _, by show ((E.take m).drop c1).length ≤ 2000; rw [List.length_drop, List.length_take]; omega, by rw [hF] at hci; exact hci⟩
        · rintro ⟨j, rest, e⟩ σ wr hF
          obtain ⟨hX, hB1, hj, hrl, hci⟩ : (Ext w wr) ∧ (Blk wr g1 57 (rcell rest e)) ∧ (j ≤ l.length) ∧ (rest.length ≤ 2000) ∧ (CutInv ((l.drop j).flatMap intP) rest e) := hF
          show Code.wp _ _ _ (act 74 [(0, true, .slice A l.length cap), (7, true, .pointer (some ⟨g1, 0, none⟩)), (8, true, .int .i64 n), (9, true, .int .i64 (j : Int))] _) _
          refine wp_seq ?_
          refine wp_seq ?_
          refine region_s ?_
          refine q_look (look_move rfl rfl) ?_
          refine q_look (look_move rfl rfl) ?_
          refine q_look (look_len_slice Try.underlying27 rfl rfl) ?_
          refine q_look (look_lss rfl rfl rfl rfl) ?_
          refine q_nil ?_
          rintro _ rfl
          refine then_normal ?_
          refine cond_split rfl (fun hc48 => ?_) (fun hc48 => ?_)
          · have hlt : j < l.length := by have := nn_t hc48; omega
            obtain ⟨y, hy⟩ := get_lt hlt
            have hyI := hI y (mem_get hy)
            refine wp_skip ?_
            refine then_normal ?_
            refine wp_seq ?_
            refine wp_block ?_
            refine wp_region_lit ?_
            refine s_look (look_move rfl rfl) ?_
            refine s_call (vs := [_, _, _]) enTry_22 ⟨⟨_, rfl, rfl⟩, ⟨_, rfl, rfl⟩, ⟨_, rfl, rfl⟩, trivial⟩ (int_reads g1 rest e (-9223372036854775808) 9223372036854775807 _ hB1 (by omega)) ?_
            rintro _ u3 ⟨rfl, hm3, hT3⟩
            refine ⟨_, rfl, ?_⟩
            replace hX := hX.mut hm3 (by omega)
            clear hB1
            have hB1 := hT3
            refine s_nil ?_
            refine inB_normal ?_
            refine then_normal ?_
            refine region_s ?_
            refine q_look (look_move rfl rfl) ?_
            refine q_look (look_add rfl rfl rfl rfl (by have := maxLen_is; unfold I64; omega)) ?_
            refine q_look (look_assign rfl rfl) ?_
            refine q_nil ?_
            rintro _ rfl
            exact loop_end ((j + 1, rest.drop (intR rest e (-9223372036854775808) 9223372036854775807).2.1, (intR rest e (-9223372036854775808) 9223372036854775807).2.2)) (by simp only []; omega) ⟨rfl, rfl, rfl, rfl, trivial⟩ ⟨hX, hB1, by show j + 1 ≤ l.length; omega, by show (rest.drop _).length ≤ 2000; rw [List.length_drop]; omega, cut_int hyI (by rw [flat_drop intP hy] at hci; exact hci)⟩
          · obtain rfl : j = l.length := by have := nn_f hc48; omega
            rw [List.drop_length] at hci
            obtain rfl : e = 3 := by
              rcases hci with h | ⟨_, m, hm, _⟩
              · exact h
              · simp at hm
            refine wp_exit ?_
            refine then_exit ?_
            refine then_exit ?_
            refine inB_exit_same ?_
            refine then_normal ?_
            refine wp_seq ?_
            refine region_q ?_
            refine q_look (look_move rfl rfl) ?_
            refine q_look (look_move rfl rfl) ?_
            refine q_look (look_len_slice Try.underlying27 rfl rfl) ?_
            refine q_look (look_eql rfl rfl rfl rfl) ?_
            refine q_look (look_move rfl rfl) ?_
            refine q_lookg rfl rfl rfl (fun hq => look_move rfl rfl) ?_
            refine q_lookg rfl rfl rfl (fun hq => look_eql rfl hq rfl rfl) ?_
            refine q_look (look_or rfl rfl rfl rfl) ?_
            refine q_look (look_move rfl rfl) ?_
            refine q_lookg rfl rfl rfl (fun hq => look_move rfl rfl) ?_
            refine q_callg (vs := [_]) rfl rfl rfl enTry_23 (fun hq => ⟨⟨_, rfl, hq⟩, trivial⟩) (fun hq wc hw => cext hw (err_any g1 _ _ wc (hB1.ext hw))) ?_
            refine q_lookg rfl rfl rfl (fun hq => look_eql rfl hq rfl rfl) ?_
            refine q_look (look_and rfl rfl rfl rfl) ?_
            refine q_look (look_move rfl rfl) ?_
            refine q_lookg rfl rfl rfl (fun hq => look_move rfl rfl) ?_
            refine q_callg (vs := [_]) rfl rfl rfl enTry_25 (fun hq => ⟨⟨_, rfl, hq⟩, trivial⟩) (fun hq wc hw => cext hw (end_any g1 _ _ wc (hB1.ext hw))) ?_
            refine q_lookg rfl rfl rfl (fun hq => look_eql rfl hq rfl rfl) ?_
            refine q_look (look_and rfl rfl rfl rfl) ?_
            refine q_look (look_move rfl rfl) ?_
            refine q_callg (vs := []) rfl rfl rfl enTry_11 (fun hq => trivial) (fun hq wc hw => cext hw (awake_any wc)) ?_
            refine q_look (look_and rfl rfl rfl rfl) ?_
            refine q_look (look_assign rfl rfl) ?_
            refine q_nil ?_
            intro w4 hw4
            replace hX := hX.comp hw4
            replace hB1 := hB1.ext hw4
            refine then_normal ?_
            refine wp_ret ?_
            exact res1 Try.results5 rfl ⟨ret_bool (by simp only [endP]; simp; exact hcn), hX⟩


theorem text_len {t : List UInt8} (h : t.length ≤ 300) : (textP t).length ≤ 309 := by
  have := (head_len 2 (t.length : Int)).2
  unfold textP
  rw [List.length_append]; omega
theorem bool_len (b : Bool) : (boolP b).length ≤ 1 := by cases b <;> decide

theorem law_strings (l : List (List UInt8)) (A : Option Addr) (ca : Nat) (b : List Bool) (B : Option Addr) (cb : Nat) (more : List UInt8) (w : World) (hA : Sl tcell 1 w A l) (hm : ∀ t ∈ l, t.length ≤ maxLen) (hla : l.length ≤ maxLen) (hC : Sl bocell 1 w B b) (hlb : b.length ≤ maxLen) (hmo : more.length ≤ maxLen) :
    Calls Try.prog 6 #[.slice A l.length ca, .slice B b.length cb, .string (ofL more)] w fun e w' => e = .returned (.bool (true)) ∧ Ext w w' := by
  refine calls_act Try.func6 rfl Try.ntmps6 rfl rfl ?_
  show Code.wp _ _ _ (act 110 [(0, true, .slice A l.length ca), (1, true, .slice B b.length cb), (2, true, .string (ofL more))] _) _
  have hX : Ext w w := Ext.rfl' w
  refine wp_seq ?_
  refine region_s ?_
  refine q_look (look_assign rfl rfl) ?_
  refine q_nil ?_
  rintro _ rfl
  refine then_normal ?_
  refine wp_seq ?_
  refine wp_seq ?_
  refine region_s ?_
  refine q_look (look_move rfl rfl) ?_
  refine q_look (look_len_slice Try.underlying38 rfl rfl) ?_
  refine q_look (look_gtr rfl rfl rfl rfl) ?_
  refine q_look (look_move rfl rfl) ?_
  refine q_lookg rfl rfl rfl (fun hq => look_move rfl rfl) ?_
  refine q_lookg rfl rfl rfl (fun hq => look_len_slice Try.underlying39 rfl hq) ?_
  refine q_lookg rfl rfl rfl (fun hq => look_gtr rfl hq rfl rfl) ?_
  refine q_look (look_or rfl rfl rfl rfl) ?_
  refine q_look (look_move rfl rfl) ?_
  refine q_lookg rfl rfl rfl (fun hq => look_move rfl rfl) ?_
  refine q_lookg rfl rfl rfl (fun hq => Look.as (look_len_string Try.underlying9 rfl hq) (by rw [ofL_size]) (v' := .int .i64 (more.length : Int))) ?_
  refine q_lookg rfl rfl rfl (fun hq => look_gtr rfl hq rfl rfl) ?_
  refine q_look (look_or rfl rfl rfl rfl) ?_
  refine q_nil ?_
  rintro _ rfl
  refine then_normal ?_
  refine cond_split rfl (fun hc25 => ?_) (fun hc25 => ?_)
  · simp only [Bool.and_eq_true, Bool.or_eq_true, Bool.not_eq_true', decide_eq_true_eq, decide_eq_false_iff_not] at hc25
    refine wp_seq ?_
    refine region_q ?_
    refine q_call (vs := []) enTry_11 trivial (fun wc hw => cext hw (awake_any wc)) ?_
    refine q_look (look_assign rfl rfl) ?_
    refine q_nil ?_
    intro w1 hw1
    replace hX := hX.comp hw1
    refine then_normal ?_
    refine wp_ret ?_
    refine then_ret ?_
    exact res1 Try.results6 rfl ⟨rfl, hX⟩
  · have hlen : l.length ≤ 60 ∧ b.length ≤ 60 ∧ more.length ≤ 100 := by rw [Bool.or_eq_false_iff, Bool.or_eq_false_iff] at hc25; have := nn_f hc25.1.1; have := nn_f hc25.1.2; have := nn_f hc25.2; omega
    refine wp_skip ?_
    refine then_normal ?_
    refine wp_seq ?_
    refine region_s ?_
    refine q_look (look_assign rfl rfl) ?_
    refine q_nil ?_
    rintro _ rfl
    refine then_normal ?_
    refine wp_seq ?_
    refine wp_seq ?_
    refine region_s ?_
    refine q_look (look_assign rfl rfl) ?_
    refine q_nil ?_
    rintro _ rfl
    refine then_normal ?_
    refine wp_block ?_
    refine loop_act (fun (i : Nat) => [(0, .slice A l.length ca), (1, .slice B b.length cb), (2, .string (ofL more)), (7, .string (ofL ((l.take i).flatMap textP))), (8, .int .i64 (i : Int))]) (fun i w' => (Ext w w') ∧ (i ≤ l.length) ∧ (∀ t ∈ l.take i, t.length ≤ 300)) (fun i => l.length - i) (0) ?_ ?_ ?_
    · exact ⟨rfl, rfl, rfl, rfl, rfl, trivial⟩
    · exact ⟨hX, Nat.zero_le _, fun t ht => by cases ht⟩
    · rintro i σ wr hF
      obtain ⟨hX, hi, h3⟩ : (Ext w wr) ∧ (i ≤ l.length) ∧ (∀ t ∈ l.take i, t.length ≤ 300) := hF
      show Code.wp _ _ _ (act 110 [(0, true, .slice A l.length ca), (1, true, .slice B b.length cb), (2, true, .string (ofL more)), (7, true, .string (ofL ((l.take i).flatMap textP))), (8, true, .int .i64 (i : Int))] _) _
      refine wp_seq ?_
      refine wp_seq ?_
      refine region_s ?_
      refine q_look (look_move rfl rfl) ?_
      refine q_look (look_move rfl rfl) ?_
      refine q_look (look_len_slice Try.underlying38 rfl rfl) ?_
      refine q_look (look_lss rfl rfl rfl rfl) ?_
      refine q_nil ?_
      rintro _ rfl
      refine then_normal ?_
      refine cond_split rfl (fun hc30 => ?_) (fun hc30 => ?_)
      · have hlt : i < l.length := by have := nn_t hc30; omega
        obtain ⟨x, hx⟩ := get_lt hlt
        obtain ⟨b1, o1, rfl, h1⟩ := (hA.ext hX).at_ hlt
        have hxm := hm x (mem_get hx)
        refine wp_skip ?_
        refine then_normal ?_
        refine wp_seq ?_
        refine wp_block ?_
        refine wp_seq ?_
        refine wp_seq ?_
        refine region_s ?_
        refine q_look (look_move rfl rfl) ?_
        refine q_look (look_move rfl rfl) ?_
        refine q_look (look_indexAddr _ Try.underlying38 szTry_9 rfl rfl rfl rfl rfl (by omega)) ?_
        refine q_look (look_load1 Try.underlying9 rfl rfl rfl (eqc ((h1 i x hx) 0 _ rfl))) ?_
        refine q_look (Look.as (look_len_string Try.underlying9 rfl rfl) (by rw [ofL_size]) (v' := .int .i64 (x.length : Int))) ?_
        refine q_look (look_gtr rfl rfl rfl rfl) ?_
        refine q_nil ?_
        rintro _ rfl
        refine then_normal ?_
        refine cond_split rfl (fun hc38 => ?_) (fun hc38 => ?_)
        · simp only [Bool.and_eq_true, Bool.or_eq_true, Bool.not_eq_true', decide_eq_true_eq, decide_eq_false_iff_not] at hc38
          refine wp_seq ?_
          refine region_q ?_
          refine q_call (vs := []) enTry_11 trivial (fun wc hw => cext hw (awake_any wc)) ?_
          refine q_look (look_assign rfl rfl) ?_
          refine q_nil ?_
          intro w2 hw2
          replace hX := hX.comp hw2
          refine then_normal ?_
          refine wp_ret ?_
          refine then_ret ?_
          refine inB_ret ?_
          refine then_ret ?_
          refine then_ret ?_
          refine inB_ret ?_
          refine then_ret ?_
          exact res1 Try.results6 rfl ⟨rfl, hX⟩
        · have hx3 : x.length ≤ 300 := by have := nn_f hc38; omega
          have hfl := flat_len textP 309 (l.take i) (fun y hy => text_len (h3 y hy))
          rw [List.length_take] at hfl
          have hxl := text_len hx3
          refine wp_skip ?_
          refine then_normal ?_
          refine region_q ?_
          refine q_look (look_move rfl rfl) ?_
          refine q_look (look_move rfl rfl) ?_
          refine q_look (look_move rfl rfl) ?_
          refine q_look (look_indexAddr _ Try.underlying38 szTry_9 rfl rfl rfl rfl rfl (by omega)) ?_
          refine q_look (look_load1 Try.underlying9 rfl rfl rfl (ext_cell ((h1 i x hx) 0 _ rfl))) ?_
          refine q_call (vs := [_]) enTry_14 ⟨⟨_, rfl, rfl⟩, trivial⟩ (fun wc hw => cext hw (text_any x wc (by omega))) ?_
          refine q_look (look_concat rfl rfl rfl rfl (by omega)) ?_
          refine q_look (look_assign rfl rfl) ?_
          refine q_nil ?_
          intro w3 hw3
          replace hX := hX.comp hw3
          refine inB_normal ?_
          refine then_normal ?_
          refine region_s ?_
          refine q_look (look_move rfl rfl) ?_
          refine q_look (look_add rfl rfl rfl rfl (by have := maxLen_is; unfold I64; omega)) ?_
          refine q_look (look_assign rfl rfl) ?_
          refine q_nil ?_
          rintro _ rfl
          exact loop_end (i + 1) (by omega) ⟨rfl, rfl, rfl, (congrArg (fun t => some (true, Value.string (ofL t))) (flat_take textP hx).symm), rfl, trivial⟩ ⟨hX, by omega, by rw [take_get hx]; intro t ht; rcases List.mem_append.1 ht with h | h; exact h3 t h; rw [List.mem_singleton.1 h]; omega⟩
      · obtain rfl : i = l.length := by have := nn_f hc30; omega
        rw [List.take_length] at h3
        rw [List.take_length]
        obtain ⟨F, hF⟩ : ∃ F, F = l.flatMap textP := ⟨_, rfl⟩
        have hfl := flat_len textP 309 l (fun y hy => text_len (h3 y hy))
        rw [← hF] at hfl
        rw [← hF]
        refine wp_exit ?_
        refine then_exit ?_
        refine then_exit ?_
        refine inB_exit_same ?_
        refine then_normal ?_
        refine wp_seq ?_
        refine wp_seq ?_
        refine region_s ?_
        refine q_look (look_assign rfl rfl) ?_
        refine q_nil ?_
        rintro _ rfl
        refine then_normal ?_
        refine wp_block ?_
        refine loop_act (fun (i2 : Nat) => [(0, .slice A l.length ca), (1, .slice B b.length cb), (2, .string (ofL more)), (7, .string (ofL (F ++ (b.take i2).flatMap boolP))), (9, .int .i64 (i2 : Int))]) (fun i2 w' => (Ext w w') ∧ (i2 ≤ b.length)) (fun i2 => b.length - i2) (0) ?_ ?_ ?_
        · exact ⟨rfl, rfl, rfl, (congrArg (fun t => some (true, Value.string (ofL t))) (show F = F ++ (b.take 0).flatMap boolP by simp)), rfl, trivial⟩
        · exact ⟨hX, Nat.zero_le _⟩
        · rintro i2 σ wr hF
          obtain ⟨hX, hi2⟩ : (Ext w wr) ∧ (i2 ≤ b.length) := hF
          show Code.wp _ _ _ (act 110 [(0, true, .slice A l.length ca), (1, true, .slice B b.length cb), (2, true, .string (ofL more)), (7, true, .string (ofL (F ++ (b.take i2).flatMap boolP))), (9, true, .int .i64 (i2 : Int))] _) _
          refine wp_seq ?_
          refine wp_seq ?_
          refine region_s ?_
          refine q_look (look_move rfl rfl) ?_
          refine q_look (look_move rfl rfl) ?_
          refine q_look (look_len_slice Try.underlying39 rfl rfl) ?_
          refine q_look (look_lss rfl rfl rfl rfl) ?_
          refine q_nil ?_
          rintro _ rfl
          refine then_normal ?_
          refine cond_split rfl (fun hc50 => ?_) (fun hc50 => ?_)
          · have hlt : i2 < b.length := by have := nn_t hc50; omega
            obtain ⟨u, hu⟩ := get_lt hlt
            obtain ⟨b2, o2, rfl, h2⟩ := (hC.ext hX).at_ hlt
            have hfb := flat_len boolP 1 (b.take i2) (fun y _ => bool_len y)
            rw [List.length_take] at hfb
            have hbl := bool_len u
            refine wp_skip ?_
            refine then_normal ?_
            refine wp_seq ?_
            refine wp_block ?_
            refine region_q ?_
            refine q_look (look_move rfl rfl) ?_
            refine q_look (look_move rfl rfl) ?_
            refine q_look (look_move rfl rfl) ?_
            refine q_look (look_indexAddr _ Try.underlying39 szTry_4 rfl rfl rfl rfl rfl (by omega)) ?_
            refine q_look (look_load1 Try.underlying4 rfl rfl rfl (ext_cell ((h2 i2 u hu) 0 _ rfl))) ?_
            refine q_call (vs := [_]) enTry_16 ⟨⟨_, rfl, rfl⟩, trivial⟩ (fun wc hw => cext hw (bool_any u wc)) ?_
            refine q_look (look_concat rfl rfl rfl rfl (by rw [List.length_append]; omega)) ?_
            refine q_look (look_assign rfl rfl) ?_
            refine q_nil ?_
            intro w4 hw4
            replace hX := hX.comp hw4
            refine inB_normal ?_
            refine then_normal ?_
            refine region_s ?_
            refine q_look (look_move rfl rfl) ?_
            refine q_look (look_add rfl rfl rfl rfl (by have := maxLen_is; unfold I64; omega)) ?_
            refine q_look (look_assign rfl rfl) ?_
            refine q_nil ?_
            rintro _ rfl
            exact loop_end (i2 + 1) (by omega) ⟨rfl, rfl, rfl, (congrArg (fun t => some (true, Value.string (ofL t))) (show (F ++ (b.take i2).flatMap boolP) ++ boolP u = F ++ (b.take (i2 + 1)).flatMap boolP by rw [flat_take boolP hu, List.append_assoc])), rfl, trivial⟩ ⟨hX, by omega⟩
          · obtain rfl : i2 = b.length := by have := nn_f hc50; omega
            rw [List.take_length]
            obtain ⟨H, hH⟩ : ∃ H, H = b.flatMap boolP := ⟨_, rfl⟩
            have hfb := flat_len boolP 1 b (fun y _ => bool_len y)
            rw [← hH] at hfb
            rw [← hH]
            refine wp_exit ?_
            refine then_exit ?_
            refine then_exit ?_
            refine inB_exit_same ?_
            refine then_normal ?_
            refine wp_seq ?_
            refine wp_region_lit ?_
            refine s_look (look_move rfl rfl) ?_
            refine s_look (look_move rfl rfl) ?_
            refine s_look (look_concat rfl rfl rfl rfl (by rw [List.length_append]; omega)) ?_
            refine s_call (vs := [_]) enTry_20 ⟨⟨_, rfl, rfl⟩, trivial⟩ (new_any (F ++ H ++ more) _) ?_
            rintro _ u1 ⟨g1, rfl, hu1, hB1, hg1⟩
            refine ⟨_, rfl, ?_⟩
            have ge_g1 : w.heap.size ≤ g1 := by have := hX.size; omega
            replace hX := hX.comp hu1
            refine s_look (look_assign rfl rfl) ?_
            refine s_nil ?_
            refine then_normal ?_
            refine wp_seq ?_
            refine wp_seq ?_
            refine region_s ?_
            refine q_look (look_move rfl rfl) ?_
            refine q_look (look_eql_nil Try.underlying28 rfl rfl rfl rfl) ?_
            refine q_nil ?_
            rintro _ rfl
            refine then_normal ?_
            refine cond_false rfl rfl ?_
            refine wp_skip ?_
            refine then_normal ?_
            refine wp_seq ?_
            refine wp_seq ?_
            refine region_s ?_
            refine q_look (look_assign rfl rfl) ?_
            refine q_nil ?_
            rintro _ rfl
            refine then_normal ?_
            refine wp_block ?_
            refine loop_act (fun (j : Nat) => [(0, .slice A l.length ca), (1, .slice B b.length cb), (2, .string (ofL more)), (10, .pointer (some ⟨g1, 0, none⟩)), (11, .int .i64 (j : Int))]) (fun j w' => (Ext w w') ∧ (Blk w' g1 57 (rcell ((l.drop j).flatMap textP ++ (H ++ more)) 0)) ∧ (j ≤ l.length)) (fun j => l.length - j) (0) ?_ ?_ ?_
            · exact ⟨rfl, rfl, rfl, rfl, rfl, trivial⟩
            · exact ⟨hX, by rw [hF, List.append_assoc] at hB1; exact hB1, Nat.zero_le _⟩
            · rintro j σ wr hF
              obtain ⟨hX, hB1, hj⟩ : (Ext w wr) ∧ (Blk wr g1 57 (rcell ((l.drop j).flatMap textP ++ (H ++ more)) 0)) ∧ (j ≤ l.length) := hF
              show Code.wp _ _ _ (act 110 [(0, true, .slice A l.length ca), (1, true, .slice B b.length cb), (2, true, .string (ofL more)), (10, true, .pointer (some ⟨g1, 0, none⟩)), (11, true, .int .i64 (j : Int))] _) _
              refine wp_seq ?_
              refine wp_seq ?_
              refine region_s ?_
              refine q_look (look_move rfl rfl) ?_
              refine q_look (look_move rfl rfl) ?_
              refine q_look (look_len_slice Try.underlying38 rfl rfl) ?_
              refine q_look (look_lss rfl rfl rfl rfl) ?_
              refine q_nil ?_
              rintro _ rfl
              refine then_normal ?_
              refine cond_split rfl (fun hc69 => ?_) (fun hc69 => ?_)
              · have hlt : j < l.length := by have := nn_t hc69; omega
                obtain ⟨y, hy⟩ := get_lt hlt
                obtain ⟨b1, o1, rfl, h1⟩ := (hA.ext hX).at_ hlt
                have hy3 := h3 y (mem_get hy)
                have hfl2 := flat_len textP 309 (l.drop (j + 1)) (fun y hy => text_len (h3 y (List.mem_of_mem_drop hy)))
                rw [List.length_drop] at hfl2
                have hyl := text_len hy3
                rw [flat_drop textP hy, List.append_assoc] at hB1
                obtain ⟨G, hG⟩ : ∃ G, G = (l.drop (j + 1)).flatMap textP ++ (H ++ more) := ⟨_, rfl⟩
                have hGl : G.length ≤ 50000 := by rw [hG, List.length_append, List.length_append]; omega
                rw [← hG] at hB1
                have hr := text_head (t := y) (by omega) G
                have hrd : (textP y ++ G).drop (textP y).length = G := List.drop_left
                refine wp_skip ?_
                refine then_normal ?_
                refine wp_seq ?_
                refine wp_block ?_
                refine wp_seq ?_
                refine region_h (fun W => Ext w W) [(0, true), (1, true), (2, true), (3, true), (4, true), (5, true), (7, true), (8, true), (9, true), (10, true), (6, false), (11, true)] mixed (by kernel_rfl) rfl (by kernel_rfl) (by repeat (first | exact pk_body | refine pk_then ?_ | refine pk_block ?_)) ?_
                intro u2 hR2
                replace hX := hX.comp hR2
                replace hB1 := hB1.ext hR2
                refine ⟨hX, ?_⟩
                refine h_look rfl (look_move rfl rfl) ?_
                refine h_look rfl (look_move rfl rfl) ?_
                refine h_look rfl (look_move rfl rfl) ?_
                refine h_look rfl (look_indexAddr _ Try.underlying38 szTry_9 rfl rfl rfl rfl rfl (by omega)) ?_
                refine h_look rfl (look_load1 Try.underlying9 rfl rfl rfl (fun w' hS => ((hA.ext hS).rd j y hy) 0 _ rfl)) ?_
                refine h_look rfl (Look.as (look_len_string Try.underlying9 rfl rfl) (by rw [ofL_size]) (v' := .int .i64 (y.length : Int))) ?_
                refine h_look rfl (look_move rfl rfl) ?_
                refine h_look rfl (look_move rfl rfl) ?_
                refine h_look rfl (look_indexAddr _ Try.underlying38 szTry_9 rfl rfl rfl rfl rfl (by omega)) ?_
                refine h_look rfl (look_load1 Try.underlying9 rfl rfl rfl (fun w' hS => ((hA.ext hS).rd j y hy) 0 _ rfl)) ?_
                refine h_seq rfl ?_ hX
                refine s_call (vs := [_, _]) enTry_26 ⟨⟨_, rfl, rfl⟩, ⟨_, rfl, rfl⟩, trivial⟩ ((by have := text_reads g1 (textP y ++ G) 0 (y.length : Int) _ hB1 (by rw [List.length_append]; omega) (by unfold I64; omega); rw [hr] at this; simp only [hrd] at this; exact this)) ?_
                rintro _ u3 ⟨rfl, hm3, hT3⟩
                refine ⟨_, rfl, ?_⟩
                replace hX := hX.mut hm3 (by omega)
                clear hB1
                have hB1 := hT3
                refine s_nil ?_
                refine then_normal ?_
                refine ⟨hX, ?_⟩
                refine h_look rfl (look_neq_str rfl rfl rfl rfl) ?_
                refine h_nil ?_
                rw [hG] at hB1
                refine then_normal ?_
                refine cond_false rfl (by simp) ?_
                refine wp_skip ?_
                refine inB_normal ?_
                refine then_normal ?_
                refine region_s ?_
                refine q_look (look_move rfl rfl) ?_
                refine q_look (look_add rfl rfl rfl rfl (by have := maxLen_is; unfold I64; omega)) ?_
                refine q_look (look_assign rfl rfl) ?_
                refine q_nil ?_
                rintro _ rfl
                exact loop_end (j + 1) (by omega) ⟨rfl, rfl, rfl, rfl, rfl, trivial⟩ ⟨hX, hB1, by omega⟩
              · obtain rfl : j = l.length := by have := nn_f hc69; omega
                rw [List.drop_length] at hB1
                change Blk _ g1 57 (rcell (H ++ more) 0) at hB1
                refine wp_exit ?_
                refine then_exit ?_
                refine then_exit ?_
                refine inB_exit_same ?_
                refine then_normal ?_
                refine wp_seq ?_
                refine wp_seq ?_
                refine region_s ?_
                refine q_look (look_assign rfl rfl) ?_
                refine q_nil ?_
                rintro _ rfl
                refine then_normal ?_
                refine wp_block ?_
                refine loop_act (fun (j2 : Nat) => [(0, .slice A l.length ca), (1, .slice B b.length cb), (2, .string (ofL more)), (10, .pointer (some ⟨g1, 0, none⟩)), (12, .int .i64 (j2 : Int))]) (fun j2 w' => (Ext w w') ∧ (Blk w' g1 57 (rcell ((b.drop j2).flatMap boolP ++ more) 0)) ∧ (j2 ≤ b.length)) (fun j2 => b.length - j2) (0) ?_ ?_ ?_
                · exact ⟨rfl, rfl, rfl, rfl, rfl, trivial⟩
                · exact ⟨hX, by rw [hH] at hB1; exact hB1, Nat.zero_le _⟩
                · rintro j2 σ wr hF
                  obtain ⟨hX, hB1, hj2⟩ : (Ext w wr) ∧ (Blk wr g1 57 (rcell ((b.drop j2).flatMap boolP ++ more) 0)) ∧ (j2 ≤ b.length) := hF
                  show Code.wp _ _ _ (act 110 [(0, true, .slice A l.length ca), (1, true, .slice B b.length cb), (2, true, .string (ofL more)), (10, true, .pointer (some ⟨g1, 0, none⟩)), (12, true, .int .i64 (j2 : Int))] _) _
                  refine wp_seq ?_
                  refine wp_seq ?_
                  refine region_s ?_
                  refine q_look (look_move rfl rfl) ?_
                  refine q_look (look_move rfl rfl) ?_
                  refine q_look (look_len_slice Try.underlying39 rfl rfl) ?_
                  refine q_look (look_lss rfl rfl rfl rfl) ?_
                  refine q_nil ?_
                  rintro _ rfl
                  refine then_normal ?_
                  refine cond_split rfl (fun hc87 => ?_) (fun hc87 => ?_)
                  · have hlt : j2 < b.length := by have := nn_t hc87; omega
                    obtain ⟨u, hu⟩ := get_lt hlt
                    obtain ⟨b2, o2, rfl, h2⟩ := (hC.ext hX).at_ hlt
                    rw [flat_drop boolP hu, List.append_assoc] at hB1
                    obtain ⟨G, hG⟩ : ∃ G, G = (b.drop (j2 + 1)).flatMap boolP ++ more := ⟨_, rfl⟩
                    rw [← hG] at hB1
                    have hr := bool_head u G
                    have hrd : (boolP u ++ G).drop 1 = G := by cases u <;> rfl
                    refine wp_skip ?_
                    refine then_normal ?_
                    refine wp_seq ?_
                    refine wp_block ?_
                    refine wp_seq ?_
                    refine region_h (fun W => Ext w W) [(0, true), (2, true), (3, true), (4, true), (5, true), (1, false), (6, true)] mixed (by kernel_rfl) rfl (by kernel_rfl) (by repeat (first | exact pk_body | refine pk_then ?_ | refine pk_block ?_)) ?_
                    intro u4 hR4
                    replace hX := hX.comp hR4
                    replace hB1 := hB1.ext hR4
                    refine ⟨hX, ?_⟩
                    refine h_look rfl (look_move rfl rfl) ?_
                    refine h_look rfl (look_move rfl rfl) ?_
                    refine h_look rfl (look_move rfl rfl) ?_
                    refine h_look rfl (look_indexAddr _ Try.underlying39 szTry_4 rfl rfl rfl rfl rfl (by omega)) ?_
                    refine h_look rfl (look_load1 Try.underlying4 rfl rfl rfl (fun w' hS => ((hC.ext hS).rd j2 u hu) 0 _ rfl)) ?_
                    refine h_seq rfl ?_ hX
                    refine s_call (vs := [_]) enTry_27 ⟨⟨_, rfl, rfl⟩, trivial⟩ ((by have := bool_reads g1 (boolP u ++ G) 0 _ hB1; rw [hr] at this; simp only [hrd] at this; exact this)) ?_
                    rintro _ u5 ⟨rfl, hm5, hT5⟩
                    refine ⟨_, rfl, ?_⟩
                    replace hX := hX.mut hm5 (by omega)
                    clear hB1
                    have hB1 := hT5
                    refine s_nil ?_
                    refine then_normal ?_
                    refine ⟨hX, ?_⟩
                    refine h_look rfl (look_neq_bool Try.underlying4 rfl rfl rfl rfl) ?_
                    refine h_nil ?_
                    rw [hG] at hB1
                    refine then_normal ?_
                    refine cond_false rfl (by simp) ?_
                    refine wp_skip ?_
                    refine inB_normal ?_
                    refine then_normal ?_
                    refine region_s ?_
                    refine q_look (look_move rfl rfl) ?_
                    refine q_look (look_add rfl rfl rfl rfl (by have := maxLen_is; unfold I64; omega)) ?_
                    refine q_look (look_assign rfl rfl) ?_
                    refine q_nil ?_
                    rintro _ rfl
                    exact loop_end (j2 + 1) (by omega) ⟨rfl, rfl, rfl, rfl, rfl, trivial⟩ ⟨hX, hB1, by omega⟩
                  · obtain rfl : j2 = b.length := by have := nn_f hc87; omega
                    rw [List.drop_length] at hB1
                    change Blk _ g1 57 (rcell more 0) at hB1
                    refine wp_exit ?_
                    refine then_exit ?_
                    refine then_exit ?_
                    refine inB_exit_same ?_
                    refine then_normal ?_
                    refine wp_seq ?_
                    refine region_q ?_
                    refine q_look (look_move rfl rfl) ?_
                    refine q_call (vs := [_]) enTry_23 ⟨⟨_, rfl, rfl⟩, trivial⟩ (fun wc hw => cext hw (err_any g1 more 0 wc (hB1.ext hw))) ?_
                    refine q_look (look_eql rfl rfl rfl rfl) ?_
                    refine q_look (look_move rfl rfl) ?_
                    refine q_lookg rfl rfl rfl (fun hq => look_move rfl rfl) ?_
                    refine q_callg (vs := [_]) rfl rfl rfl enTry_24 (fun hq => ⟨⟨_, rfl, hq⟩, trivial⟩) (fun hq wc hw => cext hw (left_any g1 more 0 wc (hB1.ext hw))) ?_
                    refine q_lookg rfl rfl rfl (fun hq => look_move rfl rfl) ?_
                    refine q_lookg rfl rfl rfl (fun hq => Look.as (look_len_string Try.underlying9 rfl hq) (by rw [ofL_size]) (v' := .int .i64 (more.length : Int))) ?_
                    refine q_lookg rfl rfl rfl (fun hq => look_eql rfl hq rfl hq) ?_
                    refine q_look (look_and rfl rfl rfl rfl) ?_
                    refine q_look (look_move rfl rfl) ?_
                    refine q_callg (vs := []) rfl rfl rfl enTry_11 (fun hq => trivial) (fun hq wc hw => cext hw (awake_any wc)) ?_
                    refine q_look (look_and rfl rfl rfl rfl) ?_
                    refine q_look (look_assign rfl rfl) ?_
                    refine q_nil ?_
                    intro w5 hw5
                    replace hX := hX.comp hw5
                    replace hB1 := hB1.ext hw5
                    refine then_normal ?_
                    refine wp_ret ?_
                    exact res1 Try.results6 rfl ⟨ret_bool (by simp), hX⟩

end Go.Proofs.Ytcneinajeapbhaa
