/- The walks of chapter 05 (cbor), seventh part: awake, and the laws on encodings, on a nil reader and on what is read once. -/
import Derived.Test.YtcneinajeapbhaaF
namespace Go.Proofs.Ytcneinajeapbhaa
open Go Go.RowKit Core
set_option linter.unusedVariables false
set_option linter.unusedSimpArgs false
attribute [local irreducible] wpQuiet wpList wpH wpT Code.wp Calls bodyPost act

instance (n : Int) : Decidable (I64 n) := inferInstanceAs (Decidable (_ ∧ _))
theorem awake_any  (w : World)  :
    Calls Try.prog 11 #[] w fun e w' => e = .returned (.bool (true)) ∧ Ext w w' := by
  refine calls_act Try.func11 rfl Try.ntmps11 rfl rfl ?_
  show Code.wp _ _ _ (act 63 [] _) _
  have hX : Ext w w := Ext.rfl' w
  refine wp_seq ?_
  refine region_s ?_
  refine q_look (look_assign rfl rfl) ?_
  refine q_nil ?_
  rintro _ rfl
  refine then_normal ?_
  refine wp_seq ?_
  refine wp_region_lit ?_
  refine s_call (vs := [_]) enTry_20 ⟨⟨_, rfl, rfl⟩, trivial⟩ (new_any [24, 23] _) ?_
  rintro _ u1 ⟨g1, rfl, hu1, hB1, hg1⟩
  refine ⟨_, rfl, ?_⟩
  have ge_g1 : w.heap.size ≤ g1 := by have := hX.size; omega
  replace hX := hX.comp hu1
  refine s_look (look_assign rfl rfl) ?_
  refine s_nil ?_
  refine then_normal ?_
  refine wp_seq ?_
  refine wp_region_lit ?_
  refine s_call (vs := [_]) enTry_20 ⟨⟨_, rfl, rfl⟩, trivial⟩ (new_any [1] _) ?_
  rintro _ u2 ⟨g2, rfl, hu2, hB2, hg2⟩
  refine ⟨_, rfl, ?_⟩
  have lt_g1_g2 : g1 < g2 := by have := hB1.lt; omega
  have ge_g2 : w.heap.size ≤ g2 := by have := hX.size; omega
  replace hX := hX.comp hu2
  replace hB1 := hB1.ext hu2
  refine s_look (look_assign rfl rfl) ?_
  refine s_nil ?_
  refine then_normal ?_
  refine wp_seq ?_
  refine wp_seq ?_
  refine region_s ?_
  refine q_look (look_move rfl rfl) ?_
  refine q_look (look_eql_nil Try.underlying28 rfl rfl rfl rfl) ?_
  refine q_look (look_move rfl rfl) ?_
  refine q_lookg rfl rfl rfl (fun hq => look_move rfl rfl) ?_
  refine q_lookg rfl rfl rfl (fun hq => look_eql_nil Try.underlying28 rfl hq rfl rfl) ?_
  refine q_look (look_or rfl rfl rfl rfl) ?_
  refine q_nil ?_
  rintro _ rfl
  refine then_normal ?_
  refine cond_false rfl rfl ?_
  refine wp_skip ?_
  refine then_normal ?_
  refine wp_seq ?_
  refine wp_region_lit ?_
  refine s_look (look_move rfl rfl) ?_
  refine s_call (vs := [_, _, _]) enTry_22 ⟨⟨_, rfl, rfl⟩, ⟨_, rfl, rfl⟩, ⟨_, rfl, rfl⟩, trivial⟩ (int_reads g1 [24, 23] 0 0 99 _ hB1 (by decide)) ?_
  rintro _ u3 ⟨rfl, hm3, hT3⟩
  refine ⟨_, rfl, ?_⟩
  replace hX := hX.mut hm3 (by omega)
  replace hB2 := hB2.mut hm3 (by omega)
  clear hB1
  have hB1 := hT3
  refine s_look (look_move rfl rfl) ?_
  refine s_call (vs := [_, _, _]) enTry_22 ⟨⟨_, rfl, rfl⟩, ⟨_, rfl, rfl⟩, ⟨_, rfl, rfl⟩, trivial⟩ (int_reads g2 [1] 0 0 9 _ hB2 (by decide)) ?_
  rintro _ u4 ⟨rfl, hm4, hT4⟩
  refine ⟨_, rfl, ?_⟩
  replace hX := hX.mut hm4 (by omega)
  replace hB1 := hB1.mut hm4 (by omega)
  clear hB2
  have hB2 := hT4
  refine s_look (look_assign rfl rfl) ?_
  refine s_look (look_assign rfl rfl) ?_
  refine s_nil ?_
  refine then_normal ?_
  refine wp_seq ?_
  refine region_q ?_
  refine q_call (vs := [_]) enTry_12 ⟨⟨_, rfl, rfl⟩, trivial⟩ (fun wc hw => cext hw (int_any 24 wc (by decide))) ?_
  refine q_look (look_eql_str rfl rfl rfl rfl) ?_
  refine q_look (look_move rfl rfl) ?_
  refine q_callg (vs := [_]) rfl rfl rfl enTry_12 (fun hq => ⟨⟨_, rfl, rfl⟩, trivial⟩) (fun hq wc hw => cext hw (int_any (-1) wc (by decide))) ?_
  refine q_lookg rfl rfl rfl (fun hq => look_eql_str rfl hq rfl rfl) ?_
  refine q_look (look_and rfl rfl rfl rfl) ?_
  refine q_look (look_move rfl rfl) ?_
  refine q_callg (vs := [_]) rfl rfl rfl enTry_14 (fun hq => ⟨⟨_, rfl, rfl⟩, trivial⟩) (fun hq wc hw => cext hw (text_any [97] wc (by decide))) ?_
  refine q_lookg rfl rfl rfl (fun hq => look_eql_str rfl hq rfl rfl) ?_
  refine q_look (look_and rfl rfl rfl rfl) ?_
  refine q_look (look_move rfl rfl) ?_
  refine q_callg (vs := [_]) rfl rfl rfl enTry_18 (fun hq => ⟨⟨_, rfl, rfl⟩, trivial⟩) (fun hq wc hw => cext hw (list_any 3 wc (by decide))) ?_
  refine q_lookg rfl rfl rfl (fun hq => look_eql_str rfl hq rfl rfl) ?_
  refine q_look (look_and rfl rfl rfl rfl) ?_
  refine q_look (look_move rfl rfl) ?_
  refine q_callg (vs := [_]) rfl rfl rfl enTry_16 (fun hq => ⟨⟨_, rfl, rfl⟩, trivial⟩) (fun hq wc hw => cext hw (bool_any true wc)) ?_
  refine q_lookg rfl rfl rfl (fun hq => look_eql_str rfl hq rfl rfl) ?_
  refine q_look (look_and rfl rfl rfl rfl) ?_
  refine q_look (look_move rfl rfl) ?_
  refine q_lookg rfl rfl rfl (fun hq => look_move rfl rfl) ?_
  refine q_lookg rfl rfl rfl (fun hq => look_eql rfl hq rfl rfl) ?_
  refine q_look (look_and rfl rfl rfl rfl) ?_
  refine q_look (look_move rfl rfl) ?_
  refine q_lookg rfl rfl rfl (fun hq => look_move rfl rfl) ?_
  refine q_callg (vs := [_]) rfl rfl rfl enTry_23 (fun hq => ⟨⟨_, rfl, hq⟩, trivial⟩) (fun hq wc hw => cext hw (err_any g1 _ _ wc (hB1.ext hw))) ?_
  refine q_lookg rfl rfl rfl (fun hq => look_eql rfl hq rfl rfl) ?_
  refine q_look (look_and rfl rfl rfl rfl) ?_
  refine q_look (look_move rfl rfl) ?_
  refine q_lookg rfl rfl rfl (fun hq => look_move rfl rfl) ?_
  refine q_callg (vs := [_]) rfl rfl rfl enTry_24 (fun hq => ⟨⟨_, rfl, hq⟩, trivial⟩) (fun hq wc hw => cext hw (left_any g1 _ _ wc (hB1.ext hw))) ?_
  refine q_lookg rfl rfl rfl (fun hq => look_eql rfl hq rfl rfl) ?_
  refine q_look (look_and rfl rfl rfl rfl) ?_
  refine q_look (look_move rfl rfl) ?_
  refine q_lookg rfl rfl rfl (fun hq => look_move rfl rfl) ?_
  refine q_lookg rfl rfl rfl (fun hq => look_eql rfl hq rfl rfl) ?_
  refine q_look (look_and rfl rfl rfl rfl) ?_
  refine q_look (look_move rfl rfl) ?_
  refine q_lookg rfl rfl rfl (fun hq => look_move rfl rfl) ?_
  refine q_callg (vs := [_]) rfl rfl rfl enTry_24 (fun hq => ⟨⟨_, rfl, hq⟩, trivial⟩) (fun hq wc hw => cext hw (left_any g2 _ _ wc (hB2.ext hw))) ?_
  refine q_lookg rfl rfl rfl (fun hq => look_eql rfl hq rfl rfl) ?_
  refine q_look (look_and rfl rfl rfl rfl) ?_
  refine q_look (look_move rfl rfl) ?_
  refine q_lookg rfl rfl rfl (fun hq => look_move rfl rfl) ?_
  refine q_callg (vs := [_]) rfl rfl rfl enTry_25 (fun hq => ⟨⟨_, rfl, hq⟩, trivial⟩) (fun hq wc hw => cext hw (end_any g2 _ _ wc (hB2.ext hw))) ?_
  refine q_lookg rfl rfl rfl (fun hq => look_eql rfl hq rfl rfl) ?_
  refine q_look (look_and rfl rfl rfl rfl) ?_
  refine q_look (look_assign rfl rfl) ?_
  refine q_nil ?_
  intro w1 hw1
  replace hX := hX.comp hw1
  replace hB1 := hB1.ext hw1
  replace hB2 := hB2.ext hw1
  refine then_normal ?_
  refine wp_ret ?_
  exact res1 Try.results11 rfl ⟨ret_bool (by kernel_rfl), hX⟩

theorem law_puts (n : Int) (t : List UInt8) (b : Bool) (w : World) (hn : I64 n) :
    Calls Try.prog 3 #[.int .i64 n, .string (ofL t), .bool b] w fun e w' => e = .returned (.bool (true)) ∧ Ext w w' := by
  refine calls_act Try.func3 rfl Try.ntmps3 rfl rfl ?_
  show Code.wp _ _ _ (act 40 [(0, true, .int .i64 n), (1, true, .string (ofL t)), (2, true, .bool b)] _) _
  have hX : Ext w w := Ext.rfl' w
  refine wp_seq ?_
  refine region_s ?_
  refine q_look (look_assign rfl rfl) ?_
  refine q_nil ?_
  rintro _ rfl
  refine then_normal ?_
  refine wp_seq ?_
  refine wp_seq ?_
  refine region_s ?_
  refine q_look (look_move rfl rfl) ?_
  refine q_look (Look.as (look_len_string Try.underlying9 rfl rfl) (by rw [ofL_size]) (v' := .int .i64 (t.length : Int))) ?_
  refine q_look (look_gtr rfl rfl rfl rfl) ?_
  refine q_nil ?_
  rintro _ rfl
  refine then_normal ?_
  refine cond_split rfl (fun hc9 => ?_) (fun hc9 => ?_)
  · simp only [Bool.and_eq_true, Bool.or_eq_true, Bool.not_eq_true', decide_eq_true_eq, decide_eq_false_iff_not] at hc9
    refine wp_seq ?_
    refine region_q ?_
    refine q_call (vs := []) enTry_11 trivial (fun wc hw => cext hw (awake_any wc)) ?_
    refine q_look (look_assign rfl rfl) ?_
    refine q_nil ?_
    intro w1 hw1
    replace hX := hX.comp hw1
    refine then_normal ?_
    refine wp_ret ?_
    refine then_ret ?_
    exact res1 Try.results3 rfl ⟨rfl, hX⟩
  · have ht : t.length ≤ 1000000 := by have := nn_f hc9; omega
    refine wp_skip ?_
    refine then_normal ?_
    refine wp_seq ?_
    refine region_q ?_
    refine q_look (look_move rfl rfl) ?_
    refine q_call (vs := [_]) enTry_12 ⟨⟨_, rfl, rfl⟩, trivial⟩ (fun wc hw => cext hw (int_any n wc hn)) ?_
    refine q_look (look_move rfl rfl) ?_
    refine q_call (vs := [_]) enTry_13 ⟨⟨_, rfl, rfl⟩, trivial⟩ (fun wc hw => cext hw (refint_any n wc hn)) ?_
    refine q_look (look_eql_str rfl rfl rfl rfl) ?_
    refine q_look (look_move rfl rfl) ?_
    refine q_lookg rfl rfl rfl (fun hq => look_move rfl rfl) ?_
    refine q_callg (vs := [_]) rfl rfl rfl enTry_14 (fun hq => ⟨⟨_, rfl, hq⟩, trivial⟩) (fun hq wc hw => cext hw (text_any t wc ht)) ?_
    refine q_lookg rfl rfl rfl (fun hq => look_move rfl rfl) ?_
    refine q_callg (vs := [_]) rfl rfl rfl enTry_15 (fun hq => ⟨⟨_, rfl, hq⟩, trivial⟩) (fun hq wc hw => cext hw (reftext_any t wc ht)) ?_
    refine q_lookg rfl rfl rfl (fun hq => look_eql_str rfl hq rfl hq) ?_
    refine q_look (look_and rfl rfl rfl rfl) ?_
    refine q_look (look_move rfl rfl) ?_
    refine q_lookg rfl rfl rfl (fun hq => look_move rfl rfl) ?_
    refine q_callg (vs := [_]) rfl rfl rfl enTry_16 (fun hq => ⟨⟨_, rfl, hq⟩, trivial⟩) (fun hq wc hw => cext hw (bool_any b wc)) ?_
    refine q_lookg rfl rfl rfl (fun hq => look_move rfl rfl) ?_
    refine q_callg (vs := [_]) rfl rfl rfl enTry_17 (fun hq => ⟨⟨_, rfl, hq⟩, trivial⟩) (fun hq wc hw => cext hw (refbool_any b wc)) ?_
    refine q_lookg rfl rfl rfl (fun hq => look_eql_str rfl hq rfl hq) ?_
    refine q_look (look_and rfl rfl rfl rfl) ?_
    refine q_look (look_move rfl rfl) ?_
    refine q_lookg rfl rfl rfl (fun hq => look_move rfl rfl) ?_
    refine q_callg (vs := [_]) rfl rfl rfl enTry_18 (fun hq => ⟨⟨_, rfl, hq⟩, trivial⟩) (fun hq wc hw => cext hw (list_any n wc hn)) ?_
    refine q_lookg rfl rfl rfl (fun hq => look_move rfl rfl) ?_
    refine q_callg (vs := [_]) rfl rfl rfl enTry_19 (fun hq => ⟨⟨_, rfl, hq⟩, trivial⟩) (fun hq wc hw => cext hw (reflist_any n wc hn)) ?_
    refine q_lookg rfl rfl rfl (fun hq => look_eql_str rfl hq rfl hq) ?_
    refine q_look (look_and rfl rfl rfl rfl) ?_
    refine q_look (look_move rfl rfl) ?_
    refine q_callg (vs := []) rfl rfl rfl enTry_11 (fun hq => trivial) (fun hq wc hw => cext hw (awake_any wc)) ?_
    refine q_look (look_and rfl rfl rfl rfl) ?_
    refine q_look (look_assign rfl rfl) ?_
    refine q_nil ?_
    intro w2 hw2
    replace hX := hX.comp hw2
    refine then_normal ?_
    refine wp_ret ?_
    exact res1 Try.results3 rfl ⟨ret_bool (by simp), hX⟩

theorem law_nil (d lo hi : Int) (w : World)  :
    Calls Try.prog 10 #[.agg #[.int .i64 d, .int .i64 lo, .int .i64 hi]] w fun e w' => e = .returned (.bool (true)) ∧ Ext w w' := by
  refine calls_act Try.func10 rfl Try.ntmps10 rfl rfl ?_
  show Code.wp _ _ _ (act 48 [(0, true, .agg #[.int .i64 d, .int .i64 lo, .int .i64 hi])] _) _
  have hX : Ext w w := Ext.rfl' w
  refine wp_seq ?_
  refine wp_region_lit ?_
  refine s_box rfl ?_
  intro g1 u1 hu1 hB1 hg1 hs1
  replace hB1 : Blk u1 g1 45 ([.int .i64 d, .int .i64 lo, .int .i64 hi]) := hB1
  have ge_g1 : w.heap.size ≤ g1 := by have := hX.size; omega
  replace hX := hX.comp hu1
  refine s_look (look_assign rfl rfl) ?_
  refine s_nil ?_
  refine then_normal ?_
  refine wp_seq ?_
  refine region_s ?_
  refine q_look (look_assign rfl rfl) ?_
  refine q_nil ?_
  rintro _ rfl
  refine then_normal ?_
  refine wp_seq ?_
  refine region_q ?_
  refine q_look (look_move rfl rfl) ?_
  refine q_look (look_fieldAddr Try.underlying45 rfl (fun _ _ => rfl) rfl rfl) ?_
  refine q_look (look_load1 Try.underlying3 rfl rfl rfl (ext_cell (hB1.cell rfl))) ?_
  refine q_look (look_fieldAddr Try.underlying45 rfl (fun _ _ => rfl) rfl rfl) ?_
  refine q_look (look_load1 Try.underlying3 rfl rfl rfl (ext_cell (hB1.cell rfl))) ?_
  refine q_call (vs := [_, _, _]) enTry_22 ⟨⟨_, rfl, rfl⟩, ⟨_, rfl, rfl⟩, ⟨_, rfl, rfl⟩, trivial⟩ (fun wc hw => cext hw (int_nil lo hi wc)) ?_
  refine q_look (look_eql rfl rfl rfl rfl) ?_
  refine q_look (look_move rfl rfl) ?_
  refine q_lookg rfl rfl rfl (fun hq => look_move rfl rfl) ?_
  refine q_lookg rfl rfl rfl (fun hq => look_fieldAddr Try.underlying45 rfl (fun _ _ => rfl) rfl rfl) ?_
  refine q_lookg rfl rfl rfl (fun hq => look_load1 Try.underlying3 rfl rfl hq (ext_cell (hB1.cell rfl))) ?_
  refine q_callg (vs := [_, _]) rfl rfl rfl enTry_26 (fun hq => ⟨⟨_, rfl, hq⟩, ⟨_, rfl, hq⟩, trivial⟩) (fun hq wc hw => cext hw (text_nil hi wc)) ?_
  refine q_lookg rfl rfl rfl (fun hq => look_eql_str rfl hq rfl rfl) ?_
  refine q_look (look_and rfl rfl rfl rfl) ?_
  refine q_look (look_move rfl rfl) ?_
  refine q_lookg rfl rfl rfl (fun hq => look_move rfl rfl) ?_
  refine q_callg (vs := [_]) rfl rfl rfl enTry_27 (fun hq => ⟨⟨_, rfl, hq⟩, trivial⟩) (fun hq wc hw => cext hw (bool_nil wc)) ?_
  refine q_lookg rfl rfl rfl (fun hq => look_not rfl hq) ?_
  refine q_look (look_and rfl rfl rfl rfl) ?_
  refine q_look (look_move rfl rfl) ?_
  refine q_lookg rfl rfl rfl (fun hq => look_move rfl rfl) ?_
  refine q_lookg rfl rfl rfl (fun hq => look_fieldAddr Try.underlying45 rfl (fun _ _ => rfl) rfl rfl) ?_
  refine q_lookg rfl rfl rfl (fun hq => look_load1 Try.underlying3 rfl rfl hq (ext_cell (hB1.cell rfl))) ?_
  refine q_callg (vs := [_, _]) rfl rfl rfl enTry_21 (fun hq => ⟨⟨_, rfl, hq⟩, ⟨_, rfl, hq⟩, trivial⟩) (fun hq wc hw => cext hw (list_nil hi wc)) ?_
  refine q_lookg rfl rfl rfl (fun hq => look_eql rfl hq rfl rfl) ?_
  refine q_look (look_and rfl rfl rfl rfl) ?_
  refine q_look (look_move rfl rfl) ?_
  refine q_lookg rfl rfl rfl (fun hq => look_move rfl rfl) ?_
  refine q_callg (vs := [_]) rfl rfl rfl enTry_24 (fun hq => ⟨⟨_, rfl, hq⟩, trivial⟩) (fun hq wc hw => cext hw (left_nil wc)) ?_
  refine q_lookg rfl rfl rfl (fun hq => look_eql rfl hq rfl rfl) ?_
  refine q_look (look_and rfl rfl rfl rfl) ?_
  refine q_look (look_move rfl rfl) ?_
  refine q_lookg rfl rfl rfl (fun hq => look_move rfl rfl) ?_
  refine q_callg (vs := [_]) rfl rfl rfl enTry_23 (fun hq => ⟨⟨_, rfl, hq⟩, trivial⟩) (fun hq wc hw => cext hw (err_nil wc)) ?_
  refine q_lookg rfl rfl rfl (fun hq => look_eql rfl hq rfl rfl) ?_
  refine q_look (look_and rfl rfl rfl rfl) ?_
  refine q_look (look_move rfl rfl) ?_
  refine q_lookg rfl rfl rfl (fun hq => look_move rfl rfl) ?_
  refine q_callg (vs := [_]) rfl rfl rfl enTry_25 (fun hq => ⟨⟨_, rfl, hq⟩, trivial⟩) (fun hq wc hw => cext hw (end_nil wc)) ?_
  refine q_lookg rfl rfl rfl (fun hq => look_eql rfl hq rfl rfl) ?_
  refine q_look (look_and rfl rfl rfl rfl) ?_
  refine q_look (look_move rfl rfl) ?_
  refine q_callg (vs := []) rfl rfl rfl enTry_11 (fun hq => trivial) (fun hq wc hw => cext hw (awake_any wc)) ?_
  refine q_look (look_and rfl rfl rfl rfl) ?_
  refine q_look (look_assign rfl rfl) ?_
  refine q_nil ?_
  intro w1 hw1
  replace hX := hX.comp hw1
  replace hB1 := hB1.ext hw1
  refine then_normal ?_
  refine wp_ret ?_
  exact res1 Try.results10 rfl ⟨ret_bool (by kernel_rfl), hX⟩

theorem once_any (g : Nat) (s y : List UInt8) (c : Nat) (e0 : Int) (w : World) (hB : Blk w g 57 (rcell (s.drop c) e0)) (hc : c ≤ s.length) (hs : s.length ≤ 1000000) (hn : ¬ e0 = 0 → c = 0) (h0 : e0 = 0 → y = s.take c ∧ 1 ≤ c) :
    Calls Try.prog 36 #[.pointer (some ⟨g, 0, none⟩), .string (ofL s), .string (ofL y)] w fun e w' => e = .returned (.bool (true)) ∧ Ext w w' := by
  refine calls_act Try.func36 rfl Try.ntmps36 rfl rfl ?_
  show Code.wp _ _ _ (act 39 [(0, true, .pointer (some ⟨g, 0, none⟩)), (1, true, .string (ofL s)), (2, true, .string (ofL y))] _) _
  have hX : Ext w w := Ext.rfl' w
  refine wp_seq ?_
  refine region_s ?_
  refine q_look (look_assign rfl rfl) ?_
  refine q_nil ?_
  rintro _ rfl
  refine then_normal ?_
  refine wp_seq ?_
  refine region_q ?_
  refine q_look (look_move rfl rfl) ?_
  refine q_look (Look.as (look_len_string Try.underlying9 rfl rfl) (by rw [ofL_size]) (v' := .int .i64 (s.length : Int))) ?_
  refine q_look (look_move rfl rfl) ?_
  refine q_call (vs := [_]) enTry_24 ⟨⟨_, rfl, rfl⟩, trivial⟩ (fun wc hw => cext hw (left_any g _ _ wc (hB.ext hw))) ?_
  refine q_look (look_sub rfl rfl rfl rfl (by unfold I64; rw [List.length_drop]; omega)) ?_
  refine q_look (look_assign rfl rfl) ?_
  refine q_nil ?_
  intro w1 hw1
  replace hX := hX.comp hw1
  replace hB := hB.ext hw1
  refine then_normal ?_
  refine wp_seq ?_
  refine wp_seq ?_
  refine region_q ?_
  refine q_look (look_move rfl rfl) ?_
  refine q_call (vs := [_]) enTry_23 ⟨⟨_, rfl, rfl⟩, trivial⟩ (fun wc hw => cext hw (err_any g _ _ wc (hB.ext hw))) ?_
  refine q_look (look_neq rfl rfl rfl rfl) ?_
  refine q_nil ?_
  intro w2 hw2
  replace hX := hX.comp hw2
  replace hB := hB.ext hw2
  refine then_normal ?_
  refine cond_split rfl (fun hc15 => ?_) (fun hc15 => ?_)
  · have h1 : ¬ e0 = 0 := nd_t hc15
    refine wp_seq ?_
    refine region_s ?_
    refine q_look (look_move rfl rfl) ?_
    refine q_look (look_eql rfl rfl rfl rfl) ?_
    refine q_look (look_assign rfl rfl) ?_
    refine q_nil ?_
    rintro _ rfl
    refine then_normal ?_
    refine wp_ret ?_
    refine then_ret ?_
    exact res1 Try.results36 rfl ⟨ret_bool (decide_eq_true (by rw [List.length_drop, hn h1]; omega)), hX⟩
  · have h1 : e0 = 0 := nd_f hc15
    obtain ⟨hb, hc2⟩ := h0 h1
    refine wp_skip ?_
    refine then_normal ?_
    refine wp_seq ?_
    refine region_s ?_
    refine q_look (look_move rfl rfl) ?_
    refine q_look (look_move rfl rfl) ?_
    refine q_look (Look.as (look_len_string Try.underlying9 rfl rfl) (by rw [ofL_size]) (v' := .int .i64 (y.length : Int))) ?_
    refine q_look (look_eql rfl rfl rfl rfl) ?_
    refine q_look (look_move rfl rfl) ?_
    refine q_lookg rfl rfl rfl (fun hq => look_move rfl rfl) ?_
    refine q_lookg rfl rfl rfl (fun hq => look_geq rfl hq rfl rfl) ?_
    refine q_look (look_and rfl rfl rfl rfl) ?_
    refine q_look (look_move rfl rfl) ?_
    refine q_lookg rfl rfl rfl (fun hq => look_move rfl rfl) ?_
    refine q_lookg rfl rfl rfl (fun hq => look_move rfl rfl) ?_
    refine q_lookg rfl rfl rfl (fun hq => Look.as (look_len_string Try.underlying9 rfl hq) (by rw [ofL_size]) (v' := .int .i64 (s.length : Int))) ?_
    refine q_lookg rfl rfl rfl (fun hq => look_leq rfl hq rfl hq) ?_
    refine q_look (look_and rfl rfl rfl rfl) ?_
    refine q_look (look_move rfl rfl) ?_
    refine q_lookg rfl rfl rfl (fun hq => look_move rfl rfl) ?_
    refine q_lookg rfl rfl rfl (fun hq => look_move rfl rfl) ?_
    refine q_lookg rfl rfl rfl (fun hq => look_slice_str_h (hi := c) Try.underlying9 rfl hq rfl hq (by rw [List.length_drop]; omega) hc) ?_
    refine q_lookg rfl rfl rfl (fun hq => look_move rfl rfl) ?_
    refine q_lookg rfl rfl rfl (fun hq => look_eql_str rfl hq rfl hq) ?_
    refine q_look (look_and rfl rfl rfl rfl) ?_
    refine q_look (look_assign rfl rfl) ?_
    refine q_nil ?_
    rintro _ rfl
    refine then_normal ?_
    refine wp_ret ?_
    exact res1 Try.results36 rfl ⟨ret_bool (by rw [hb, List.length_drop, List.length_take, decide_eq_true (by omega), decide_eq_true (by omega), decide_eq_true (by omega), decide_eq_true rfl]; rfl), hX⟩


theorem int_once {s : List UInt8} {low high x e : Int} {c : Nat} (h : intR s 0 low high = (x, c, e)) : I64 x ∧ c ≤ s.length ∧ (¬ e = 0 → c = 0) ∧ (e = 0 → intP x = s.take c ∧ 1 ≤ c) := by
  obtain ⟨k, v, z, e', hp⟩ : ∃ k v z e, peekP s 0 1 = (k, v, z, e) := ⟨_, _, _, _, rfl⟩
  obtain ⟨hok, hv, hz0, hok2⟩ := peek_ok s 0 1 hp (by omega) (by omega)
  unfold U64 at hv
  unfold intR at h
  rw [if_pos rfl, hp] at h
  simp only [intQ] at h
  split at h
  · cases h; exact ⟨by unfold I64; omega, by omega, fun _ => rfl, fun h => by omega⟩
  · split at h
    · cases h; exact ⟨by unfold I64; omega, by omega, fun _ => rfl, fun h => by omega⟩
    · rename_i he hv3
      obtain ⟨hk, hz1, hz2, hz3⟩ := hok2 (by omega)
      obtain ⟨X, hX⟩ : ∃ X, X = if k = 1 then -1 - v else v := ⟨_, rfl⟩
      rw [← hX] at h
      split at h
      · cases h; exact ⟨by unfold I64; omega, by omega, fun _ => rfl, fun h => by omega⟩
      · cases h
        refine ⟨?_, by omega, fun h => absurd rfl h, fun _ => ⟨?_, by omega⟩⟩
        · rw [hX]; unfold I64; split <;> omega
        · rw [hz3, hX]
          rcases hk with rfl | rfl
          · rw [if_neg (by omega)]; unfold intP; rw [if_neg (by omega)]
          · rw [if_pos rfl]; unfold intP; rw [if_pos (by omega), show -1 - (-1 - v) = v by omega]
theorem count_once {s : List UInt8} {kd most x e : Int} {c : Nat} {fol : Bool} (hk : 0 ≤ kd ∧ kd ≤ 7) (h : countR s 0 kd most fol = (x, c, e)) : (¬ e = 0 → c = 0) ∧ (e = 0 → s.take c = headP kd x ∧ 1 ≤ c) := by
  obtain ⟨k, v, z, e', hp⟩ : ∃ k v z e, peekP s kd kd = (k, v, z, e) := ⟨_, _, _, _, rfl⟩
  obtain ⟨hok, hv, hz0, hok2⟩ := peek_ok s kd kd hp hk hk
  unfold countR at h
  rw [if_pos rfl, hp] at h
  simp only [countQ] at h
  split at h
  · cases h; exact ⟨fun _ => rfl, fun h => by omega⟩
  · split at h
    · cases h; exact ⟨fun _ => rfl, fun h => by omega⟩
    · split at h
      · cases h; exact ⟨fun _ => rfl, fun h => by omega⟩
      · cases h
        obtain ⟨hk, hz1, hz2, hz3⟩ := hok2 (by omega)
        obtain rfl : k = kd := by omega
        exact ⟨fun h => absurd rfl h, fun _ => ⟨hz3, by omega⟩⟩
theorem text_once {s t : List UInt8} {most e : Int} {c : Nat} (hm : I64 most) (h : textR s 0 most = (t, c, e)) : t.length ≤ s.length ∧ c ≤ s.length ∧ (¬ e = 0 → c = 0) ∧ (e = 0 → textP t = s.take c ∧ 1 ≤ c) := by
  obtain ⟨n, c0, e', hc⟩ : ∃ n c e, countR s 0 2 most true = (n, c, e) := ⟨_, _, _, rfl⟩
  obtain ⟨h1, h2, h3, h4, h5, h6⟩ := count_ok (by omega) hm hc
  obtain ⟨h7, h8⟩ := count_once (by omega) hc
  replace h4 := h4 rfl
  unfold textR at h
  rw [hc] at h
  cases h
  have hl : ((s.drop c0).take n.toNat).length = n.toNat := by rw [List.length_take, List.length_drop]; omega
  refine ⟨by rw [hl]; omega, by show c0 + n.toNat ≤ _; omega, fun h => by show c0 + n.toNat = 0; have := h6 h; omega, fun h => ⟨?_, by show 1 ≤ c0 + n.toNat; have := (h8 h).2; omega⟩⟩
  show textP ((s.drop c0).take n.toNat) = s.take (c0 + n.toNat)
  unfold textP
  rw [hl, List.take_add, (h8 h).1, show ((n.toNat : Nat) : Int) = n by omega]
theorem bool_once {s : List UInt8} {b : Bool} {e : Int} {c : Nat} (h : boolR s 0 = (b, c, e)) : c ≤ s.length ∧ (¬ e = 0 → c = 0) ∧ (e = 0 → boolP b = s.take c ∧ 1 ≤ c) := by
  unfold boolR at h
  rw [if_pos rfl] at h
  split at h
  · cases h; exact ⟨by omega, fun _ => rfl, fun h => by omega⟩
  · split at h
    · rename_i hb; cases h; exact ⟨by simp only [List.length_cons]; omega, fun h => absurd rfl h, fun _ => ⟨by rw [hb]; rfl, by omega⟩⟩
    · split at h
      · rename_i hb; cases h; exact ⟨by simp only [List.length_cons]; omega, fun h => absurd rfl h, fun _ => ⟨by rw [hb]; rfl, by omega⟩⟩
      · cases h; exact ⟨by omega, fun _ => rfl, fun h => by omega⟩

theorem law_once (s : List UInt8) (w : World)  :
    Calls Try.prog 8 #[.string (ofL s)] w fun e w' => e = .returned (.bool (true)) ∧ Ext w w' := by
  refine calls_act Try.func8 rfl Try.ntmps8 rfl rfl ?_
  show Code.wp _ _ _ (act 76 [(0, true, .string (ofL s))] _) _
  have hX : Ext w w := Ext.rfl' w
  refine wp_seq ?_
  refine region_s ?_
  refine q_look (look_assign rfl rfl) ?_
  refine q_nil ?_
  rintro _ rfl
  refine then_normal ?_
  refine wp_seq ?_
  refine wp_seq ?_
  refine region_s ?_
  refine q_look (look_move rfl rfl) ?_
  refine q_look (Look.as (look_len_string Try.underlying9 rfl rfl) (by rw [ofL_size]) (v' := .int .i64 (s.length : Int))) ?_
  refine q_look (look_gtr rfl rfl rfl rfl) ?_
  refine q_nil ?_
  rintro _ rfl
  refine then_normal ?_
  refine cond_split rfl (fun hc13 => ?_) (fun hc13 => ?_)
  · simp only [Bool.and_eq_true, Bool.or_eq_true, Bool.not_eq_true', decide_eq_true_eq, decide_eq_false_iff_not] at hc13
    refine wp_seq ?_
    refine region_q ?_
    refine q_call (vs := []) enTry_11 trivial (fun wc hw => cext hw (awake_any wc)) ?_
    refine q_look (look_assign rfl rfl) ?_
    refine q_nil ?_
    intro w1 hw1
    replace hX := hX.comp hw1
    refine then_normal ?_
    refine wp_ret ?_
    refine then_ret ?_
    exact res1 Try.results8 rfl ⟨rfl, hX⟩
  · have hs : s.length ≤ 2000 := by have := nn_f hc13; omega
    refine wp_skip ?_
    refine then_normal ?_
    refine wp_seq ?_
    refine wp_region_lit ?_
    refine s_look (look_move rfl rfl) ?_
    refine s_call (vs := [_]) enTry_20 ⟨⟨_, rfl, rfl⟩, trivial⟩ (new_any s _) ?_
    rintro _ u1 ⟨g1, rfl, hu1, hB1, hg1⟩
    refine ⟨_, rfl, ?_⟩
    have ge_g1 : w.heap.size ≤ g1 := by have := hX.size; omega
    replace hX := hX.comp hu1
    refine s_look (look_move rfl rfl) ?_
    refine s_call (vs := [_]) enTry_20 ⟨⟨_, rfl, rfl⟩, trivial⟩ (new_any s _) ?_
    rintro _ u2 ⟨g2, rfl, hu2, hB2, hg2⟩
    refine ⟨_, rfl, ?_⟩
    have lt_g1_g2 : g1 < g2 := by have := hB1.lt; omega
    have ge_g2 : w.heap.size ≤ g2 := by have := hX.size; omega
    replace hX := hX.comp hu2
    replace hB1 := hB1.ext hu2
    refine s_look (look_move rfl rfl) ?_
    refine s_call (vs := [_]) enTry_20 ⟨⟨_, rfl, rfl⟩, trivial⟩ (new_any s _) ?_
    rintro _ u3 ⟨g3, rfl, hu3, hB3, hg3⟩
    refine ⟨_, rfl, ?_⟩
    have lt_g1_g3 : g1 < g3 := by have := hB1.lt; omega
    have lt_g2_g3 : g2 < g3 := by have := hB2.lt; omega
    have ge_g3 : w.heap.size ≤ g3 := by have := hX.size; omega
    replace hX := hX.comp hu3
    replace hB1 := hB1.ext hu3
    replace hB2 := hB2.ext hu3
    refine s_look (look_move rfl rfl) ?_
    refine s_call (vs := [_]) enTry_20 ⟨⟨_, rfl, rfl⟩, trivial⟩ (new_any s _) ?_
    rintro _ u4 ⟨g4, rfl, hu4, hB4, hg4⟩
    refine ⟨_, rfl, ?_⟩
    have lt_g1_g4 : g1 < g4 := by have := hB1.lt; omega
    have lt_g2_g4 : g2 < g4 := by have := hB2.lt; omega
    have lt_g3_g4 : g3 < g4 := by have := hB3.lt; omega
    have ge_g4 : w.heap.size ≤ g4 := by have := hX.size; omega
    replace hX := hX.comp hu4
    replace hB1 := hB1.ext hu4
    replace hB2 := hB2.ext hu4
    replace hB3 := hB3.ext hu4
    refine s_look (look_assign rfl rfl) ?_
    refine s_look (look_assign rfl rfl) ?_
    refine s_look (look_assign rfl rfl) ?_
    refine s_look (look_assign rfl rfl) ?_
    refine s_nil ?_
    refine then_normal ?_
    refine wp_seq ?_
    refine wp_seq ?_
    refine region_s ?_
    refine q_look (look_move rfl rfl) ?_
    refine q_look (look_eql_nil Try.underlying28 rfl rfl rfl rfl) ?_
    refine q_look (look_move rfl rfl) ?_
    refine q_lookg rfl rfl rfl (fun hq => look_move rfl rfl) ?_
    refine q_lookg rfl rfl rfl (fun hq => look_eql_nil Try.underlying28 rfl hq rfl rfl) ?_
    refine q_look (look_or rfl rfl rfl rfl) ?_
    refine q_look (look_move rfl rfl) ?_
    refine q_lookg rfl rfl rfl (fun hq => look_move rfl rfl) ?_
    refine q_lookg rfl rfl rfl (fun hq => look_eql_nil Try.underlying28 rfl hq rfl rfl) ?_
    refine q_look (look_or rfl rfl rfl rfl) ?_
    refine q_look (look_move rfl rfl) ?_
    refine q_lookg rfl rfl rfl (fun hq => look_move rfl rfl) ?_
    refine q_lookg rfl rfl rfl (fun hq => look_eql_nil Try.underlying28 rfl hq rfl rfl) ?_
    refine q_look (look_or rfl rfl rfl rfl) ?_
    refine q_nil ?_
    rintro _ rfl
    refine then_normal ?_
    refine cond_false rfl rfl ?_
    refine wp_skip ?_
    refine then_normal ?_
    refine wp_seq ?_
    obtain ⟨xa, ca, ea, ha⟩ : ∃ x c e, intR s 0 (-9223372036854775808) 9223372036854775807 = (x, c, e) := ⟨_, _, _, rfl⟩
    obtain ⟨xb, cb, eb, hb⟩ : ∃ x c e, textR s 0 (s.length : Int) = (x, c, e) := ⟨_, _, _, rfl⟩
    obtain ⟨xc, cc, ec, hc⟩ : ∃ x c e, boolR s 0 = (x, c, e) := ⟨_, _, _, rfl⟩
    obtain ⟨xd, cd, ed, hd⟩ : ∃ x c e, countR s 0 4 9223372036854775807 false = (x, c, e) := ⟨_, _, _, rfl⟩
    obtain ⟨hIa, ha1, ha2, ha3⟩ := int_once ha
    obtain ⟨hlb, hb1, hb2, hb3⟩ := text_once (by unfold I64; omega) hb
    obtain ⟨hc1, hc2, hc3⟩ := bool_once hc
    obtain ⟨hd0, hId, hd1, _⟩ := count_ok (by omega) (by decide) hd
    obtain ⟨hd2, hd3⟩ := count_once (by omega) hd
    refine wp_region_lit ?_
    refine s_look (look_move rfl rfl) ?_
    refine s_call (vs := [_, _, _]) enTry_22 ⟨⟨_, rfl, rfl⟩, ⟨_, rfl, rfl⟩, ⟨_, rfl, rfl⟩, trivial⟩ ((by have := int_reads g1 s 0 (-9223372036854775808) 9223372036854775807 _ hB1 (by omega); rw [ha] at this; exact this)) ?_
    rintro _ u5 ⟨rfl, hm5, hT5⟩
    refine ⟨_, rfl, ?_⟩
    replace hX := hX.mut hm5 (by omega)
    replace hB2 := hB2.mut hm5 (by omega)
    replace hB3 := hB3.mut hm5 (by omega)
    replace hB4 := hB4.mut hm5 (by omega)
    clear hB1
    have hB1 := hT5
    refine s_look (look_move rfl rfl) ?_
    refine s_look (look_move rfl rfl) ?_
    refine s_look (Look.as (look_len_string Try.underlying9 rfl rfl) (by rw [ofL_size]) (v' := .int .i64 (s.length : Int))) ?_
    refine s_call (vs := [_, _]) enTry_26 ⟨⟨_, rfl, rfl⟩, ⟨_, rfl, rfl⟩, trivial⟩ ((by have := text_reads g2 s 0 (s.length : Int) _ hB2 (by omega) (by unfold I64; omega); rw [hb] at this; exact this)) ?_
    rintro _ u6 ⟨rfl, hm6, hT6⟩
    refine ⟨_, rfl, ?_⟩
    replace hX := hX.mut hm6 (by omega)
    replace hB1 := hB1.mut hm6 (by omega)
    replace hB3 := hB3.mut hm6 (by omega)
    replace hB4 := hB4.mut hm6 (by omega)
    clear hB2
    have hB2 := hT6
    refine s_look (look_move rfl rfl) ?_
    refine s_call (vs := [_]) enTry_27 ⟨⟨_, rfl, rfl⟩, trivial⟩ ((by have := bool_reads g3 s 0 _ hB3; rw [hc] at this; exact this)) ?_
    rintro _ u7 ⟨rfl, hm7, hT7⟩
    refine ⟨_, rfl, ?_⟩
    replace hX := hX.mut hm7 (by omega)
    replace hB1 := hB1.mut hm7 (by omega)
    replace hB2 := hB2.mut hm7 (by omega)
    replace hB4 := hB4.mut hm7 (by omega)
    clear hB3
    have hB3 := hT7
    refine s_look (look_move rfl rfl) ?_
    refine s_call (vs := [_, _]) enTry_21 ⟨⟨_, rfl, rfl⟩, ⟨_, rfl, rfl⟩, trivial⟩ ((by have := list_reads g4 s 0 9223372036854775807 _ hB4 (by omega) (by decide); rw [hd] at this; exact this)) ?_
    rintro _ u8 ⟨rfl, hm8, hT8⟩
    refine ⟨_, rfl, ?_⟩
    replace hX := hX.mut hm8 (by omega)
    replace hB1 := hB1.mut hm8 (by omega)
    replace hB2 := hB2.mut hm8 (by omega)
    replace hB3 := hB3.mut hm8 (by omega)
    clear hB4
    have hB4 := hT8
    refine s_look (look_assign rfl rfl) ?_
    refine s_look (look_assign rfl rfl) ?_
    refine s_look (look_assign rfl rfl) ?_
    refine s_look (look_assign rfl rfl) ?_
    refine s_nil ?_
    refine then_normal ?_
    refine wp_seq ?_
    refine region_q ?_
    refine q_look (look_move rfl rfl) ?_
    refine q_look (look_move rfl rfl) ?_
    refine q_look (look_move rfl rfl) ?_
    refine q_call (vs := [_]) enTry_12 ⟨⟨_, rfl, rfl⟩, trivial⟩ (fun wc hw => cext hw (int_any xa wc hIa)) ?_
    refine q_call (vs := [_, _, _]) enTry_36 ⟨⟨_, rfl, rfl⟩, ⟨_, rfl, rfl⟩, ⟨_, rfl, rfl⟩, trivial⟩ (fun wc hw => cext hw (once_any g1 s (intP xa) ca ea wc (hB1.ext hw) ha1 (by omega) ha2 ha3)) ?_
    refine q_look (look_move rfl rfl) ?_
    refine q_lookg rfl rfl rfl (fun hq => look_move rfl rfl) ?_
    refine q_lookg rfl rfl rfl (fun hq => look_move rfl rfl) ?_
    refine q_lookg rfl rfl rfl (fun hq => look_move rfl rfl) ?_
    refine q_callg (vs := [_]) rfl rfl rfl enTry_14 (fun hq => ⟨⟨_, rfl, hq⟩, trivial⟩) (fun hq wc hw => cext hw (text_any xb wc (by omega))) ?_
    refine q_callg (vs := [_, _, _]) rfl rfl rfl enTry_36 (fun hq => ⟨⟨_, rfl, hq⟩, ⟨_, rfl, hq⟩, ⟨_, rfl, hq⟩, trivial⟩) (fun hq wc hw => cext hw (once_any g2 s (textP xb) cb eb wc (hB2.ext hw) hb1 (by omega) hb2 hb3)) ?_
    refine q_look (look_and rfl rfl rfl rfl) ?_
    refine q_look (look_move rfl rfl) ?_
    refine q_lookg rfl rfl rfl (fun hq => look_move rfl rfl) ?_
    refine q_lookg rfl rfl rfl (fun hq => look_move rfl rfl) ?_
    refine q_lookg rfl rfl rfl (fun hq => look_move rfl rfl) ?_
    refine q_callg (vs := [_]) rfl rfl rfl enTry_16 (fun hq => ⟨⟨_, rfl, hq⟩, trivial⟩) (fun hq wc hw => cext hw (bool_any xc wc)) ?_
    refine q_callg (vs := [_, _, _]) rfl rfl rfl enTry_36 (fun hq => ⟨⟨_, rfl, hq⟩, ⟨_, rfl, hq⟩, ⟨_, rfl, hq⟩, trivial⟩) (fun hq wc hw => cext hw (once_any g3 s (boolP xc) cc ec wc (hB3.ext hw) hc1 (by omega) hc2 hc3)) ?_
    refine q_look (look_and rfl rfl rfl rfl) ?_
    refine q_look (look_move rfl rfl) ?_
    refine q_lookg rfl rfl rfl (fun hq => look_move rfl rfl) ?_
    refine q_lookg rfl rfl rfl (fun hq => look_move rfl rfl) ?_
    refine q_lookg rfl rfl rfl (fun hq => look_move rfl rfl) ?_
    refine q_callg (vs := [_]) rfl rfl rfl enTry_18 (fun hq => ⟨⟨_, rfl, hq⟩, trivial⟩) (fun hq wc hw => cext hw (list_any xd wc hId)) ?_
    refine q_callg (vs := [_, _, _]) rfl rfl rfl enTry_36 (fun hq => ⟨⟨_, rfl, hq⟩, ⟨_, rfl, hq⟩, ⟨_, rfl, hq⟩, trivial⟩) (fun hq wc hw => cext hw (once_any g4 s (listP xd) cd ed wc (hB4.ext hw) hd1 (by omega) hd2 (fun h => ⟨by unfold listP; rw [if_neg (by omega)]; exact (hd3 h).1.symm, (hd3 h).2⟩))) ?_
    refine q_look (look_and rfl rfl rfl rfl) ?_
    refine q_look (look_move rfl rfl) ?_
    refine q_callg (vs := []) rfl rfl rfl enTry_11 (fun hq => trivial) (fun hq wc hw => cext hw (awake_any wc)) ?_
    refine q_look (look_and rfl rfl rfl rfl) ?_
    refine q_look (look_assign rfl rfl) ?_
    refine q_nil ?_
    intro w2 hw2
    replace hX := hX.comp hw2
    replace hB1 := hB1.ext hw2
    replace hB2 := hB2.ext hw2
    replace hB3 := hB3.ext hw2
    replace hB4 := hB4.ext hw2
    refine then_normal ?_
    refine wp_ret ?_
    exact res1 Try.results8 rfl ⟨rfl, hX⟩

end Go.Proofs.Ytcneinajeapbhaa
