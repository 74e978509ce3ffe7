/- The walks of chapter 05 (cbor), third part: readers. -/
import Derived.Test.YtcneinajeapbhaaB
namespace Go.Proofs.Ytcneinajeapbhaa
open Go Go.RowKit Core
set_option linter.unusedVariables false
set_option linter.unusedSimpArgs false
attribute [local irreducible] wpQuiet wpList wpH wpT Code.wp Calls bodyPost act


def rcell (r : List UInt8) (e : Int) : List Value := [.string (ofL r), .int .i64 e]

theorem open_any (g : Nat) (r : List UInt8) (e0 : Int) (w : World) (hB : Blk w g 57 (rcell r e0)) :
    Calls Try.prog 40 #[.pointer (some ⟨g, 0, none⟩)] w fun e w' => e = .returned (.bool (decide (e0 = 0))) ∧ Ext w w' := by
  refine calls_act Try.func40 rfl Try.ntmps40 rfl rfl ?_
  show Code.wp _ _ _ (act 13 [(0, true, .pointer (some ⟨g, 0, none⟩))] _) _
  have hX : Ext w w := Ext.rfl' w
  refine wp_seq ?_
  refine region_s ?_
  refine q_look (look_assign rfl rfl) ?_
  refine q_nil ?_
  rintro _ rfl
  refine then_normal ?_
  refine wp_seq ?_
  refine region_s ?_
  refine q_look (look_move rfl rfl) ?_
  refine q_look (look_neq_nil Try.underlying28 rfl rfl rfl rfl) ?_
  refine q_look (look_move rfl rfl) ?_
  refine q_lookg rfl rfl rfl (fun hq => look_move rfl rfl) ?_
  refine q_lookg rfl rfl rfl (fun hq => look_nilCheck rfl hq) ?_
  refine q_lookg rfl rfl rfl (fun hq => look_fieldAddr Try.underlying57 rfl (fun _ _ => rfl) rfl hq) ?_
  refine q_lookg rfl rfl rfl (fun hq => look_fieldAddr Try.underlying55 rfl (fun _ _ => rfl) rfl hq) ?_
  refine q_lookg rfl rfl rfl (fun hq => look_load1 Try.underlying32 rfl rfl hq (eqc (hB.cell rfl))) ?_
  refine q_lookg rfl rfl rfl (fun hq => look_eql rfl hq rfl rfl) ?_
  refine q_look (look_and rfl rfl rfl rfl) ?_
  refine q_look (look_assign rfl rfl) ?_
  refine q_nil ?_
  rintro _ rfl
  refine then_normal ?_
  refine wp_ret ?_
  exact res1 Try.results40 rfl ⟨by rw [Option.isNone_some, Bool.not_false, Bool.true_and], hX⟩

theorem open_nil  (w : World)  :
    Calls Try.prog 40 #[.pointer none] w fun e w' => e = .returned (.bool (false)) ∧ Ext w w' := by
  refine calls_act Try.func40 rfl Try.ntmps40 rfl rfl ?_
  show Code.wp _ _ _ (act 13 [(0, true, .pointer none)] _) _
  have hX : Ext w w := Ext.rfl' w
  refine wp_seq ?_
  refine region_s ?_
  refine q_look (look_assign rfl rfl) ?_
  refine q_nil ?_
  rintro _ rfl
  refine then_normal ?_
  refine wp_seq ?_
  refine wp_region_lit ?_
  refine s_look (look_move rfl rfl) ?_
  refine s_look (look_neq_nil Try.underlying28 rfl rfl rfl rfl) ?_
  refine s_look (look_move rfl rfl) ?_
  refine s_skip rfl rfl rfl rfl ?_
  refine s_skip rfl rfl rfl rfl ?_
  refine s_skip rfl rfl rfl rfl ?_
  refine s_skip rfl rfl rfl rfl ?_
  refine s_skip rfl rfl rfl rfl ?_
  refine s_skip rfl rfl rfl rfl ?_
  refine s_look (look_pick_f rfl rfl rfl rfl rfl) ?_
  refine s_look (look_assign rfl rfl) ?_
  refine s_nil ?_
  refine then_normal ?_
  refine wp_ret ?_
  exact res1 Try.results40 rfl ⟨rfl, hX⟩

theorem left_any (g : Nat) (r : List UInt8) (e0 : Int) (w : World) (hB : Blk w g 57 (rcell r e0)) :
    Calls Try.prog 24 #[.pointer (some ⟨g, 0, none⟩)] w fun e w' => e = .returned (.int .i64 ((r.length : Int))) ∧ Ext w w' := by
  refine calls_act Try.func24 rfl Try.ntmps24 rfl rfl ?_
  show Code.wp _ _ _ (act 11 [(0, true, .pointer (some ⟨g, 0, none⟩))] _) _
  have hX : Ext w w := Ext.rfl' w
  refine wp_seq ?_
  refine region_s ?_
  refine q_look (look_assign rfl rfl) ?_
  refine q_nil ?_
  rintro _ rfl
  refine then_normal ?_
  refine wp_seq ?_
  refine wp_seq ?_
  refine region_s ?_
  refine q_look (look_move rfl rfl) ?_
  refine q_look (look_eql_nil Try.underlying28 rfl rfl rfl rfl) ?_
  refine q_nil ?_
  rintro _ rfl
  refine then_normal ?_
  refine cond_false rfl rfl ?_
  refine wp_skip ?_
  refine then_normal ?_
  refine wp_seq ?_
  refine region_s ?_
  refine q_look (look_move rfl rfl) ?_
  refine q_look (look_nilCheck rfl rfl) ?_
  refine q_look (look_fieldAddr Try.underlying57 rfl (fun _ _ => rfl) rfl rfl) ?_
  refine q_look (look_fieldAddr Try.underlying55 rfl (fun _ _ => rfl) rfl rfl) ?_
  refine q_look (look_load1 Try.underlying9 rfl rfl rfl (eqc (hB.cell rfl))) ?_
  refine q_look (Look.as (look_len_string Try.underlying9 rfl rfl) (by rw [ofL_size]) (v' := .int .i64 (r.length : Int))) ?_
  refine q_look (look_assign rfl rfl) ?_
  refine q_nil ?_
  rintro _ rfl
  refine then_normal ?_
  refine wp_ret ?_
  exact res1 Try.results24 rfl ⟨rfl, hX⟩

theorem err_any (g : Nat) (r : List UInt8) (e0 : Int) (w : World) (hB : Blk w g 57 (rcell r e0)) :
    Calls Try.prog 23 #[.pointer (some ⟨g, 0, none⟩)] w fun e w' => e = .returned (.int .i64 (e0)) ∧ Ext w w' := by
  refine calls_act Try.func23 rfl Try.ntmps23 rfl rfl ?_
  show Code.wp _ _ _ (act 10 [(0, true, .pointer (some ⟨g, 0, none⟩))] _) _
  have hX : Ext w w := Ext.rfl' w
  refine wp_seq ?_
  refine region_s ?_
  refine q_look (look_assign rfl rfl) ?_
  refine q_nil ?_
  rintro _ rfl
  refine then_normal ?_
  refine wp_seq ?_
  refine wp_seq ?_
  refine region_s ?_
  refine q_look (look_move rfl rfl) ?_
  refine q_look (look_eql_nil Try.underlying28 rfl rfl rfl rfl) ?_
  refine q_nil ?_
  rintro _ rfl
  refine then_normal ?_
  refine cond_false rfl rfl ?_
  refine wp_skip ?_
  refine then_normal ?_
  refine wp_seq ?_
  refine region_s ?_
  refine q_look (look_move rfl rfl) ?_
  refine q_look (look_nilCheck rfl rfl) ?_
  refine q_look (look_fieldAddr Try.underlying57 rfl (fun _ _ => rfl) rfl rfl) ?_
  refine q_look (look_fieldAddr Try.underlying55 rfl (fun _ _ => rfl) rfl rfl) ?_
  refine q_look (look_load1 Try.underlying32 rfl rfl rfl (eqc (hB.cell rfl))) ?_
  refine q_look (look_assign rfl rfl) ?_
  refine q_nil ?_
  rintro _ rfl
  refine then_normal ?_
  refine wp_ret ?_
  exact res1 Try.results23 rfl ⟨rfl, hX⟩


def endP (r : List UInt8) (e : Int) : Int := if e = 0 ∧ 0 < r.length then 4 else e

theorem end_any (g : Nat) (r : List UInt8) (e0 : Int) (w : World) (hB : Blk w g 57 (rcell r e0)) :
    Calls Try.prog 25 #[.pointer (some ⟨g, 0, none⟩)] w fun e w' => e = .returned (.int .i64 (endP r e0)) ∧ Ext w w' := by
  refine calls_act Try.func25 rfl Try.ntmps25 rfl rfl ?_
  show Code.wp _ _ _ (act 14 [(0, true, .pointer (some ⟨g, 0, none⟩))] _) _
  have hX : Ext w w := Ext.rfl' w
  refine wp_seq ?_
  refine region_s ?_
  refine q_look (look_assign rfl rfl) ?_
  refine q_nil ?_
  rintro _ rfl
  refine then_normal ?_
  refine wp_seq ?_
  refine region_q ?_
  refine q_look (look_move rfl rfl) ?_
  refine q_call (vs := [_]) enTry_23 ⟨⟨_, rfl, rfl⟩, trivial⟩ (fun wc hw => cext hw (err_any g r e0 wc (hB.ext hw))) ?_
  refine q_look (look_assign rfl rfl) ?_
  refine q_nil ?_
  intro w1 hw1
  replace hX := hX.comp hw1
  replace hB := hB.ext hw1
  refine then_normal ?_
  refine wp_seq ?_
  refine wp_seq ?_
  refine region_q ?_
  refine q_look (look_move rfl rfl) ?_
  refine q_look (look_eql rfl rfl rfl rfl) ?_
  refine q_look (look_move rfl rfl) ?_
  refine q_lookg rfl rfl rfl (fun hq => look_move rfl rfl) ?_
  refine q_callg (vs := [_]) rfl rfl rfl enTry_24 (fun hq => ⟨⟨_, rfl, hq⟩, trivial⟩) (fun hq wc hw => cext hw (left_any g r e0 wc (hB.ext hw))) ?_
  refine q_lookg rfl rfl rfl (fun hq => look_gtr rfl hq rfl rfl) ?_
  refine q_look (look_and rfl rfl rfl rfl) ?_
  refine q_nil ?_
  intro w2 hw2
  replace hX := hX.comp hw2
  replace hB := hB.ext hw2
  refine then_normal ?_
  refine cond_split rfl (fun hc12 => ?_) (fun hc12 => ?_)
  · have hc : e0 = 0 ∧ 0 < r.length := by simp only [Bool.and_eq_true, decide_eq_true_eq] at hc12; omega
    refine wp_seq ?_
    refine region_s ?_
    refine q_look (look_assign rfl rfl) ?_
    refine q_nil ?_
    rintro _ rfl
    refine then_normal ?_
    refine wp_ret ?_
    refine then_ret ?_
    exact res1 Try.results25 rfl ⟨ret_int (by unfold endP; rw [if_pos hc]), hX⟩
  · have hc : ¬ (e0 = 0 ∧ 0 < r.length) := by rw [Bool.and_eq_false_iff, decide_eq_false_iff_not, decide_eq_false_iff_not] at hc12; omega
    refine wp_skip ?_
    refine then_normal ?_
    refine wp_seq ?_
    refine region_s ?_
    refine q_look (look_move rfl rfl) ?_
    refine q_look (look_assign rfl rfl) ?_
    refine q_nil ?_
    rintro _ rfl
    refine then_normal ?_
    refine wp_ret ?_
    exact res1 Try.results25 rfl ⟨ret_int (by unfold endP; rw [if_neg hc]), hX⟩

theorem new_any (s : List UInt8) (w : World)  :
    Calls Try.prog 20 #[.string (ofL s)] w fun e w' => ∃ g, e = .returned (.pointer (some ⟨g, 0, none⟩)) ∧ Ext w w' ∧ Blk w' g 57 (rcell s 0) ∧ w.heap.size ≤ g := by
  refine calls_act Try.func20 rfl Try.ntmps20 rfl rfl ?_
  show Code.wp _ _ _ (act 7 [(0, true, .string (ofL s))] _) _
  have hX : Ext w w := Ext.rfl' w
  refine wp_seq ?_
  refine region_s ?_
  refine q_look (look_assign rfl rfl) ?_
  refine q_nil ?_
  rintro _ rfl
  refine then_normal ?_
  refine wp_seq ?_
  refine wp_region_lit ?_
  refine s_look (look_move rfl rfl) ?_
  refine s_look (look_build (pl := [(0, 1), (1, 1)]) (parts := [(0, .tmp 3)]) (vs := [(0, _)]) (cells := rcell s 0) Try.underlying55 zeTry_55 (by kernel_rfl) ⟨⟨_, rfl, rfl⟩, trivial⟩ rfl (by kernel_rfl)) ?_
  refine s_look (look_build (pl := [(0, 2)]) (parts := [(0, .tmp 4)]) (vs := [(0, _)]) (cells := rcell s 0) Try.underlying57 zeTry_57 (by kernel_rfl) ⟨⟨_, rfl, rfl⟩, trivial⟩ rfl (by kernel_rfl)) ?_
  refine s_box rfl ?_
  intro g1 u1 hu1 hB1 hg1 hs1
  replace hB1 : Blk u1 g1 57 (rcell s 0) := hB1
  have ge_g1 : w.heap.size ≤ g1 := by have := hX.size; omega
  replace hX := hX.comp hu1
  refine s_look (look_assign rfl rfl) ?_
  refine s_nil ?_
  refine then_normal ?_
  refine wp_ret ?_
  exact res1 Try.results20 rfl ⟨_, rfl, hX, hB1, ge_g1⟩

end Go.Proofs.Ytcneinajeapbhaa
