/- The walks of chapter 22 (bevel), second part: rows, areas, volumes. -/
import Derived.Test.YtbmkkepmecpffaaDoorA
namespace Go.Proofs.YtbmkkepmecpffaaDoor
open Go Go.RowKit Core
set_option linter.unusedVariables false
set_option linter.unusedSimpArgs false
attribute [local irreducible] wpQuiet wpList Code.wp Calls bodyPost act


theorem knownB_iff (k : Int) : knownB k = true ↔ k = 1 ∨ k = 2 := by simp [knownB]
theorem rightB_iff (x : B) : rightB x = true ↔ (x.kind = 1 ∨ x.kind = 2) ∧ 1 ≤ x.fr ∧ x.fr ≤ x.un ∧ x.un ≤ 120 ∧ 0 ≤ x.gap ∧ x.gap ≤ 20 ∧ 0 ≤ x.face ∧ x.face ≤ x.fr ∧ 0 ≤ x.run ∧ x.run ≤ 300 := by
  simp only [rightB, knownB, withinB, Bool.and_eq_true, Bool.or_eq_true, decide_eq_true_eq]
  constructor <;> intro h <;> omega
def areaP (x : B) (t : Int) : Int := if rightB x = true ∧ x.fr ≤ t ∧ t ≤ x.un then (if x.kind = 2 then 100 * x.face * x.face else 200 * x.gap * t + x.run * (t - x.face) * (t - x.face)) else 0
theorem mul_bd {a b A C : Int} (ha0 : 0 ≤ a) (ha : a ≤ A) (hb0 : 0 ≤ b) (hb : b ≤ C) : 0 ≤ a * b ∧ a * b ≤ A * C :=
  ⟨Int.mul_nonneg ha0 hb0, Int.mul_le_mul ha hb hb0 (by omega)⟩
theorem area_bds {x : B} {t : Int} (h : rightB x = true) (h1 : x.fr ≤ t) (h2 : t ≤ x.un) :
    (0 ≤ 100 * x.face ∧ 100 * x.face ≤ 12000) ∧ (0 ≤ 100 * x.face * x.face ∧ 100 * x.face * x.face ≤ 1440000) ∧ (0 ≤ 200 * x.gap ∧ 200 * x.gap ≤ 4000) ∧ (0 ≤ 200 * x.gap * t ∧ 200 * x.gap * t ≤ 480000) ∧
    (0 ≤ t - x.face ∧ t - x.face ≤ 120) ∧ (0 ≤ x.run * (t - x.face) ∧ x.run * (t - x.face) ≤ 36000) ∧ (0 ≤ x.run * (t - x.face) * (t - x.face) ∧ x.run * (t - x.face) * (t - x.face) ≤ 4320000) := by
  have := (rightB_iff x).1 h
  have b1 : 0 ≤ 100 * x.face ∧ 100 * x.face ≤ 12000 := by omega
  have b2 := mul_bd b1.1 b1.2 (by omega : 0 ≤ x.face) (by omega : x.face ≤ 120)
  have b3 : 0 ≤ 200 * x.gap ∧ 200 * x.gap ≤ 4000 := by omega
  have b4 := mul_bd b3.1 b3.2 (by omega : 0 ≤ t) (by omega : t ≤ 120)
  have b5 : 0 ≤ t - x.face ∧ t - x.face ≤ 120 := by omega
  have b6 := mul_bd (by omega : 0 ≤ x.run) (by omega : x.run ≤ 300) b5.1 b5.2
  have b7 := mul_bd b6.1 b6.2 b5.1 b5.2
  exact ⟨b1, by simpa using b2, b3, by simpa using b4, b5, by simpa using b6, by simpa using b7⟩
theorem area_bd (x : B) (t : Int) : 0 ≤ areaP x t ∧ areaP x t ≤ 4800000 := by
  unfold areaP
  split
  · rename_i h
    have := area_bds h.1 h.2.1 h.2.2
    split <;> omega
  · omega
def metalP (x : B) (t len : Int) : Int := if 0 ≤ len ∧ len ≤ 32768 then areaP x t * len else 0
theorem metal_bd (x : B) (t len : Int) : 0 ≤ metalP x t len ∧ metalP x t len ≤ 157286400000 := by
  unfold metalP
  split
  · rename_i h
    have a := area_bd x t
    have b := mul_bd a.1 a.2 h.1 h.2
    simpa using b
  · omega
def volP (x : B) (t len : Int) : Int := metalP x t len / 200
def massP (x : B) (t len : Int) : Int := metalP x t len * 7850 / 200000000
def matchP (x y : B) : Bool := decide (x.gap = y.gap) && decide (x.face = y.face) && decide (x.run = y.run)

theorem refright_any (x : B) (w : World) :
    Calls Tryd.prog 26 #[.agg #[.int .i64 x.kind, .int .i64 x.fr, .int .i64 x.un, .int .i64 x.gap, .int .i64 x.face, .int .i64 x.run]] w fun e w' => e = .returned (.int .i64 (rightE x)) ∧ Ext w w' := by
  refine calls_act Tryd.func26 rfl Tryd.ntmps26 rfl rfl ?_
  show Code.wp _ _ _ (act 58 [(0, true, .agg #[.int .i64 x.kind, .int .i64 x.fr, .int .i64 x.un, .int .i64 x.gap, .int .i64 x.face, .int .i64 x.run])] _) _
  refine wp_seq ?_
  refine wp_region_lit ?_
  refine s_box rfl ?_
  intro g0 u0 hu0 hB0 hg0 hs0
  refine s_look (look_assign rfl rfl) ?_
  refine s_nil ?_
  refine then_normal ?_
  refine wp_seq ?_
  refine wp_seq ?_
  refine region_s ?_
  refine q_look (look_fieldAddr Tryd.underlying28 rfl (fun _ _ => rfl) rfl rfl) ?_
  refine q_look (look_load1 Tryd.underlying3 rfl rfl rfl (eqc (hB0.cell rfl))) ?_
  refine q_look (look_neq rfl rfl rfl rfl) ?_
  refine q_look (look_move rfl rfl) ?_
  refine q_lookg rfl rfl rfl (fun hq => look_fieldAddr Tryd.underlying28 rfl (fun _ _ => rfl) rfl rfl) ?_
  refine q_lookg rfl rfl rfl (fun hq => look_load1 Tryd.underlying3 rfl rfl hq (eqc (hB0.cell rfl))) ?_
  refine q_lookg rfl rfl rfl (fun hq => look_neq rfl hq rfl rfl) ?_
  refine q_look (look_and rfl rfl rfl rfl) ?_
  refine q_nil ?_
  rintro _ rfl
  refine then_normal ?_
  refine cond_split rfl (fun hc10 => ?_) (fun hc10 => ?_)
  · have hk : knownB x.kind = false := by unfold knownB; revert hc10; cases decide (x.kind = 1) <;> cases decide (x.kind = 2) <;> simp
    refine wp_seq ?_
    refine region_s ?_
    refine q_look (look_assign rfl rfl) ?_
    refine q_nil ?_
    rintro _ rfl
    refine then_normal ?_
    refine wp_ret ?_
    refine then_ret ?_
    exact res1 Tryd.results26 rfl ⟨ret_int (by unfold rightE; rw [if_pos hk]), hu0⟩
  · have hk : ¬ knownB x.kind = false := by unfold knownB; revert hc10; cases decide (x.kind = 1) <;> cases decide (x.kind = 2) <;> simp
    refine wp_skip ?_
    refine then_normal ?_
    refine wp_seq ?_
    refine wp_seq ?_
    refine region_s ?_
    refine q_look (look_fieldAddr Tryd.underlying28 rfl (fun _ _ => rfl) rfl rfl) ?_
    refine q_look (look_load1 Tryd.underlying3 rfl rfl rfl (eqc (hB0.cell rfl))) ?_
    refine q_look (look_lss rfl rfl rfl rfl) ?_
    refine q_look (look_move rfl rfl) ?_
    refine q_lookg rfl rfl rfl (fun hq => look_fieldAddr Tryd.underlying28 rfl (fun _ _ => rfl) rfl rfl) ?_
    refine q_lookg rfl rfl rfl (fun hq => look_load1 Tryd.underlying3 rfl rfl hq (eqc (hB0.cell rfl))) ?_
    refine q_lookg rfl rfl rfl (fun hq => look_fieldAddr Tryd.underlying28 rfl (fun _ _ => rfl) rfl rfl) ?_
    refine q_lookg rfl rfl rfl (fun hq => look_load1 Tryd.underlying3 rfl rfl hq (eqc (hB0.cell rfl))) ?_
    refine q_lookg rfl rfl rfl (fun hq => look_gtr rfl hq rfl hq) ?_
    refine q_look (look_or rfl rfl rfl rfl) ?_
    refine q_look (look_move rfl rfl) ?_
    refine q_lookg rfl rfl rfl (fun hq => look_fieldAddr Tryd.underlying28 rfl (fun _ _ => rfl) rfl rfl) ?_
    refine q_lookg rfl rfl rfl (fun hq => look_load1 Tryd.underlying3 rfl rfl hq (eqc (hB0.cell rfl))) ?_
    refine q_lookg rfl rfl rfl (fun hq => look_gtr rfl hq rfl rfl) ?_
    refine q_look (look_or rfl rfl rfl rfl) ?_
    refine q_look (look_move rfl rfl) ?_
    refine q_lookg rfl rfl rfl (fun hq => look_fieldAddr Tryd.underlying28 rfl (fun _ _ => rfl) rfl rfl) ?_
    refine q_lookg rfl rfl rfl (fun hq => look_load1 Tryd.underlying3 rfl rfl hq (eqc (hB0.cell rfl))) ?_
    refine q_lookg rfl rfl rfl (fun hq => look_lss rfl hq rfl rfl) ?_
    refine q_look (look_or rfl rfl rfl rfl) ?_
    refine q_look (look_move rfl rfl) ?_
    refine q_lookg rfl rfl rfl (fun hq => look_fieldAddr Tryd.underlying28 rfl (fun _ _ => rfl) rfl rfl) ?_
    refine q_lookg rfl rfl rfl (fun hq => look_load1 Tryd.underlying3 rfl rfl hq (eqc (hB0.cell rfl))) ?_
    refine q_lookg rfl rfl rfl (fun hq => look_gtr rfl hq rfl rfl) ?_
    refine q_look (look_or rfl rfl rfl rfl) ?_
    refine q_look (look_move rfl rfl) ?_
    refine q_lookg rfl rfl rfl (fun hq => look_fieldAddr Tryd.underlying28 rfl (fun _ _ => rfl) rfl rfl) ?_
    refine q_lookg rfl rfl rfl (fun hq => look_load1 Tryd.underlying3 rfl rfl hq (eqc (hB0.cell rfl))) ?_
    refine q_lookg rfl rfl rfl (fun hq => look_lss rfl hq rfl rfl) ?_
    refine q_look (look_or rfl rfl rfl rfl) ?_
    refine q_look (look_move rfl rfl) ?_
    refine q_lookg rfl rfl rfl (fun hq => look_fieldAddr Tryd.underlying28 rfl (fun _ _ => rfl) rfl rfl) ?_
    refine q_lookg rfl rfl rfl (fun hq => look_load1 Tryd.underlying3 rfl rfl hq (eqc (hB0.cell rfl))) ?_
    refine q_lookg rfl rfl rfl (fun hq => look_fieldAddr Tryd.underlying28 rfl (fun _ _ => rfl) rfl rfl) ?_
    refine q_lookg rfl rfl rfl (fun hq => look_load1 Tryd.underlying3 rfl rfl hq (eqc (hB0.cell rfl))) ?_
    refine q_lookg rfl rfl rfl (fun hq => look_gtr rfl hq rfl hq) ?_
    refine q_look (look_or rfl rfl rfl rfl) ?_
    refine q_look (look_move rfl rfl) ?_
    refine q_lookg rfl rfl rfl (fun hq => look_fieldAddr Tryd.underlying28 rfl (fun _ _ => rfl) rfl rfl) ?_
    refine q_lookg rfl rfl rfl (fun hq => look_load1 Tryd.underlying3 rfl rfl hq (eqc (hB0.cell rfl))) ?_
    refine q_lookg rfl rfl rfl (fun hq => look_lss rfl hq rfl rfl) ?_
    refine q_look (look_or rfl rfl rfl rfl) ?_
    refine q_look (look_move rfl rfl) ?_
    refine q_lookg rfl rfl rfl (fun hq => look_fieldAddr Tryd.underlying28 rfl (fun _ _ => rfl) rfl rfl) ?_
    refine q_lookg rfl rfl rfl (fun hq => look_load1 Tryd.underlying3 rfl rfl hq (eqc (hB0.cell rfl))) ?_
    refine q_lookg rfl rfl rfl (fun hq => look_gtr rfl hq rfl rfl) ?_
    refine q_look (look_or rfl rfl rfl rfl) ?_
    refine q_nil ?_
    rintro _ rfl
    refine then_normal ?_
    refine cond_split rfl (fun hc57 => ?_) (fun hc57 => ?_)
    · have hr : rightB x = false := by
        rw [Bool.eq_false_iff]; intro h; have := (rightB_iff x).1 h; simp at hc57; omega
      refine wp_seq ?_
      refine region_s ?_
      refine q_look (look_assign rfl rfl) ?_
      refine q_nil ?_
      rintro _ rfl
      refine then_normal ?_
      refine wp_ret ?_
      refine then_ret ?_
      exact res1 Tryd.results26 rfl ⟨ret_int (by unfold rightE; rw [if_neg hk, if_pos hr]), hu0⟩
    · have hr : ¬ rightB x = false := by
        have hk2 : knownB x.kind = true := by simpa using hk
        have hk3 := (knownB_iff _).1 hk2
        rw [Bool.not_eq_false, rightB_iff]; simp at hc57; omega
      refine wp_skip ?_
      refine then_normal ?_
      refine wp_seq ?_
      refine region_s ?_
      refine q_look (look_assign rfl rfl) ?_
      refine q_nil ?_
      rintro _ rfl
      refine then_normal ?_
      refine wp_ret ?_
      exact res1 Tryd.results26 rfl ⟨ret_int (by unfold rightE; rw [if_neg hk, if_neg hr]), hu0⟩

theorem rightE_ok (x : B) : rightE x = 0 ↔ rightB x = true := by
  unfold rightE
  split
  · rename_i h
    have : rightB x = false := by unfold rightB; rw [h]; rfl
    simp [this]
  · split
    · rename_i h; simp [h]
    · rename_i h; simpa using h
theorem ext_cell_n {w : World} {g t : Nat} {cs : List Value} (h : Blk w g t cs) : ∀ w', Ext w w' → ∀ j v, cs[j]? = some v → w'.cell? ⟨g, 0 + j, none⟩ = some v :=
  fun w' e j v hv => e.cell (by rw [Nat.zero_add]; exact h.cell hv)

theorem area_any (x : B) (t : Int) (w : World) (hG : G w) :
    Calls Tryd.prog 16 #[.agg #[.int .i64 x.kind, .int .i64 x.fr, .int .i64 x.un, .int .i64 x.gap, .int .i64 x.face, .int .i64 x.run], .int .i64 t] w fun e w' => e = .returned (.int .i64 (areaP x t)) ∧ Ext w w' := by
  refine calls_act Tryd.func16 rfl Tryd.ntmps16 rfl rfl ?_
  show Code.wp _ _ _ (act 44 [(0, true, .agg #[.int .i64 x.kind, .int .i64 x.fr, .int .i64 x.un, .int .i64 x.gap, .int .i64 x.face, .int .i64 x.run]), (1, true, .int .i64 t)] _) _
  refine wp_seq ?_
  refine wp_region_lit ?_
  refine s_box rfl ?_
  intro g0 u0 hu0 hB0 hg0 hs0
  refine s_look (look_assign rfl rfl) ?_
  refine s_nil ?_
  refine then_normal ?_
  refine wp_seq ?_
  refine wp_seq ?_
  refine region_q ?_
  refine q_look (look_loadN Tryd.underlying28 rfl szTryd_28 rfl rfl rfl (ext_cell_n hB0)) ?_
  refine q_call (vs := [_]) enTryd_25 ⟨⟨_, rfl, rfl⟩, trivial⟩ (fun wc hw => cext hw (right_any x wc ((hG.ext hu0).ext hw))) ?_
  refine q_look (look_not rfl rfl) ?_
  refine q_look (look_move rfl rfl) ?_
  refine q_lookg rfl rfl rfl (fun hq => look_move rfl rfl) ?_
  refine q_lookg rfl rfl rfl (fun hq => look_fieldAddr Tryd.underlying28 rfl (fun _ _ => rfl) rfl rfl) ?_
  refine q_lookg rfl rfl rfl (fun hq => look_load1 Tryd.underlying3 rfl rfl hq (ext_cell (hB0.cell rfl))) ?_
  refine q_lookg rfl rfl rfl (fun hq => look_fieldAddr Tryd.underlying28 rfl (fun _ _ => rfl) rfl rfl) ?_
  refine q_lookg rfl rfl rfl (fun hq => look_load1 Tryd.underlying3 rfl rfl hq (ext_cell (hB0.cell rfl))) ?_
  refine q_callg (vs := [_, _, _]) rfl rfl rfl enTryd_29 (fun hq => ⟨⟨_, rfl, hq⟩, ⟨_, rfl, hq⟩, ⟨_, rfl, hq⟩, trivial⟩) (fun hq wc hw => cext hw (within_any _ _ _ wc)) ?_
  refine q_lookg rfl rfl rfl (fun hq => look_not rfl hq) ?_
  refine q_look (look_or rfl rfl rfl rfl) ?_
  refine q_nil ?_
  intro w1 hw1
  refine then_normal ?_
  refine cond_split rfl (fun hc16 => ?_) (fun hc16 => ?_)
  · have hr : ¬ (rightB x = true ∧ x.fr ≤ t ∧ t ≤ x.un) := by rintro ⟨h1, h2, h3⟩; simp [withinB, h1] at hc16; omega
    refine wp_seq ?_
    refine region_s ?_
    refine q_look (look_assign rfl rfl) ?_
    refine q_nil ?_
    rintro _ rfl
    refine then_normal ?_
    refine wp_ret ?_
    refine then_ret ?_
    exact res1 Tryd.results16 rfl ⟨ret_int (by unfold areaP; rw [if_neg hr]), hu0.comp hw1⟩
  · have hr : rightB x = true ∧ x.fr ≤ t ∧ t ≤ x.un := by simpa [withinB] using hc16
    have hbd := area_bds hr.1 hr.2.1 hr.2.2
    obtain ⟨b1, b2, b3, b4, b5, b6, b7⟩ := hbd
    refine wp_skip ?_
    refine then_normal ?_
    refine wp_seq ?_
    refine wp_seq ?_
    refine region_s ?_
    refine q_look (look_fieldAddr Tryd.underlying28 rfl (fun _ _ => rfl) rfl rfl) ?_
    refine q_look (look_load1 Tryd.underlying3 rfl rfl rfl (eqc ((hB0.ext hw1).cell rfl))) ?_
    refine q_look (look_eql rfl rfl rfl rfl) ?_
    refine q_nil ?_
    rintro _ rfl
    refine then_normal ?_
    refine cond_split rfl (fun hc19 => ?_) (fun hc19 => ?_)
    · have hk : x.kind = 2 := by simpa using hc19
      refine wp_seq ?_
      refine region_s ?_
      refine q_look (look_fieldAddr Tryd.underlying28 rfl (fun _ _ => rfl) rfl rfl) ?_
      refine q_look (look_load1 Tryd.underlying3 rfl rfl rfl (eqc ((hB0.ext hw1).cell rfl))) ?_
      refine q_look (look_mul rfl rfl rfl rfl (by unfold I64; omega)) ?_
      refine q_look (look_fieldAddr Tryd.underlying28 rfl (fun _ _ => rfl) rfl rfl) ?_
      refine q_look (look_load1 Tryd.underlying3 rfl rfl rfl (eqc ((hB0.ext hw1).cell rfl))) ?_
      refine q_look (look_mul rfl rfl rfl rfl (by unfold I64; omega)) ?_
      refine q_look (look_assign rfl rfl) ?_
      refine q_nil ?_
      rintro _ rfl
      refine then_normal ?_
      refine wp_ret ?_
      refine then_ret ?_
      exact res1 Tryd.results16 rfl ⟨ret_int (by unfold areaP; rw [if_pos hr, if_pos hk]), hu0.comp hw1⟩
    · have hk : ¬ x.kind = 2 := by simpa using hc19
      refine wp_skip ?_
      refine then_normal ?_
      refine wp_seq ?_
      refine region_s ?_
      refine q_look (look_fieldAddr Tryd.underlying28 rfl (fun _ _ => rfl) rfl rfl) ?_
      refine q_look (look_load1 Tryd.underlying3 rfl rfl rfl (eqc ((hB0.ext hw1).cell rfl))) ?_
      refine q_look (look_mul rfl rfl rfl rfl (by unfold I64; omega)) ?_
      refine q_look (look_move rfl rfl) ?_
      refine q_look (look_mul rfl rfl rfl rfl (by unfold I64; omega)) ?_
      refine q_look (look_fieldAddr Tryd.underlying28 rfl (fun _ _ => rfl) rfl rfl) ?_
      refine q_look (look_load1 Tryd.underlying3 rfl rfl rfl (eqc ((hB0.ext hw1).cell rfl))) ?_
      refine q_look (look_move rfl rfl) ?_
      refine q_look (look_fieldAddr Tryd.underlying28 rfl (fun _ _ => rfl) rfl rfl) ?_
      refine q_look (look_load1 Tryd.underlying3 rfl rfl rfl (eqc ((hB0.ext hw1).cell rfl))) ?_
      refine q_look (look_sub rfl rfl rfl rfl (by unfold I64; omega)) ?_
      refine q_look (look_mul rfl rfl rfl rfl (by unfold I64; omega)) ?_
      refine q_look (look_move rfl rfl) ?_
      refine q_look (look_fieldAddr Tryd.underlying28 rfl (fun _ _ => rfl) rfl rfl) ?_
      refine q_look (look_load1 Tryd.underlying3 rfl rfl rfl (eqc ((hB0.ext hw1).cell rfl))) ?_
      refine q_look (look_sub rfl rfl rfl rfl (by unfold I64; omega)) ?_
      refine q_look (look_mul rfl rfl rfl rfl (by unfold I64; omega)) ?_
      refine q_look (look_add rfl rfl rfl rfl (by unfold I64; omega)) ?_
      refine q_look (look_assign rfl rfl) ?_
      refine q_nil ?_
      rintro _ rfl
      refine then_normal ?_
      refine wp_ret ?_
      exact res1 Tryd.results16 rfl ⟨ret_int (by unfold areaP; rw [if_pos hr, if_neg hk]), hu0.comp hw1⟩

theorem refarea_any (x : B) (t : Int) (w : World) :
    Calls Tryd.prog 17 #[.agg #[.int .i64 x.kind, .int .i64 x.fr, .int .i64 x.un, .int .i64 x.gap, .int .i64 x.face, .int .i64 x.run], .int .i64 t] w fun e w' => e = .returned (.int .i64 (areaP x t)) ∧ Ext w w' := by
  refine calls_act Tryd.func17 rfl Tryd.ntmps17 rfl rfl ?_
  show Code.wp _ _ _ (act 47 [(0, true, .agg #[.int .i64 x.kind, .int .i64 x.fr, .int .i64 x.un, .int .i64 x.gap, .int .i64 x.face, .int .i64 x.run]), (1, true, .int .i64 t)] _) _
  refine wp_seq ?_
  refine wp_region_lit ?_
  refine s_box rfl ?_
  intro g0 u0 hu0 hB0 hg0 hs0
  refine s_look (look_assign rfl rfl) ?_
  refine s_nil ?_
  refine then_normal ?_
  refine wp_seq ?_
  refine wp_seq ?_
  refine region_q ?_
  refine q_look (look_loadN Tryd.underlying28 rfl szTryd_28 rfl rfl rfl (ext_cell_n hB0)) ?_
  refine q_call (vs := [_]) enTryd_26 ⟨⟨_, rfl, rfl⟩, trivial⟩ (fun wc hw => cext hw (refright_any x wc)) ?_
  refine q_look (look_neq rfl rfl rfl rfl) ?_
  refine q_look (look_move rfl rfl) ?_
  refine q_lookg rfl rfl rfl (fun hq => look_move rfl rfl) ?_
  refine q_lookg rfl rfl rfl (fun hq => look_fieldAddr Tryd.underlying28 rfl (fun _ _ => rfl) rfl rfl) ?_
  refine q_lookg rfl rfl rfl (fun hq => look_load1 Tryd.underlying3 rfl rfl hq (ext_cell (hB0.cell rfl))) ?_
  refine q_lookg rfl rfl rfl (fun hq => look_lss rfl hq rfl hq) ?_
  refine q_look (look_or rfl rfl rfl rfl) ?_
  refine q_look (look_move rfl rfl) ?_
  refine q_lookg rfl rfl rfl (fun hq => look_move rfl rfl) ?_
  refine q_lookg rfl rfl rfl (fun hq => look_fieldAddr Tryd.underlying28 rfl (fun _ _ => rfl) rfl rfl) ?_
  refine q_lookg rfl rfl rfl (fun hq => look_load1 Tryd.underlying3 rfl rfl hq (ext_cell (hB0.cell rfl))) ?_
  refine q_lookg rfl rfl rfl (fun hq => look_gtr rfl hq rfl hq) ?_
  refine q_look (look_or rfl rfl rfl rfl) ?_
  refine q_nil ?_
  intro w1 hw1
  refine then_normal ?_
  refine cond_split rfl (fun hc19 => ?_) (fun hc19 => ?_)
  · have hr : ¬ (rightB x = true ∧ x.fr ≤ t ∧ t ≤ x.un) := by
      rintro ⟨h1, h2, h3⟩
      have e0 := (rightE_ok x).2 h1
      simp [e0] at hc19; omega
    refine wp_seq ?_
    refine region_s ?_
    refine q_look (look_assign rfl rfl) ?_
    refine q_nil ?_
    rintro _ rfl
    refine then_normal ?_
    refine wp_ret ?_
    refine then_ret ?_
    exact res1 Tryd.results17 rfl ⟨ret_int (by unfold areaP; rw [if_neg hr]), hu0.comp hw1⟩
  · have hr : rightB x = true ∧ x.fr ≤ t ∧ t ≤ x.un := by
      simp at hc19
      exact ⟨(rightE_ok x).1 (by omega), by omega, by omega⟩
    have hbd := area_bds hr.1 hr.2.1 hr.2.2
    obtain ⟨b1, b2, b3, b4, b5, b6, b7⟩ := hbd
    refine wp_skip ?_
    refine then_normal ?_
    refine wp_seq ?_
    refine wp_seq ?_
    refine region_s ?_
    refine q_look (look_fieldAddr Tryd.underlying28 rfl (fun _ _ => rfl) rfl rfl) ?_
    refine q_look (look_load1 Tryd.underlying3 rfl rfl rfl (eqc ((hB0.ext hw1).cell rfl))) ?_
    refine q_look (look_eql rfl rfl rfl rfl) ?_
    refine q_nil ?_
    rintro _ rfl
    refine then_normal ?_
    refine cond_split rfl (fun hc22 => ?_) (fun hc22 => ?_)
    · have hk : x.kind = 2 := by simpa using hc22
      refine wp_seq ?_
      refine region_s ?_
      refine q_look (look_fieldAddr Tryd.underlying28 rfl (fun _ _ => rfl) rfl rfl) ?_
      refine q_look (look_load1 Tryd.underlying3 rfl rfl rfl (eqc ((hB0.ext hw1).cell rfl))) ?_
      refine q_look (look_mul rfl rfl rfl rfl (by unfold I64; omega)) ?_
      refine q_look (look_fieldAddr Tryd.underlying28 rfl (fun _ _ => rfl) rfl rfl) ?_
      refine q_look (look_load1 Tryd.underlying3 rfl rfl rfl (eqc ((hB0.ext hw1).cell rfl))) ?_
      refine q_look (look_mul rfl rfl rfl rfl (by unfold I64; omega)) ?_
      refine q_look (look_assign rfl rfl) ?_
      refine q_nil ?_
      rintro _ rfl
      refine then_normal ?_
      refine wp_ret ?_
      refine then_ret ?_
      exact res1 Tryd.results17 rfl ⟨ret_int (by unfold areaP; rw [if_pos hr, if_pos hk]), hu0.comp hw1⟩
    · have hk : ¬ x.kind = 2 := by simpa using hc22
      refine wp_skip ?_
      refine then_normal ?_
      refine wp_seq ?_
      refine region_s ?_
      refine q_look (look_fieldAddr Tryd.underlying28 rfl (fun _ _ => rfl) rfl rfl) ?_
      refine q_look (look_load1 Tryd.underlying3 rfl rfl rfl (eqc ((hB0.ext hw1).cell rfl))) ?_
      refine q_look (look_mul rfl rfl rfl rfl (by unfold I64; omega)) ?_
      refine q_look (look_move rfl rfl) ?_
      refine q_look (look_mul rfl rfl rfl rfl (by unfold I64; omega)) ?_
      refine q_look (look_fieldAddr Tryd.underlying28 rfl (fun _ _ => rfl) rfl rfl) ?_
      refine q_look (look_load1 Tryd.underlying3 rfl rfl rfl (eqc ((hB0.ext hw1).cell rfl))) ?_
      refine q_look (look_move rfl rfl) ?_
      refine q_look (look_fieldAddr Tryd.underlying28 rfl (fun _ _ => rfl) rfl rfl) ?_
      refine q_look (look_load1 Tryd.underlying3 rfl rfl rfl (eqc ((hB0.ext hw1).cell rfl))) ?_
      refine q_look (look_sub rfl rfl rfl rfl (by unfold I64; omega)) ?_
      refine q_look (look_mul rfl rfl rfl rfl (by unfold I64; omega)) ?_
      refine q_look (look_move rfl rfl) ?_
      refine q_look (look_fieldAddr Tryd.underlying28 rfl (fun _ _ => rfl) rfl rfl) ?_
      refine q_look (look_load1 Tryd.underlying3 rfl rfl rfl (eqc ((hB0.ext hw1).cell rfl))) ?_
      refine q_look (look_sub rfl rfl rfl rfl (by unfold I64; omega)) ?_
      refine q_look (look_mul rfl rfl rfl rfl (by unfold I64; omega)) ?_
      refine q_look (look_add rfl rfl rfl rfl (by unfold I64; omega)) ?_
      refine q_look (look_assign rfl rfl) ?_
      refine q_nil ?_
      rintro _ rfl
      refine then_normal ?_
      refine wp_ret ?_
      exact res1 Tryd.results17 rfl ⟨ret_int (by unfold areaP; rw [if_pos hr, if_neg hk]), hu0.comp hw1⟩

theorem metal_any (x : B) (t len : Int) (w : World) (hG : G w) :
    Calls Tryd.prog 30 #[.agg #[.int .i64 x.kind, .int .i64 x.fr, .int .i64 x.un, .int .i64 x.gap, .int .i64 x.face, .int .i64 x.run], .int .i64 t, .int .i64 len] w fun e w' => e = .returned (.int .i64 (metalP x t len)) ∧ Ext w w' := by
  refine calls_act Tryd.func30 rfl Tryd.ntmps30 rfl rfl ?_
  show Code.wp _ _ _ (act 15 [(0, true, .agg #[.int .i64 x.kind, .int .i64 x.fr, .int .i64 x.un, .int .i64 x.gap, .int .i64 x.face, .int .i64 x.run]), (1, true, .int .i64 t), (2, true, .int .i64 len)] _) _
  refine wp_seq ?_
  refine wp_region_lit ?_
  refine s_box rfl ?_
  intro g0 u0 hu0 hB0 hg0 hs0
  refine s_look (look_assign rfl rfl) ?_
  refine s_nil ?_
  refine then_normal ?_
  refine wp_seq ?_
  refine wp_seq ?_
  refine region_q ?_
  refine q_look (look_move rfl rfl) ?_
  refine q_call (vs := [_, _, _]) enTryd_29 ⟨⟨_, rfl, rfl⟩, ⟨_, rfl, rfl⟩, ⟨_, rfl, rfl⟩, trivial⟩ (fun wc hw => cext hw (within_any _ _ _ wc)) ?_
  refine q_look (look_not rfl rfl) ?_
  refine q_nil ?_
  intro w1 hw1
  refine then_normal ?_
  refine cond_split rfl (fun hc9 => ?_) (fun hc9 => ?_)
  · have hl : ¬ (0 ≤ len ∧ len ≤ 32768) := by simp [withinB] at hc9; omega
    refine wp_seq ?_
    refine region_s ?_
    refine q_look (look_assign rfl rfl) ?_
    refine q_nil ?_
    rintro _ rfl
    refine then_normal ?_
    refine wp_ret ?_
    refine then_ret ?_
    exact res1 Tryd.results30 rfl ⟨ret_int (by unfold metalP; rw [if_neg hl]), hu0.comp hw1⟩
  · have hl : 0 ≤ len ∧ len ≤ 32768 := by simpa [withinB] using hc9
    have hab := area_bd x t
    have hmb := mul_bd hab.1 hab.2 hl.1 hl.2
    refine wp_skip ?_
    refine then_normal ?_
    refine wp_seq ?_
    refine region_q ?_
    refine q_look (look_loadN Tryd.underlying28 rfl szTryd_28 rfl rfl rfl (ext_cell_n (hB0.ext hw1))) ?_
    refine q_look (look_move rfl rfl) ?_
    refine q_call (vs := [_, _]) enTryd_16 ⟨⟨_, rfl, rfl⟩, ⟨_, rfl, rfl⟩, trivial⟩ (fun wc hw => cext hw (area_any x _ wc (((hG.ext hu0).ext hw1).ext hw))) ?_
    refine q_look (look_move rfl rfl) ?_
    refine q_look (look_mul rfl rfl rfl rfl (by unfold I64; omega)) ?_
    refine q_look (look_assign rfl rfl) ?_
    refine q_nil ?_
    intro w2 hw2
    refine then_normal ?_
    refine wp_ret ?_
    exact res1 Tryd.results30 rfl ⟨ret_int (by unfold metalP; rw [if_pos hl]), (hu0.comp hw1).comp hw2⟩

theorem volume_any (x : B) (t len : Int) (w : World) (hG : G w) :
    Calls Tryd.prog 18 #[.agg #[.int .i64 x.kind, .int .i64 x.fr, .int .i64 x.un, .int .i64 x.gap, .int .i64 x.face, .int .i64 x.run], .int .i64 t, .int .i64 len] w fun e w' => e = .returned (.int .i64 (volP x t len)) ∧ Ext w w' := by
  refine calls_act Tryd.func18 rfl Tryd.ntmps18 rfl rfl ?_
  show Code.wp _ _ _ (act 12 [(0, true, .agg #[.int .i64 x.kind, .int .i64 x.fr, .int .i64 x.un, .int .i64 x.gap, .int .i64 x.face, .int .i64 x.run]), (1, true, .int .i64 t), (2, true, .int .i64 len)] _) _
  have hmb := metal_bd x t len
  refine wp_seq ?_
  refine wp_region_lit ?_
  refine s_box rfl ?_
  intro g0 u0 hu0 hB0 hg0 hs0
  refine s_look (look_assign rfl rfl) ?_
  refine s_nil ?_
  refine then_normal ?_
  refine wp_seq ?_
  refine region_q ?_
  refine q_look (look_loadN Tryd.underlying28 rfl szTryd_28 rfl rfl rfl (ext_cell_n hB0)) ?_
  refine q_look (look_move rfl rfl) ?_
  refine q_look (look_move rfl rfl) ?_
  refine q_call (vs := [_, _, _]) enTryd_30 ⟨⟨_, rfl, rfl⟩, ⟨_, rfl, rfl⟩, ⟨_, rfl, rfl⟩, trivial⟩ (fun wc hw => cext hw (metal_any x _ _ wc ((hG.ext hu0).ext hw))) ?_
  refine q_look (look_quo rfl rfl rfl rfl (by omega) (by omega) (by omega)) ?_
  refine q_look (look_assign rfl rfl) ?_
  refine q_nil ?_
  intro w1 hw1
  refine then_normal ?_
  refine wp_ret ?_
  exact res1 Tryd.results18 rfl ⟨rfl, hu0.comp hw1⟩

theorem mass_any (x : B) (t len : Int) (w : World) (hG : G w) :
    Calls Tryd.prog 20 #[.agg #[.int .i64 x.kind, .int .i64 x.fr, .int .i64 x.un, .int .i64 x.gap, .int .i64 x.face, .int .i64 x.run], .int .i64 t, .int .i64 len] w fun e w' => e = .returned (.int .i64 (massP x t len)) ∧ Ext w w' := by
  refine calls_act Tryd.func20 rfl Tryd.ntmps20 rfl rfl ?_
  show Code.wp _ _ _ (act 13 [(0, true, .agg #[.int .i64 x.kind, .int .i64 x.fr, .int .i64 x.un, .int .i64 x.gap, .int .i64 x.face, .int .i64 x.run]), (1, true, .int .i64 t), (2, true, .int .i64 len)] _) _
  have hmb := metal_bd x t len
  refine wp_seq ?_
  refine wp_region_lit ?_
  refine s_box rfl ?_
  intro g0 u0 hu0 hB0 hg0 hs0
  refine s_look (look_assign rfl rfl) ?_
  refine s_nil ?_
  refine then_normal ?_
  refine wp_seq ?_
  refine region_q ?_
  refine q_look (look_loadN Tryd.underlying28 rfl szTryd_28 rfl rfl rfl (ext_cell_n hB0)) ?_
  refine q_look (look_move rfl rfl) ?_
  refine q_look (look_move rfl rfl) ?_
  refine q_call (vs := [_, _, _]) enTryd_30 ⟨⟨_, rfl, rfl⟩, ⟨_, rfl, rfl⟩, ⟨_, rfl, rfl⟩, trivial⟩ (fun wc hw => cext hw (metal_any x _ _ wc ((hG.ext hu0).ext hw))) ?_
  refine q_look (look_mul rfl rfl rfl rfl (by unfold I64; omega)) ?_
  refine q_look (look_quo rfl rfl rfl rfl (by omega) (by omega) (by omega)) ?_
  refine q_look (look_assign rfl rfl) ?_
  refine q_nil ?_
  intro w1 hw1
  refine then_normal ?_
  refine wp_ret ?_
  exact res1 Tryd.results20 rfl ⟨rfl, hu0.comp hw1⟩

theorem refvol_any (x : B) (t len : Int) (w : World) :
    Calls Tryd.prog 19 #[.agg #[.int .i64 x.kind, .int .i64 x.fr, .int .i64 x.un, .int .i64 x.gap, .int .i64 x.face, .int .i64 x.run], .int .i64 t, .int .i64 len] w fun e w' => e = .returned (.int .i64 (volP x t len)) ∧ Ext w w' := by
  refine calls_act Tryd.func19 rfl Tryd.ntmps19 rfl rfl ?_
  show Code.wp _ _ _ (act 19 [(0, true, .agg #[.int .i64 x.kind, .int .i64 x.fr, .int .i64 x.un, .int .i64 x.gap, .int .i64 x.face, .int .i64 x.run]), (1, true, .int .i64 t), (2, true, .int .i64 len)] _) _
  refine wp_seq ?_
  refine wp_region_lit ?_
  refine s_box rfl ?_
  intro g0 u0 hu0 hB0 hg0 hs0
  refine s_look (look_assign rfl rfl) ?_
  refine s_nil ?_
  refine then_normal ?_
  refine wp_seq ?_
  refine wp_seq ?_
  refine region_s ?_
  refine q_look (look_move rfl rfl) ?_
  refine q_look (look_lss rfl rfl rfl rfl) ?_
  refine q_look (look_move rfl rfl) ?_
  refine q_lookg rfl rfl rfl (fun hq => look_move rfl rfl) ?_
  refine q_lookg rfl rfl rfl (fun hq => look_gtr rfl hq rfl rfl) ?_
  refine q_look (look_or rfl rfl rfl rfl) ?_
  refine q_nil ?_
  rintro _ rfl
  refine then_normal ?_
  refine cond_split rfl (fun hc12 => ?_) (fun hc12 => ?_)
  · have hl : ¬ (0 ≤ len ∧ len ≤ 32768) := by simp at hc12; omega
    refine wp_seq ?_
    refine region_s ?_
    refine q_look (look_assign rfl rfl) ?_
    refine q_nil ?_
    rintro _ rfl
    refine then_normal ?_
    refine wp_ret ?_
    refine then_ret ?_
    exact res1 Tryd.results19 rfl ⟨ret_int (by unfold volP metalP; rw [if_neg hl]; rfl), hu0⟩
  · have hl : 0 ≤ len ∧ len ≤ 32768 := by simp at hc12; omega
    have hab := area_bd x t
    have hmb := mul_bd hab.1 hab.2 hl.1 hl.2
    refine wp_skip ?_
    refine then_normal ?_
    refine wp_seq ?_
    refine region_q ?_
    refine q_look (look_loadN Tryd.underlying28 rfl szTryd_28 rfl rfl rfl (ext_cell_n hB0)) ?_
    refine q_look (look_move rfl rfl) ?_
    refine q_call (vs := [_, _]) enTryd_17 ⟨⟨_, rfl, rfl⟩, ⟨_, rfl, rfl⟩, trivial⟩ (fun wc hw => cext hw (refarea_any x _ wc)) ?_
    refine q_look (look_move rfl rfl) ?_
    refine q_look (look_mul rfl rfl rfl rfl (by unfold I64; omega)) ?_
    refine q_look (look_quo rfl rfl rfl rfl (by omega) (by omega) (by omega)) ?_
    refine q_look (look_assign rfl rfl) ?_
    refine q_nil ?_
    intro w1 hw1
    refine then_normal ?_
    refine wp_ret ?_
    exact res1 Tryd.results19 rfl ⟨ret_int (by unfold volP metalP; rw [if_pos hl]), hu0.comp hw1⟩

theorem refmass_any (x : B) (t len : Int) (w : World) :
    Calls Tryd.prog 21 #[.agg #[.int .i64 x.kind, .int .i64 x.fr, .int .i64 x.un, .int .i64 x.gap, .int .i64 x.face, .int .i64 x.run], .int .i64 t, .int .i64 len] w fun e w' => e = .returned (.int .i64 (massP x t len)) ∧ Ext w w' := by
  refine calls_act Tryd.func21 rfl Tryd.ntmps21 rfl rfl ?_
  show Code.wp _ _ _ (act 20 [(0, true, .agg #[.int .i64 x.kind, .int .i64 x.fr, .int .i64 x.un, .int .i64 x.gap, .int .i64 x.face, .int .i64 x.run]), (1, true, .int .i64 t), (2, true, .int .i64 len)] _) _
  refine wp_seq ?_
  refine wp_region_lit ?_
  refine s_box rfl ?_
  intro g0 u0 hu0 hB0 hg0 hs0
  refine s_look (look_assign rfl rfl) ?_
  refine s_nil ?_
  refine then_normal ?_
  refine wp_seq ?_
  refine wp_seq ?_
  refine region_s ?_
  refine q_look (look_move rfl rfl) ?_
  refine q_look (look_lss rfl rfl rfl rfl) ?_
  refine q_look (look_move rfl rfl) ?_
  refine q_lookg rfl rfl rfl (fun hq => look_move rfl rfl) ?_
  refine q_lookg rfl rfl rfl (fun hq => look_gtr rfl hq rfl rfl) ?_
  refine q_look (look_or rfl rfl rfl rfl) ?_
  refine q_nil ?_
  rintro _ rfl
  refine then_normal ?_
  refine cond_split rfl (fun hc12 => ?_) (fun hc12 => ?_)
  · have hl : ¬ (0 ≤ len ∧ len ≤ 32768) := by simp at hc12; omega
    refine wp_seq ?_
    refine region_s ?_
    refine q_look (look_assign rfl rfl) ?_
    refine q_nil ?_
    rintro _ rfl
    refine then_normal ?_
    refine wp_ret ?_
    refine then_ret ?_
    exact res1 Tryd.results21 rfl ⟨ret_int (by unfold massP metalP; rw [if_neg hl]; rfl), hu0⟩
  · have hl : 0 ≤ len ∧ len ≤ 32768 := by simp at hc12; omega
    have hab := area_bd x t
    have hmb := mul_bd hab.1 hab.2 hl.1 hl.2
    refine wp_skip ?_
    refine then_normal ?_
    refine wp_seq ?_
    refine region_q ?_
    refine q_look (look_loadN Tryd.underlying28 rfl szTryd_28 rfl rfl rfl (ext_cell_n hB0)) ?_
    refine q_look (look_move rfl rfl) ?_
    refine q_call (vs := [_, _]) enTryd_17 ⟨⟨_, rfl, rfl⟩, ⟨_, rfl, rfl⟩, trivial⟩ (fun wc hw => cext hw (refarea_any x _ wc)) ?_
    refine q_look (look_move rfl rfl) ?_
    refine q_look (look_mul rfl rfl rfl rfl (by unfold I64; omega)) ?_
    refine q_look (look_mul rfl rfl rfl rfl (by unfold I64; omega)) ?_
    refine q_look (look_quo rfl rfl rfl rfl (by omega) (by omega) (by omega)) ?_
    refine q_look (look_assign rfl rfl) ?_
    refine q_nil ?_
    intro w1 hw1
    refine then_normal ?_
    refine wp_ret ?_
    exact res1 Tryd.results21 rfl ⟨ret_int (by unfold massP metalP; rw [if_pos hl]), hu0.comp hw1⟩

theorem match_any (x y : B) (w : World) :
    Calls Tryd.prog 22 #[.agg #[.int .i64 x.kind, .int .i64 x.fr, .int .i64 x.un, .int .i64 x.gap, .int .i64 x.face, .int .i64 x.run], .agg #[.int .i64 y.kind, .int .i64 y.fr, .int .i64 y.un, .int .i64 y.gap, .int .i64 y.face, .int .i64 y.run]] w fun e w' => e = .returned (.bool (matchP x y)) ∧ Ext w w' := by
  refine calls_act Tryd.func22 rfl Tryd.ntmps22 rfl rfl ?_
  show Code.wp _ _ _ (act 24 [(0, true, .agg #[.int .i64 x.kind, .int .i64 x.fr, .int .i64 x.un, .int .i64 x.gap, .int .i64 x.face, .int .i64 x.run]), (1, true, .agg #[.int .i64 y.kind, .int .i64 y.fr, .int .i64 y.un, .int .i64 y.gap, .int .i64 y.face, .int .i64 y.run])] _) _
  refine wp_seq ?_
  refine wp_region_lit ?_
  refine s_box rfl ?_
  intro g0 u0 hu0 hB0 hg0 hs0
  refine s_box rfl ?_
  intro g1 u1 hu1 hB1 hg1 hs1
  refine s_look (look_assign rfl rfl) ?_
  refine s_nil ?_
  refine then_normal ?_
  refine wp_seq ?_
  refine region_s ?_
  refine q_look (look_fieldAddr Tryd.underlying28 rfl (fun _ _ => rfl) rfl rfl) ?_
  refine q_look (look_load1 Tryd.underlying3 rfl rfl rfl (eqc ((hB0.ext hu1).cell rfl))) ?_
  refine q_look (look_fieldAddr Tryd.underlying28 rfl (fun _ _ => rfl) rfl rfl) ?_
  refine q_look (look_load1 Tryd.underlying3 rfl rfl rfl (eqc (hB1.cell rfl))) ?_
  refine q_look (look_eql rfl rfl rfl rfl) ?_
  refine q_look (look_move rfl rfl) ?_
  refine q_lookg rfl rfl rfl (fun hq => look_fieldAddr Tryd.underlying28 rfl (fun _ _ => rfl) rfl rfl) ?_
  refine q_lookg rfl rfl rfl (fun hq => look_load1 Tryd.underlying3 rfl rfl hq (eqc ((hB0.ext hu1).cell rfl))) ?_
  refine q_lookg rfl rfl rfl (fun hq => look_fieldAddr Tryd.underlying28 rfl (fun _ _ => rfl) rfl rfl) ?_
  refine q_lookg rfl rfl rfl (fun hq => look_load1 Tryd.underlying3 rfl rfl hq (eqc (hB1.cell rfl))) ?_
  refine q_lookg rfl rfl rfl (fun hq => look_eql rfl hq rfl hq) ?_
  refine q_look (look_and rfl rfl rfl rfl) ?_
  refine q_look (look_move rfl rfl) ?_
  refine q_lookg rfl rfl rfl (fun hq => look_fieldAddr Tryd.underlying28 rfl (fun _ _ => rfl) rfl rfl) ?_
  refine q_lookg rfl rfl rfl (fun hq => look_load1 Tryd.underlying3 rfl rfl hq (eqc ((hB0.ext hu1).cell rfl))) ?_
  refine q_lookg rfl rfl rfl (fun hq => look_fieldAddr Tryd.underlying28 rfl (fun _ _ => rfl) rfl rfl) ?_
  refine q_lookg rfl rfl rfl (fun hq => look_load1 Tryd.underlying3 rfl rfl hq (eqc (hB1.cell rfl))) ?_
  refine q_lookg rfl rfl rfl (fun hq => look_eql rfl hq rfl hq) ?_
  refine q_look (look_and rfl rfl rfl rfl) ?_
  refine q_look (look_assign rfl rfl) ?_
  refine q_nil ?_
  rintro _ rfl
  refine then_normal ?_
  refine wp_ret ?_
  exact res1 Tryd.results22 rfl ⟨rfl, hu0.comp hu1⟩

theorem refmatch_any (x y : B) (w : World) :
    Calls Tryd.prog 23 #[.agg #[.int .i64 x.kind, .int .i64 x.fr, .int .i64 x.un, .int .i64 x.gap, .int .i64 x.face, .int .i64 x.run], .agg #[.int .i64 y.kind, .int .i64 y.fr, .int .i64 y.un, .int .i64 y.gap, .int .i64 y.face, .int .i64 y.run]] w fun e w' => e = .returned (.bool (matchP x y)) ∧ Ext w w' := by
  refine calls_act Tryd.func23 rfl Tryd.ntmps23 rfl rfl ?_
  show Code.wp _ _ _ (act 24 [(0, true, .agg #[.int .i64 x.kind, .int .i64 x.fr, .int .i64 x.un, .int .i64 x.gap, .int .i64 x.face, .int .i64 x.run]), (1, true, .agg #[.int .i64 y.kind, .int .i64 y.fr, .int .i64 y.un, .int .i64 y.gap, .int .i64 y.face, .int .i64 y.run])] _) _
  refine wp_seq ?_
  refine wp_region_lit ?_
  refine s_box rfl ?_
  intro g0 u0 hu0 hB0 hg0 hs0
  refine s_box rfl ?_
  intro g1 u1 hu1 hB1 hg1 hs1
  refine s_look (look_assign rfl rfl) ?_
  refine s_nil ?_
  refine then_normal ?_
  refine wp_seq ?_
  refine region_s ?_
  refine q_look (look_fieldAddr Tryd.underlying28 rfl (fun _ _ => rfl) rfl rfl) ?_
  refine q_look (look_load1 Tryd.underlying3 rfl rfl rfl (eqc ((hB0.ext hu1).cell rfl))) ?_
  refine q_look (look_fieldAddr Tryd.underlying28 rfl (fun _ _ => rfl) rfl rfl) ?_
  refine q_look (look_load1 Tryd.underlying3 rfl rfl rfl (eqc (hB1.cell rfl))) ?_
  refine q_look (look_eql rfl rfl rfl rfl) ?_
  refine q_look (look_move rfl rfl) ?_
  refine q_lookg rfl rfl rfl (fun hq => look_fieldAddr Tryd.underlying28 rfl (fun _ _ => rfl) rfl rfl) ?_
  refine q_lookg rfl rfl rfl (fun hq => look_load1 Tryd.underlying3 rfl rfl hq (eqc ((hB0.ext hu1).cell rfl))) ?_
  refine q_lookg rfl rfl rfl (fun hq => look_fieldAddr Tryd.underlying28 rfl (fun _ _ => rfl) rfl rfl) ?_
  refine q_lookg rfl rfl rfl (fun hq => look_load1 Tryd.underlying3 rfl rfl hq (eqc (hB1.cell rfl))) ?_
  refine q_lookg rfl rfl rfl (fun hq => look_eql rfl hq rfl hq) ?_
  refine q_look (look_and rfl rfl rfl rfl) ?_
  refine q_look (look_move rfl rfl) ?_
  refine q_lookg rfl rfl rfl (fun hq => look_fieldAddr Tryd.underlying28 rfl (fun _ _ => rfl) rfl rfl) ?_
  refine q_lookg rfl rfl rfl (fun hq => look_load1 Tryd.underlying3 rfl rfl hq (eqc ((hB0.ext hu1).cell rfl))) ?_
  refine q_lookg rfl rfl rfl (fun hq => look_fieldAddr Tryd.underlying28 rfl (fun _ _ => rfl) rfl rfl) ?_
  refine q_lookg rfl rfl rfl (fun hq => look_load1 Tryd.underlying3 rfl rfl hq (eqc (hB1.cell rfl))) ?_
  refine q_lookg rfl rfl rfl (fun hq => look_eql rfl hq rfl hq) ?_
  refine q_look (look_and rfl rfl rfl rfl) ?_
  refine q_look (look_assign rfl rfl) ?_
  refine q_nil ?_
  rintro _ rfl
  refine then_normal ?_
  refine wp_ret ?_
  exact res1 Tryd.results23 rfl ⟨rfl, hu0.comp hu1⟩

end Go.Proofs.YtbmkkepmecpffaaDoor
