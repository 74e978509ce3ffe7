/- The walks of chapter 44 (route): the law RouteParts. -/
import Derived.Test.YtbmchijgejgboaaQb
import Derived.Test.YtbmchijgejgboaaLb
namespace Go.Proofs.Ytbmchijgejgboaa
open Go Go.RowKit Core
set_option linter.unusedVariables false
set_option linter.unusedSimpArgs false
attribute [local irreducible] wpQuiet wpList wpH wpT Code.wp Calls bodyPost act


theorem big_f2 {g : Gr} (h : (!smallB g || !decide (chkP g = 0)) = false) : chkP g = 0 := nd_f (or_f h).2
theorem len_pos (a : Cl) (r : List Cl) : decide (((a :: r).length : Int) = 0) = false := decide_eq_false (by simp only [List.length_cons]; omega)
theorem parts_f {er1 er2 co1 co2 x y : Int} (h1 : er1 = 0) (h2 : er2 = 0) (h3 : co2 ≤ x) (h4 : co1 ≤ y) : (((!decide (er1 = 0) || !decide (er2 = 0)) || decide (x < co2)) || decide (y < co1)) = false := by
  rw [decide_eq_true h1, decide_eq_true h2, decide_eq_false (by omega), decide_eq_false (by omega)]; rfl
theorem parts_t {co1 co2 n bend : Int} (h1 : co1 + co2 ≤ n) (h2 : bend = 0 → co1 + co2 = n) : (decide (co1 + co2 ≤ n) && (!decide (bend = 0) || decide (co1 + co2 = n))) = true := by
  rw [decide_eq_true h1]
  by_cases h : bend = 0
  · rw [decide_eq_true (h2 h)]; simp
  · rw [decide_eq_false h]; rfl


theorem mod_ix (k : Int) {n : Nat} (h : 0 < n) : ∃ i : Nat, k % (n : Int) = (i : Int) ∧ i < n := by
  have h1 := Int.emod_nonneg k (show (n : Int) ≠ 0 by omega)
  have h2 := Int.emod_lt_of_pos k (show (0 : Int) < n by omega)
  exact ⟨(k % (n : Int)).toNat, by omega, by omega⟩
theorem drop_sl {w : World} {A : Option Addr} {l : List Cl} {cap : Nat} (h : Sl ccell 3 w A l) (hc : l.length ≤ cap) (i : Nat) : Sl ccell 3 w (cutA A cap i 3) (l.drop i) := by
  have := h.cut hc i l.length
  rw [List.take_length] at this; exact this
theorem take_sl {w : World} {A : Option Addr} {l : List Cl} {cap : Nat} (h : Sl ccell 3 w A l) (hc : l.length ≤ cap) (i : Nat) : Sl ccell 3 w (cutA A cap 0 3) (l.take i) := by
  have := h.cut hc 0 i
  exact this
theorem drop_len {l : List Cl} {i : Nat} (h : i < l.length) : (l.drop i).length = l.length - i := List.length_drop
theorem take_len2 {l : List Cl} {i : Nat} (h : i < l.length) : (l.take (i + 1)).length = i + 1 := by rw [List.length_take]; omega
theorem cost_as {A : Option Addr} {n m c : Nat} {bend z : Int} {w : World} (h : n = m) (k : Calls Try.prog 15 #[.slice A n c, .int .i64 bend] w fun e w' => e = .returned (.int .i64 z) ∧ Ext w w') : Calls Try.prog 15 #[.slice A m c, .int .i64 bend] w fun e w' => e = .returned (.int .i64 z) ∧ Ext w w' := h ▸ k
theorem wc_le {bend : Int} (hb : 0 ≤ bend) : ∀ (r : List Cl) (u c : Cl), wc bend u c r ≤ (1 + bend) * r.length
  | [], _, _ => by simp [wc]
  | d :: r, u, c => by
    have h1 := wc_le hb r (csub d c) d
    have h2 := stepP_bd hb u (csub d c)
    simp only [wc, List.length_cons, Int.natCast_add, Int.natCast_one, Int.mul_add, Int.mul_one]; omega
theorem gd_small {g : Gr} {bend : Int} {a b : Cl} {r : List Cl} (hs : szA g = true) (h : Gd g bend b c0 a r) (hb : 0 ≤ bend ∧ bend ≤ 1000) (ha : Fre g a) : wc bend c0 a r ≤ 4004000000000000 := by
  have h1 := gd_len hs h hb ha
  have h2 := wc_le hb.1 r c0 a
  have h3 : (1 + bend) * (r.length : Int) ≤ 1001 * 4000000000000 := Int.le_trans (Int.mul_le_mul_of_nonneg_right (show 1 + bend ≤ 1001 by omega) (by omega)) (Int.mul_le_mul_of_nonneg_left (by simp only [List.length_cons] at h1; omega) (by omega))
  omega

theorem parts_law (g : Gr) (t : It) (k : Int) (w : World) (hG : GOk w g) (hk : 0 ≤ k ∧ k ≤ 255) :
    Calls Try.prog 9 #[.agg (gcell g).toArray, .agg (itcell t).toArray, .int .u8 k] w fun e w' => e = .returned (.bool (true)) ∧ Ext w w' := by
  refine calls_act Try.func9 rfl Try.ntmps9 rfl rfl ?_
  show Code.wp _ _ _ (act 124 [(0, true, .agg (gcell g).toArray), (1, true, .agg (itcell t).toArray), (2, true, .int .u8 k)] _) _
  have hX : Ext w w := Ext.rfl' w
  refine wp_seq ?_
  refine wp_region_lit ?_
  refine s_box rfl ?_
  intro g1 u1 hu1 hB1 hg1 hs1
  replace hB1 : Blk u1 g1 24 (gcell g) := hB1
  have ge_g1 : w.heap.size ≤ g1 := by have := hX.size; omega
  replace hX := hX.comp hu1
  refine s_box rfl ?_
  intro g2 u2 hu2 hB2 hg2 hs2
  replace hB2 : Blk u2 g2 37 (itcell t) := hB2
  have lt_g1_g2 : g1 < g2 := by have := hB1.lt; omega
  have ge_g2 : w.heap.size ≤ g2 := by have := hX.size; omega
  replace hX := hX.comp hu2
  replace hB1 := hB1.ext hu2
  refine s_look (look_assign rfl rfl) ?_
  refine s_nil ?_
  refine then_normal ?_
  refine wp_seq ?_
  refine wp_seq ?_
  refine region_q ?_
  refine q_look (look_loadN Try.underlying24 rfl szTry_24 rfl rfl rfl (ext_cell_n hB1)) ?_
  refine q_call (vs := [_]) enTry_20 ⟨⟨_, rfl, rfl⟩, trivial⟩ (fun wc hw => cext hw (small_any g wc (hG.ext (hX.comp hw)))) ?_
  refine q_look (look_not rfl rfl) ?_
  refine q_look (look_move rfl rfl) ?_
  refine q_lookg rfl rfl rfl (fun hq => look_loadN Try.underlying24 rfl szTry_24 rfl rfl rfl (ext_cell_n hB1)) ?_
  refine q_callg (vs := [_]) rfl rfl rfl enTry_12 (fun hq => ⟨⟨_, rfl, hq⟩, trivial⟩) (fun hq wc hw => cext hw (refcheckgrid_any g wc (hG.ext (hX.comp hw)))) ?_
  refine q_lookg rfl rfl rfl (fun hq => look_neq rfl hq rfl rfl) ?_
  refine q_look (look_or rfl rfl rfl rfl) ?_
  refine q_nil ?_
  intro w1 hw1
  replace hX := hX.comp hw1
  replace hB1 := hB1.ext hw1
  replace hB2 := hB2.ext hw1
  refine then_normal ?_
  refine cond_split rfl (fun hc24 => ?_) (fun hc24 => ?_)
  · skip
    refine wp_seq ?_
    refine region_q ?_
    refine q_call (vs := []) enTry_10 trivial (fun wc hw => cext hw (awake_any wc)) ?_
    refine q_look (look_assign rfl rfl) ?_
    refine q_nil ?_
    intro w2 hw2
    replace hX := hX.comp hw2
    replace hB1 := hB1.ext hw2
    replace hB2 := hB2.ext hw2
    refine then_normal ?_
    refine wp_ret ?_
    refine then_ret ?_
    exact res1 Try.results9 rfl ⟨ret_bool (by first | rfl | (rw [parts_t q5 q6]; rfl)), hX⟩
  · have h0 := big_f2 hc24
    have hs := (chk_ok h0).1
    refine wp_skip ?_
    refine then_normal ?_
    refine wp_seq ?_
    refine wp_region_lit ?_
    refine s_look (look_loadN Try.underlying24 rfl szTry_24 rfl rfl rfl (eqc_n hB1)) ?_
    refine s_look (look_fieldAddr Try.underlying37 rfl (fun _ _ => rfl) rfl rfl) ?_
    refine s_look (look_loadN Try.underlying35 rfl szTry_35 rfl rfl rfl (cs := ccell t.at_) (eqn (Blk.sub hB2 rfl))) ?_
    refine s_look (look_fieldAddr Try.underlying37 rfl (fun _ _ => rfl) rfl rfl) ?_
    refine s_look (look_loadN Try.underlying35 rfl szTry_35 rfl rfl rfl (cs := ccell t.by_) (eqn (Blk.sub hB2 rfl))) ?_
    refine s_look (look_fieldAddr Try.underlying37 rfl (fun _ _ => rfl) rfl rfl) ?_
    refine s_look (look_load1 Try.underlying3 rfl rfl rfl (eqc (hB2.cell rfl))) ?_
    refine s_call (vs := [_, _, _, _]) enTry_21 ⟨⟨_, rfl, rfl⟩, ⟨_, rfl, rfl⟩, ⟨_, rfl, rfl⟩, ⟨_, rfl, rfl⟩, trivial⟩ (path_any g t.at_ t.by_ t.left _ (hG.ext hX)) ?_
    rintro _ u3 ⟨v3, pshP, cohP, erhP, rfl, hc3, hP, pShP⟩
    refine ⟨_, rfl, ?_⟩
    have ne_hP_g1 : Value.ownBlock v3 ≠ some g1 := hP.ne_old hB1.lt
    have ne_hP_g2 : Value.ownBlock v3 ≠ some g2 := hP.ne_old hB2.lt
    replace hP := hP.weak hX.size
    replace hX := hX.comp hc3
    replace hB1 := hB1.ext hc3
    replace hB2 := hB2.ext hc3
    obtain ⟨AhP, chP, rfl, _⟩ := hP.sl hce_c
    refine s_look (look_move rfl rfl) ?_
    refine s_look (look_extract rfl rfl rfl) ?_
    refine s_look (look_extract rfl rfl rfl) ?_
    refine s_look (look_extract rfl rfl rfl) ?_
    refine s_look (look_assign rfl rfl) ?_
    refine s_look (look_assign rfl rfl) ?_
    refine s_look (look_assign rfl rfl) ?_
    refine s_nil ?_
    refine then_normal ?_
    refine wp_seq ?_
    refine wp_seq ?_
    refine region_s ?_
    refine q_look (look_move rfl rfl) ?_
    refine q_look (look_neq rfl rfl rfl rfl) ?_
    refine q_nil ?_
    rintro _ rfl
    refine then_normal ?_
    refine cond_split rfl (fun hc39 => ?_) (fun hc39 => ?_)
    · have he : ¬ (erhP = 0) := nd_t hc39
      refine wp_seq ?_
      refine region_q ?_
      refine q_call (vs := []) enTry_10 trivial (fun wc hw => cext hw (awake_any wc)) ?_
      refine q_look (look_assign rfl rfl) ?_
      refine q_nil ?_
      intro w3 hw3
      replace hX := hX.comp hw3
      replace hB1 := hB1.ext hw3
      replace hB2 := hB2.ext hw3
      replace hP := hP.ext hw3
      refine then_normal ?_
      refine wp_ret ?_
      refine then_ret ?_
      exact res1 Try.results9 rfl ⟨ret_bool (by first | rfl | (rw [parts_t q5 q6]; rfl)), hX⟩
    · have he := nd_f hc39
      obtain ⟨_, hfa, hfb, hbd, r, rfl, hGd, hco⟩ := good1 pShP he
      have hmx := Own.lenB hP
      obtain ⟨b1, o1, rfl, hr1⟩ := (hP.slOf hce_c).1.at_ (show 0 < (t.at_ :: r).length by simp)
      have hPs : Sl ccell 3 _ (some ⟨b1, o1, none⟩) (t.at_ :: r) := (hP.slOf hce_c).1
      have hcap := (hP.slOf hce_c).2.2.1
      obtain ⟨i, hi, hil⟩ : ∃ i : Nat, k % (((t.at_ :: r).length : Nat) : Int) = (i : Int) ∧ i < (t.at_ :: r).length := mod_ix k (by simp)
      have hgi := get_path hil
      obtain ⟨p, hp⟩ : ∃ p, p = lastC t.at_ (r.take i) := ⟨_, rfl⟩
      rw [← hp] at hgi
      refine wp_skip ?_
      refine then_normal ?_
      refine wp_seq ?_
      refine wp_seq ?_
      refine region_s ?_
      refine q_look (look_move rfl rfl) ?_
      refine q_look (look_len_slice Try.underlying22 rfl rfl) ?_
      refine q_look (look_eql rfl rfl rfl rfl) ?_
      refine q_nil ?_
      rintro _ rfl
      refine then_normal ?_
      refine cond_false rfl (by rw [len_pos]) ?_
      refine wp_skip ?_
      refine then_normal ?_
      refine wp_seq ?_
      refine region_s ?_
      refine q_look (look_move rfl rfl) ?_
      refine q_look (look_conv_int Try.underlying3 Try.underlying5 rfl rfl (wrap_I64 (by unfold I64; omega))) ?_
      refine q_look (look_move rfl rfl) ?_
      refine q_look (look_len_slice Try.underlying22 rfl rfl) ?_
      refine q_look (Look.as (look_rem rfl rfl rfl rfl (by omega) (by simp only [List.length_cons]; omega)) (v' := .int .i64 (i : Int)) (by rw [hi])) ?_
      refine q_look (look_assign rfl rfl) ?_
      refine q_nil ?_
      rintro _ rfl
      refine then_normal ?_
      refine wp_seq ?_
      refine region_h (fun W => Ext w W ∧ Blk W g1 24 (gcell g) ∧ Blk W g2 37 (itcell t) ∧ Sl ccell 3 W (some ⟨b1, o1, none⟩) (t.at_ :: r)) [(0, true), (1, true), (2, true), (3, true), (4, true), (5, true), (6, true), (7, true), (8, true), (9, false), (10, true), (11, true), (12, true), (13, true), (14, true), (15, true), (16, true)] mixed (by kernel_rfl) rfl (by kernel_rfl) (by repeat (first | exact pk_body | refine pk_then ?_ | refine pk_block ?_))  ?_
      intro u4 hR4
      replace hX := hX.comp hR4
      replace hB1 := hB1.ext hR4
      replace hB2 := hB2.ext hR4
      replace hP := hP.ext hR4
      replace hPs := hPs.ext hR4
      refine ⟨⟨hX, hB1, hB2, hPs⟩, ?_⟩
      refine h_look rfl (look_loadN Try.underlying24 rfl szTry_24 rfl rfl rfl (fun w' hS j v hv => by rw [Nat.zero_add]; exact (hS.2.1).cell hv)) ?_
      refine h_look rfl (look_fieldAddr Try.underlying37 rfl (fun _ _ => rfl) rfl rfl) ?_
      refine h_look rfl (look_loadN Try.underlying35 rfl szTry_35 rfl rfl rfl (cs := ccell t.at_) (fun w' hS => Blk.sub hS.2.2.1 rfl)) ?_
      refine h_look rfl (look_move rfl rfl) ?_
      refine h_look rfl (look_move rfl rfl) ?_
      refine h_look rfl (look_indexAddr _ Try.underlying22 szTry_35 rfl rfl rfl rfl rfl (by omega)) ?_
      refine h_look rfl (look_loadN Try.underlying35 rfl szTry_35 rfl rfl rfl (cs := ccell p) (fun w' hS => (hS.2.2.2.rd i p hgi))) ?_
      refine h_look rfl (look_fieldAddr Try.underlying37 rfl (fun _ _ => rfl) rfl rfl) ?_
      refine h_look rfl (look_load1 Try.underlying3 rfl rfl rfl (fun w' hS => (hS.2.2.1).cell rfl)) ?_
      refine h_seq rfl ?_ ⟨hX, hB1, hB2, hPs⟩
      refine s_call (vs := [_, _, _, _]) enTry_21 ⟨⟨_, rfl, rfl⟩, ⟨_, rfl, rfl⟩, ⟨_, rfl, rfl⟩, ⟨_, rfl, rfl⟩, trivial⟩ (path_any g t.at_ p t.left _ (hG.ext hX)) ?_
      rintro _ u5 ⟨v5, pshQ, cohQ, erhQ, rfl, hc5, hQ, pShQ⟩
      refine ⟨_, rfl, ?_⟩
      have dis_hP_hQ := Own.dis_new hP hQ
      have ne_hQ_g1 : Value.ownBlock v5 ≠ some g1 := hQ.ne_old hB1.lt
      have ne_hQ_g2 : Value.ownBlock v5 ≠ some g2 := hQ.ne_old hB2.lt
      replace hQ := hQ.weak hX.size
      replace hX := hX.comp hc5
      replace hB1 := hB1.ext hc5
      replace hB2 := hB2.ext hc5
      replace hP := hP.ext hc5
      replace hPs := hPs.ext hc5
      obtain ⟨AhQ, chQ, rfl, _⟩ := hQ.sl hce_c
      refine s_nil ?_
      refine then_normal ?_
      refine ⟨⟨hX, hB1, hB2, hPs⟩, ?_⟩
      refine h_look rfl (look_move rfl rfl) ?_
      refine h_look rfl (look_extract rfl rfl rfl) ?_
      refine h_look rfl (look_extract rfl rfl rfl) ?_
      refine h_look rfl (look_extract rfl rfl rfl) ?_
      refine h_look rfl (look_assign rfl rfl) ?_
      refine h_look rfl (look_assign rfl rfl) ?_
      refine h_look rfl (look_assign rfl rfl) ?_
      refine h_nil ?_
      refine then_normal ?_
      refine wp_seq ?_
      refine region_h (fun W => Ext w W ∧ Blk W g1 24 (gcell g) ∧ Blk W g2 37 (itcell t) ∧ Sl ccell 3 W (some ⟨b1, o1, none⟩) (t.at_ :: r)) [(0, true), (1, true), (2, true), (3, true), (4, true), (5, true), (6, true), (7, true), (8, true), (9, false), (10, true), (11, true), (12, true), (13, true), (14, true), (15, true), (16, true)] mixed (by kernel_rfl) rfl (by kernel_rfl) (by repeat (first | exact pk_body | refine pk_then ?_ | refine pk_block ?_))  ?_
      intro u6 hR6
      replace hX := hX.comp hR6
      replace hB1 := hB1.ext hR6
      replace hB2 := hB2.ext hR6
      replace hP := hP.ext hR6
      replace hQ := hQ.ext hR6
      replace hPs := hPs.ext hR6
      refine ⟨⟨hX, hB1, hB2, hPs⟩, ?_⟩
      refine h_look rfl (look_loadN Try.underlying24 rfl szTry_24 rfl rfl rfl (fun w' hS j v hv => by rw [Nat.zero_add]; exact (hS.2.1).cell hv)) ?_
      refine h_look rfl (look_move rfl rfl) ?_
      refine h_look rfl (look_move rfl rfl) ?_
      refine h_look rfl (look_indexAddr _ Try.underlying22 szTry_35 rfl rfl rfl rfl rfl (by omega)) ?_
      refine h_look rfl (look_loadN Try.underlying35 rfl szTry_35 rfl rfl rfl (cs := ccell p) (fun w' hS => (hS.2.2.2.rd i p hgi))) ?_
      refine h_look rfl (look_fieldAddr Try.underlying37 rfl (fun _ _ => rfl) rfl rfl) ?_
      refine h_look rfl (look_loadN Try.underlying35 rfl szTry_35 rfl rfl rfl (cs := ccell t.by_) (fun w' hS => Blk.sub hS.2.2.1 rfl)) ?_
      refine h_look rfl (look_fieldAddr Try.underlying37 rfl (fun _ _ => rfl) rfl rfl) ?_
      refine h_look rfl (look_load1 Try.underlying3 rfl rfl rfl (fun w' hS => (hS.2.2.1).cell rfl)) ?_
      refine h_seq rfl ?_ ⟨hX, hB1, hB2, hPs⟩
      refine s_call (vs := [_, _, _, _]) enTry_21 ⟨⟨_, rfl, rfl⟩, ⟨_, rfl, rfl⟩, ⟨_, rfl, rfl⟩, ⟨_, rfl, rfl⟩, trivial⟩ (path_any g p t.by_ t.left _ (hG.ext hX)) ?_
      rintro _ u7 ⟨v7, pshR, cohR, erhR, rfl, hc7, hR, pShR⟩
      refine ⟨_, rfl, ?_⟩
      have dis_hP_hR := Own.dis_new hP hR
      have dis_hQ_hR := Own.dis_new hQ hR
      have ne_hR_g1 : Value.ownBlock v7 ≠ some g1 := hR.ne_old hB1.lt
      have ne_hR_g2 : Value.ownBlock v7 ≠ some g2 := hR.ne_old hB2.lt
      replace hR := hR.weak hX.size
      replace hX := hX.comp hc7
      replace hB1 := hB1.ext hc7
      replace hB2 := hB2.ext hc7
      replace hP := hP.ext hc7
      replace hQ := hQ.ext hc7
      replace hPs := hPs.ext hc7
      obtain ⟨AhR, chR, rfl, _⟩ := hR.sl hce_c
      refine s_nil ?_
      refine then_normal ?_
      refine ⟨⟨hX, hB1, hB2, hPs⟩, ?_⟩
      refine h_look rfl (look_move rfl rfl) ?_
      refine h_look rfl (look_extract rfl rfl rfl) ?_
      refine h_look rfl (look_extract rfl rfl rfl) ?_
      refine h_look rfl (look_extract rfl rfl rfl) ?_
      refine h_look rfl (look_assign rfl rfl) ?_
      refine h_look rfl (look_assign rfl rfl) ?_
      refine h_look rfl (look_assign rfl rfl) ?_
      refine h_nil ?_
      refine then_normal ?_
      refine wp_seq ?_
      refine wp_seq ?_
      rw [hp] at pShQ pShR
      obtain ⟨q1, q2, q3, q4, q5, q6, q7⟩ := parts_ok h0 hfa hfb hbd hGd hil pShQ pShR
      rw [← hco] at q5 q6
      have hln := gd_len hs hGd hbd hfa
      refine region_qd mixed (by kernel_rfl) ?_
      refine q_look (look_move rfl rfl) ?_
      refine q_look (look_neq rfl rfl rfl rfl) ?_
      refine q_look (look_move rfl rfl) ?_
      refine q_lookg rfl rfl rfl (fun hq => look_move rfl rfl) ?_
      refine q_lookg rfl rfl rfl (fun hq => look_neq rfl hq rfl rfl) ?_
      refine q_look (look_or rfl rfl rfl rfl) ?_
      refine q_look (look_move rfl rfl) ?_
      refine q_lookg rfl rfl rfl (fun hq => look_move rfl rfl) ?_
      refine q_lookg rfl rfl rfl (fun hq => look_move rfl rfl) ?_
      refine q_lookg rfl rfl rfl (fun hq => look_move rfl rfl) ?_
      refine q_lookg rfl rfl rfl (fun hq => look_slice_l (lo := i) Try.underlying22 szTry_35 rfl hq rfl hq rfl (by omega)) ?_
      refine q_lookg rfl rfl rfl (fun hq => look_fieldAddr Try.underlying37 rfl (fun _ _ => rfl) rfl rfl) ?_
      refine q_lookg rfl rfl rfl (fun hq => look_load1 Try.underlying3 rfl rfl hq (ext_cell (hB2.cell rfl))) ?_
      refine q_callg (vs := [_, _]) rfl rfl rfl enTry_15 (fun hq => ⟨⟨_, rfl, hq⟩, ⟨_, rfl, hq⟩, trivial⟩) (fun hq wc hw => cext hw (cost_as (drop_len hil) (cost_any (((t.at_ :: r)).drop i) (cutA (some ⟨b1, o1, none⟩) chP i 3) (chP - i) t.left wc (drop_sl (hPs.ext hw) hcap i) (by rw [List.length_drop]; omega) (by rw [List.length_drop]; omega)))) ?_
      refine q_lookg rfl rfl rfl (fun hq => look_gtr rfl hq rfl hq) ?_
      refine q_look (look_or rfl rfl rfl rfl) ?_
      refine q_look (look_move rfl rfl) ?_
      refine q_lookg rfl rfl rfl (fun hq => look_move rfl rfl) ?_
      refine q_lookg rfl rfl rfl (fun hq => look_move rfl rfl) ?_
      refine q_lookg rfl rfl rfl (fun hq => look_move rfl rfl) ?_
      refine q_lookg rfl rfl rfl (fun hq => look_add rfl hq rfl rfl (by have := maxLen_is; unfold I64; omega)) ?_
      refine q_lookg rfl rfl rfl (fun hq => look_slice_h (hi := i + 1) Try.underlying22 szTry_35 rfl hq rfl hq rfl (by omega)) ?_
      refine q_lookg rfl rfl rfl (fun hq => look_fieldAddr Try.underlying37 rfl (fun _ _ => rfl) rfl rfl) ?_
      refine q_lookg rfl rfl rfl (fun hq => look_load1 Try.underlying3 rfl rfl hq (ext_cell (hB2.cell rfl))) ?_
      refine q_callg (vs := [_, _]) rfl rfl rfl enTry_15 (fun hq => ⟨⟨_, rfl, hq⟩, ⟨_, rfl, hq⟩, trivial⟩) (fun hq wc hw => cext hw (cost_as (take_len2 hil) (cost_any (((t.at_ :: r)).take (i + 1)) (cutA (some ⟨b1, o1, none⟩) chP 0 3) chP t.left wc (take_sl (hPs.ext hw) hcap (i + 1)) (by rw [List.length_take]; omega) (by rw [List.length_take]; omega)))) ?_
      refine q_lookg rfl rfl rfl (fun hq => look_gtr rfl hq rfl hq) ?_
      refine q_look (look_or rfl rfl rfl rfl) ?_
      refine q_nil ?_
      intro w4 hw4
      replace hX := hX.comp hw4
      replace hB1 := hB1.ext hw4
      replace hB2 := hB2.ext hw4
      replace hP := hP.ext hw4
      replace hQ := hQ.ext hw4
      replace hR := hR.ext hw4
      replace hPs := hPs.ext hw4
      refine then_normal ?_
      refine cond_false rfl (by rw [parts_f q1 q2 q3 q4]) ?_
      refine wp_skip ?_
      refine then_normal ?_
      refine wp_seq ?_
      refine region_q ?_
      refine q_look (look_move rfl rfl) ?_
      refine q_look (look_move rfl rfl) ?_
      refine q_look (look_add rfl rfl rfl rfl (by have := gd_small hs hGd hbd hfa; unfold I64; omega)) ?_
      refine q_look (look_move rfl rfl) ?_
      refine q_look (look_leq rfl rfl rfl rfl) ?_
      refine q_look (look_move rfl rfl) ?_
      refine q_lookg rfl rfl rfl (fun hq => look_fieldAddr Try.underlying37 rfl (fun _ _ => rfl) rfl rfl) ?_
      refine q_lookg rfl rfl rfl (fun hq => look_load1 Try.underlying3 rfl rfl hq (ext_cell (hB2.cell rfl))) ?_
      refine q_lookg rfl rfl rfl (fun hq => look_neq rfl hq rfl rfl) ?_
      refine q_lookg rfl rfl rfl (fun hq => look_move rfl hq) ?_
      refine q_lookg rfl rfl rfl (fun hq => look_move rfl rfl) ?_
      refine q_lookg rfl rfl rfl (fun hq => look_move rfl rfl) ?_
      refine q_lookg rfl rfl rfl (fun hq => look_add rfl hq rfl hq (by have := gd_small hs hGd hbd hfa; unfold I64; omega)) ?_
      refine q_lookg rfl rfl rfl (fun hq => look_move rfl rfl) ?_
      refine q_lookg rfl rfl rfl (fun hq => look_eql rfl hq rfl hq) ?_
      refine q_lookg rfl rfl rfl (fun hq => look_or rfl hq rfl hq) ?_
      refine q_look (look_and rfl rfl rfl rfl) ?_
      refine q_look (look_move rfl rfl) ?_
      refine q_callg (vs := []) rfl rfl rfl enTry_10 (fun hq => trivial) (fun hq wc hw => cext hw (awake_any wc)) ?_
      refine q_look (look_and rfl rfl rfl rfl) ?_
      refine q_look (look_assign rfl rfl) ?_
      refine q_nil ?_
      intro w5 hw5
      replace hX := hX.comp hw5
      replace hB1 := hB1.ext hw5
      replace hB2 := hB2.ext hw5
      replace hP := hP.ext hw5
      replace hQ := hQ.ext hw5
      replace hR := hR.ext hw5
      replace hPs := hPs.ext hw5
      refine then_normal ?_
      refine wp_ret ?_
      exact res1 Try.results9 rfl ⟨ret_bool (by first | rfl | (rw [parts_t q5 q6]; rfl)), hX⟩

end Go.Proofs.Ytbmchijgejgboaa
