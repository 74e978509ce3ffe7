/- The walks of chapter 22 (bevel), sixth part: two more laws. -/
import Derived.Test.YtbmkkepmecpffaaDoorF
import Derived.Test.YtbmkkepmecpffaaDoorMore
namespace Go.Proofs.YtbmkkepmecpffaaDoor
open Go Go.RowKit Core
set_option linter.unusedVariables false
set_option linter.unusedSimpArgs false
attribute [local irreducible] wpQuiet wpList Code.wp Calls bodyPost act

theorem zsbTryd_28 : (Tryd.prog.info? 28).map (fun i => (i.zero, i.size, i.bytes)) = some (some (.agg #[.int .i64 0, .int .i64 0, .int .i64 0, .int .i64 0, .int .i64 0, .int .i64 0]), 6, 48) := by kernel_rfl

theorem cap_of {H : Type} {enc : TypeId × Value → H} {P : Program} {w : World} {base : Nat} {sp : Nat → Bool} {held : Bool} {t e len cap : Nat} {A : Option Addr} {d : DataW H} {p : List MemPlace} (ht : P.underlying t = some (.slice e)) (h : DataW.Trod enc P w base sp held t (.slice A len cap) d p) : len ≤ cap ∧ cap ≤ maxLen ∧ (A = none → cap = 0) := by
  obtain ⟨fuel, hf⟩ := h
  exact open_cap ht hf
theorem SlB.one {w : World} {g : Nat} {x : B} (h : Blk w g 28 (bcells x)) : SlB w (some ⟨g, 0, none⟩) [x] := by
  refine .inr ⟨g, 0, rfl, fun i z hz j v hv => ?_⟩
  match i, hz with
  | 0, hz => obtain rfl : x = z := by simpa using hz
             exact h.cell (by simpa using hv)
  | i + 1, hz => simp at hz
theorem check_one (g : Nat) (x : B) (w : World) (hG : G w) (hB : Blk w g 28 (bcells x)) : Calls Tryd.prog 12 #[.slice (some ⟨g, 0, none⟩) 1 1] w fun e w' => e = .returned (.int .i64 (checkP [x])) ∧ Ext w w' :=
  check_any [x] (some ⟨g, 0, none⟩) 1 w hG (SlB.one hB) (by simp)
theorem area_mono {x : B} {t : Int} (h : rightB x = true) (h1 : x.fr ≤ t) (h2 : t < x.un) : areaP x t ≤ areaP x (t + 1) := by
  have hb := (rightB_iff x).1 h
  unfold areaP
  rw [if_pos (show rightB x = true ∧ x.fr ≤ t ∧ t ≤ x.un from ⟨h, h1, by omega⟩), if_pos (show rightB x = true ∧ x.fr ≤ t + 1 ∧ t + 1 ≤ x.un from ⟨h, by omega, by omega⟩)]
  by_cases hk : x.kind = 2
  · rw [if_pos hk, if_pos hk]; omega
  · rw [if_neg hk, if_neg hk]
    have e1 : 200 * x.gap * t ≤ 200 * x.gap * (t + 1) := Int.mul_le_mul_of_nonneg_left (by omega) (by omega)
    have e2 : x.run * (t - x.face) ≤ x.run * (t + 1 - x.face) := Int.mul_le_mul_of_nonneg_left (by omega) (by omega)
    have e3 : x.run * (t - x.face) * (t - x.face) ≤ x.run * (t + 1 - x.face) * (t + 1 - x.face) := Int.mul_le_mul e2 (by omega) (by omega) (Int.mul_nonneg (by omega) (by omega))
    omega
theorem vol_bd (x : B) (t n : Int) : 0 ≤ volP x t n ∧ volP x t n ≤ 1000000000 := by
  have := metal_bd x t n
  unfold volP; omega
theorem vol_add (x : B) (t a b : Int) (ha : 0 ≤ a) (hb : 0 ≤ b) (hab : a + b ≤ 32768) : volP x t (a + b) - volP x t a - volP x t b = 0 ∨ volP x t (a + b) - volP x t a - volP x t b = 1 := by
  unfold volP metalP
  rw [if_pos ⟨by omega, hab⟩, if_pos ⟨ha, by omega⟩, if_pos ⟨hb, by omega⟩, Int.mul_add]
  have h1 : 0 ≤ areaP x t * a := Int.mul_nonneg (area_bd x t).1 ha
  have h2 : 0 ≤ areaP x t * b := Int.mul_nonneg (area_bd x t).1 hb
  omega
theorem chk_of : ∀ (l : List B) (p : Option B), (∀ x ∈ l, rightB x = true) → l.Pairwise ltB → (∀ q, p = some q → ∀ x ∈ l, ltB q x) → chk p l = 0
  | [], _, _, _, _ => rfl
  | a :: r, p, h1, h2, h3 => by
    rw [List.pairwise_cons] at h2
    have ha := h1 a (by simp)
    have hk : knownB a.kind = true := (knownB_iff _).2 ((rightB_iff a).1 ha).1
    have hbad : badP p a = false := by
      cases p with
      | none => rfl
      | some q =>
        have := h3 q rfl a (by simp)
        unfold ltB at this
        simp only [badP, Bool.or_eq_false_iff, Bool.and_eq_false_iff, decide_eq_false_iff_not]; omega
    unfold chk
    rw [if_neg (by simp [hk]), if_neg (by simp [ha]), if_neg (by simp [hbad])]
    exact chk_of r (some a) (fun x hx => h1 x (by simp [hx])) h2.2 (fun q hq x hx => by obtain rfl := Option.some.inj hq; exact h2.1 x hx)
theorem checkP_of {l : List B} (h0 : l.length ≤ 32) (h1 : ∀ x ∈ l, rightB x = true) (h2 : l.Pairwise ltB) : checkP l = 0 := by
  unfold checkP
  rw [if_neg (by omega)]
  exact chk_of l none h1 h2 (by simp)
theorem less_check {l l' : List B} (h : checkP l = 0) (hs : l'.Sublist l) : checkP l' = 0 := by
  have h' := checkP_ok h
  exact checkP_of (Nat.le_trans hs.length_le h'.1) (fun x hx => h'.2.1 x (hs.subset hx)) (h'.2.2.sublist hs)
theorem split_at {l : List B} {i : Nat} {x : B} (hx : l[i]? = some x) : l = l.take i ++ x :: l.drop (i + 1) := by
  rw [← drop_get hx, List.take_append_drop]
theorem less_hit {kind thick : Int} {l : List B} {i : Nat} {x : B} (h : checkP l = 0) (hx : l[i]? = some x) (hp : hits kind thick x = true) : (findP (hits kind thick) (l.take i ++ l.drop (i + 1))).2 = false := by
  have h1 := one_count (kind := kind) (thick := thick) (checkP_ok h).2.2
  have h2 : l.countP (hits kind thick) = (l.take i ++ l.drop (i + 1)).countP (hits kind thick) + 1 := by
    conv => lhs; rw [split_at hx]
    simp only [List.countP_append, List.countP_cons, hp, if_true]; omega
  have h3 : (l.take i ++ l.drop (i + 1)).countP (hits kind thick) = 0 := by split at h1 <;> omega
  have h4 : (l.take i ++ l.drop (i + 1)).find? (hits kind thick) = none := by
    rw [List.find?_eq_none]; rw [List.countP_eq_zero] at h3; exact h3
  unfold findP; rw [h4]
theorem less_no {kind thick : Int} {l : List B} {i : Nat} {x : B} (hx : l[i]? = some x) (hp : ¬ hits kind thick x = true) : findP (hits kind thick) (l.take i ++ l.drop (i + 1)) = findP (hits kind thick) l := by
  have : (l.take i ++ l.drop (i + 1)).find? (hits kind thick) = l.find? (hits kind thick) := by
    conv => rhs; rw [split_at hx]
    rw [List.find?_append, List.find?_append, List.find?_cons_of_neg hp]
  unfold findP; rw [this]
theorem found_hit {p : B → Bool} {l : List B} {x : B} (h : (findP p l).2 = true) (hx : (findP p l).1 = x) : p x = true := by
  unfold findP at h hx
  split at h
  · rename_i y hy
    rw [hy] at hx
    obtain rfl : y = x := hx
    exact List.find?_some hy
  · cases h
theorem oneB (x : B) : ∀ u ∈ bcells x, u.oneCell' = true := by simp [bcells, Value.oneCell']
theorem remAt {k : Int} {n : Nat} (h : 0 < n) : ∃ i : Nat, k % (n : Int) = (i : Int) ∧ i < n := by
  have h1 := Int.emod_nonneg k (show (n : Int) ≠ 0 by omega)
  have h2 := Int.emod_lt_of_pos k (show (0 : Int) < (n : Int) by omega)
  exact ⟨(k % (n : Int)).toNat, by omega, by omega⟩

set_option maxHeartbeats 1000000 in
theorem grows_law (x : B) (k l : Int) (w : World) (hG : G w) (hk : 0 ≤ k ∧ k ≤ 65535) (hl : 0 ≤ l ∧ l ≤ 65535) :
    Calls Tryd.prog 8 #[.agg #[.int .i64 x.kind, .int .i64 x.fr, .int .i64 x.un, .int .i64 x.gap, .int .i64 x.face, .int .i64 x.run], .int .u16 k, .int .u16 l] w fun e w' => e = .returned (.bool true) ∧ Ext w w' := by
  refine calls_act Tryd.func8 rfl Tryd.ntmps8 rfl rfl ?_
  show Code.wp _ _ _ (act 89 [(0, true, .agg #[.int .i64 x.kind, .int .i64 x.fr, .int .i64 x.un, .int .i64 x.gap, .int .i64 x.face, .int .i64 x.run]), (1, true, .int .u16 k), (2, true, .int .u16 l)] _) _
  refine wp_seq ?_
  refine wp_region_lit ?_
  refine s_box rfl ?_
  intro g0 u0 hu0 hB0 hg0 hs0
  refine s_look (look_assign rfl rfl) ?_
  refine s_nil ?_
  refine then_normal ?_
  refine wp_seq ?_
  refine wp_seq ?_
  refine wp_region_lit ?_
  refine s_look (look_loadN Tryd.underlying28 rfl szTryd_28 rfl rfl rfl (cs := bcells x) (fun w' e j v hv => by subst e; rw [Nat.zero_add]; exact hB0.cell hv)) ?_
  refine s_buildSlice (parts := [(0, .tmp 11)]) (vs := [(0, .agg (bcells x).toArray)]) (cells := bcells x) Tryd.underlying22 szTryd_28 zeTryd_28 rfl rfl ⟨⟨_, rfl, rfl⟩, trivial⟩ rfl rfl ?_
  intro g1 v1 hv1 hC1 hg1 hz1
  have e1 : Ext w v1 := hu0.comp hv1
  replace hB0 := hB0.ext hv1
  refine s_call (vs := [_]) enTryd_12 ⟨⟨_, rfl, rfl⟩, trivial⟩ (check_one _ x _ (hG.ext e1) hC1) ?_
  rintro _ cf0 ⟨rfl, hcf0⟩
  refine ⟨_, rfl, ?_⟩
  have e2 : Ext w cf0 := e1.comp hcf0
  replace hB0 := hB0.ext hcf0
  refine wpList_of_quiet _ _ _ (Ext.rfl' _) ?_
  refine q_look (look_neq rfl rfl rfl rfl) ?_
  refine q_look (look_move rfl rfl) ?_
  refine q_lookg rfl rfl rfl (fun hq => look_fieldAddr Tryd.underlying28 rfl (fun _ _ => rfl) rfl rfl) ?_
  refine q_lookg rfl rfl rfl (fun hq => look_load1 Tryd.underlying3 rfl rfl hq (ext_cell (hB0.cell rfl))) ?_
  refine q_lookg rfl rfl rfl (fun hq => look_lss rfl hq rfl rfl) ?_
  refine q_look (look_or rfl rfl rfl rfl) ?_
  refine q_look (look_move rfl rfl) ?_
  refine q_lookg rfl rfl rfl (fun hq => look_fieldAddr Tryd.underlying28 rfl (fun _ _ => rfl) rfl rfl) ?_
  refine q_lookg rfl rfl rfl (fun hq => look_load1 Tryd.underlying3 rfl rfl hq (ext_cell (hB0.cell rfl))) ?_
  refine q_lookg rfl rfl rfl (fun hq => look_fieldAddr Tryd.underlying28 rfl (fun _ _ => rfl) rfl rfl) ?_
  refine q_lookg rfl rfl rfl (fun hq => look_load1 Tryd.underlying3 rfl rfl hq (ext_cell (hB0.cell rfl))) ?_
  refine q_lookg rfl rfl rfl (fun hq => look_lss rfl hq rfl hq) ?_
  refine q_look (look_or rfl rfl rfl rfl) ?_
  refine q_look (look_move rfl rfl) ?_
  refine q_lookg rfl rfl rfl (fun hq => look_fieldAddr Tryd.underlying28 rfl (fun _ _ => rfl) rfl rfl) ?_
  refine q_lookg rfl rfl rfl (fun hq => look_load1 Tryd.underlying3 rfl rfl hq (ext_cell (hB0.cell rfl))) ?_
  refine q_lookg rfl rfl rfl (fun hq => look_gtr rfl hq rfl rfl) ?_
  refine q_look (look_or rfl rfl rfl rfl) ?_
  refine q_nil ?_
  intro w1 hw1
  have e3 : Ext w w1 := e2.comp hw1
  replace hB0 := hB0.ext hw1
  have hG3 := hG.ext e3
  refine then_normal ?_
  refine cond_split rfl (fun hc31 => ?_) (fun hc31 => ?_)
  · skip
    refine wp_seq ?_
    refine region_q ?_
    refine q_call (vs := []) enTryd_11 trivial (fun wc hw => cext hw (awake_any wc (hG3.ext hw))) ?_
    refine q_look (look_assign rfl rfl) ?_
    refine q_nil ?_
    intro w2 hw2
    refine then_normal ?_
    refine wp_ret ?_
    refine then_ret ?_
    have hfin : Ext w w2 := e3.comp hw2
    exact res1 Tryd.results8 rfl ⟨rfl, hfin⟩
  · rw [Bool.or_eq_false_iff, Bool.or_eq_false_iff, Bool.or_eq_false_iff] at hc31
    obtain ⟨⟨⟨q1, q2⟩, q3⟩, q4⟩ := hc31
    have q1' : checkP [x] = 0 := by simpa using q1
    replace q2 := of_decide_eq_false q2
    replace q3 := of_decide_eq_false q3
    replace q4 := of_decide_eq_false q4
    have hr : rightB x = true := (checkP_ok q1').2.1 x (by simp)
    refine wp_skip ?_
    refine then_normal ?_
    refine wp_seq ?_
    refine region_s ?_
    refine q_look (look_move rfl rfl) ?_
    refine q_look (look_conv_int Tryd.underlying3 Tryd.underlying36 rfl rfl (wrap_I64 (by unfold I64; omega))) ?_
    refine q_look (look_rem rfl rfl rfl rfl (by omega) (by omega)) ?_
    refine q_look (look_move rfl rfl) ?_
    refine q_look (look_conv_int Tryd.underlying3 Tryd.underlying36 rfl rfl (wrap_I64 (by unfold I64; omega))) ?_
    refine q_look (look_rem rfl rfl rfl rfl (by omega) (by omega)) ?_
    refine q_look (look_assign rfl rfl) ?_
    refine q_look (look_assign rfl rfl) ?_
    refine q_nil ?_
    rintro _ rfl
    refine then_normal ?_
    refine wp_seq ?_
    refine wp_seq ?_
    refine region_s ?_
    refine q_look (look_fieldAddr Tryd.underlying28 rfl (fun _ _ => rfl) rfl rfl) ?_
    refine q_look (look_load1 Tryd.underlying3 rfl rfl rfl (eqc (hB0.cell rfl))) ?_
    refine q_look (look_assign rfl rfl) ?_
    refine q_nil ?_
    rintro _ rfl
    refine then_normal ?_
    refine wp_block ?_
    refine loop_act (fun (t : Int) => [(3, .pointer (some ⟨g0, 0, none⟩)), (7, .int .i64 (k % 16384)), (8, .int .i64 (l % 16384)), (9, .int .i64 t)]) (fun (t : Int) w' => Ext w w' ∧ Blk w' g0 28 (bcells x) ∧ x.fr ≤ t ∧ t ≤ x.un) (fun (t : Int) => (x.un - t).toNat) (x.fr) ?_ ?_ ?_
    · exact ⟨rfl, rfl, rfl, rfl, trivial⟩
    · exact ⟨e3, hB0, by omega, by omega⟩
    · rintro t σ wr ⟨hx, hBr, ht1, ht2⟩
      have hGr := hG.ext hx
      show Code.wp _ _ _ (act 89 [(3, true, .pointer (some ⟨g0, 0, none⟩)), (7, true, .int .i64 (k % 16384)), (8, true, .int .i64 (l % 16384)), (9, true, .int .i64 t)] _) _
      refine wp_seq ?_
      refine wp_seq ?_
      refine region_s ?_
      refine q_look (look_move rfl rfl) ?_
      refine q_look (look_fieldAddr Tryd.underlying28 rfl (fun _ _ => rfl) rfl rfl) ?_
      refine q_look (look_load1 Tryd.underlying3 rfl rfl rfl (eqc (hBr.cell rfl))) ?_
      refine q_look (look_lss rfl rfl rfl rfl) ?_
      refine q_nil ?_
      rintro _ rfl
      refine then_normal ?_
      refine cond_split rfl (fun hc44 => ?_) (fun hc44 => ?_)
      · have hlt : t < x.un := by simpa using hc44
        refine wp_skip ?_
        refine then_normal ?_
        refine wp_seq ?_
        refine wp_block ?_
        refine wp_seq ?_
        refine region_qd mixed (by kernel_rfl) ?_
        refine q_look (look_loadN Tryd.underlying28 rfl szTryd_28 rfl rfl rfl (ext_cell_n hBr)) ?_
        refine q_look (look_move rfl rfl) ?_
        refine q_call (vs := [_, _]) enTryd_16 ⟨⟨_, rfl, rfl⟩, ⟨_, rfl, rfl⟩, trivial⟩ (fun wc hw => cext hw (area_any x _ wc (hGr.ext hw))) ?_
        refine q_look (look_loadN Tryd.underlying28 rfl szTryd_28 rfl rfl rfl (ext_cell_n hBr)) ?_
        refine q_look (look_move rfl rfl) ?_
        refine q_look (look_add rfl rfl rfl rfl (by unfold I64; omega)) ?_
        refine q_call (vs := [_, _]) enTryd_16 ⟨⟨_, rfl, rfl⟩, ⟨_, rfl, rfl⟩, trivial⟩ (fun wc hw => cext hw (area_any x _ wc (hGr.ext hw))) ?_
        refine q_look (look_gtr rfl rfl rfl rfl) ?_
        refine q_look (look_move rfl rfl) ?_
        refine q_lookg rfl rfl rfl (fun hq => look_loadN Tryd.underlying28 rfl szTryd_28 rfl rfl rfl (ext_cell_n hBr)) ?_
        refine q_lookg rfl rfl rfl (fun hq => look_move rfl rfl) ?_
        refine q_callg (vs := [_, _]) rfl rfl rfl enTryd_16 (fun hq => ⟨⟨_, rfl, hq⟩, ⟨_, rfl, hq⟩, trivial⟩) (fun hq wc hw => cext hw (area_any x _ wc (hGr.ext hw))) ?_
        refine q_lookg rfl rfl rfl (fun hq => look_lss rfl hq rfl rfl) ?_
        refine q_look (look_or rfl rfl rfl rfl) ?_
        refine q_nil ?_
        intro w3 hw3
        have hxn := hx.comp hw3
        have hBn := hBr.ext hw3
        refine then_normal ?_
        refine cond_false rfl (by have m1 := area_mono hr ht1 hlt; have m2 := area_bd x t; rw [Bool.or_eq_false_iff]; exact ⟨decide_eq_false (by omega), decide_eq_false (by omega)⟩) ?_
        refine wp_skip ?_
        refine inB_normal ?_
        refine then_normal ?_
        refine region_s ?_
        refine q_look (look_move rfl rfl) ?_
        refine q_look (look_add rfl rfl rfl rfl (by unfold I64; omega)) ?_
        refine q_look (look_assign rfl rfl) ?_
        refine q_nil ?_
        rintro _ rfl
        exact loop_end (t + 1) (by omega) ⟨rfl, rfl, rfl, rfl, trivial⟩ ⟨hxn, hBn, by omega, by omega⟩
      · have hge : ¬ t < x.un := by simpa using hc44
        have v1 := vol_bd x x.un (k % 16384 + l % 16384)
        have v2 := vol_bd x x.un (k % 16384)
        have v3 := vol_bd x x.un (l % 16384)
        have va := vol_add x x.un (k % 16384) (l % 16384) (by omega) (by omega) (by omega)
        refine wp_exit ?_
        refine then_exit ?_
        refine then_exit ?_
        refine inB_exit_same ?_
        refine then_normal ?_
        refine wp_seq ?_
        refine region_qd mixed (by kernel_rfl) ?_
        refine q_look (look_loadN Tryd.underlying28 rfl szTryd_28 rfl rfl rfl (ext_cell_n hBr)) ?_
        refine q_look (look_fieldAddr Tryd.underlying28 rfl (fun _ _ => rfl) rfl rfl) ?_
        refine q_look (look_load1 Tryd.underlying3 rfl rfl rfl (ext_cell (hBr.cell rfl))) ?_
        refine q_look (look_move rfl rfl) ?_
        refine q_look (look_move rfl rfl) ?_
        refine q_look (look_add rfl rfl rfl rfl (by unfold I64; omega)) ?_
        refine q_call (vs := [_, _, _]) enTryd_18 ⟨⟨_, rfl, rfl⟩, ⟨_, rfl, rfl⟩, ⟨_, rfl, rfl⟩, trivial⟩ (fun wc hw => cext hw (volume_any x _ _ wc (hGr.ext hw))) ?_
        refine q_look (look_loadN Tryd.underlying28 rfl szTryd_28 rfl rfl rfl (ext_cell_n hBr)) ?_
        refine q_look (look_fieldAddr Tryd.underlying28 rfl (fun _ _ => rfl) rfl rfl) ?_
        refine q_look (look_load1 Tryd.underlying3 rfl rfl rfl (ext_cell (hBr.cell rfl))) ?_
        refine q_look (look_move rfl rfl) ?_
        refine q_call (vs := [_, _, _]) enTryd_18 ⟨⟨_, rfl, rfl⟩, ⟨_, rfl, rfl⟩, ⟨_, rfl, rfl⟩, trivial⟩ (fun wc hw => cext hw (volume_any x _ _ wc (hGr.ext hw))) ?_
        refine q_look (look_sub rfl rfl rfl rfl (by unfold I64; omega)) ?_
        refine q_look (look_loadN Tryd.underlying28 rfl szTryd_28 rfl rfl rfl (ext_cell_n hBr)) ?_
        refine q_look (look_fieldAddr Tryd.underlying28 rfl (fun _ _ => rfl) rfl rfl) ?_
        refine q_look (look_load1 Tryd.underlying3 rfl rfl rfl (ext_cell (hBr.cell rfl))) ?_
        refine q_look (look_move rfl rfl) ?_
        refine q_call (vs := [_, _, _]) enTryd_18 ⟨⟨_, rfl, rfl⟩, ⟨_, rfl, rfl⟩, ⟨_, rfl, rfl⟩, trivial⟩ (fun wc hw => cext hw (volume_any x _ _ wc (hGr.ext hw))) ?_
        refine q_look (look_sub rfl rfl rfl rfl (by unfold I64; omega)) ?_
        refine q_look (look_assign rfl rfl) ?_
        refine q_nil ?_
        intro w4 hw4
        have hx9 := hx.comp hw4
        have hG9 := hGr.ext hw4
        refine then_normal ?_
        refine wp_seq ?_
        refine region_q ?_
        refine q_look (look_move rfl rfl) ?_
        refine q_look (look_eql rfl rfl rfl rfl) ?_
        refine q_look (look_move rfl rfl) ?_
        refine q_lookg rfl rfl rfl (fun hq => look_move rfl rfl) ?_
        refine q_lookg rfl rfl rfl (fun hq => look_eql rfl hq rfl rfl) ?_
        refine q_look (look_or rfl rfl rfl rfl) ?_
        refine q_look (look_move rfl rfl) ?_
        refine q_callg (vs := []) rfl rfl rfl enTryd_11 (fun hq => trivial) (fun hq wc hw => cext hw (awake_any wc (hG9.ext hw))) ?_
        refine q_look (look_and rfl rfl rfl rfl) ?_
        refine q_look (look_assign rfl rfl) ?_
        refine q_nil ?_
        intro w5 hw5
        have hx10 := hx9.comp hw5
        refine then_normal ?_
        refine wp_ret ?_
        exact res1 Tryd.results8 rfl ⟨ret_bool (by rcases va with h | h <;> rw [h] <;> rfl), hx10⟩

theorem less_law (l : List B) (A : Option Addr) (cap : Nat) (k thick : Int) (w : World) (hG : G w) (hS : SlB w A l) (hcap : l.length ≤ cap) (hnil : A = none → cap = 0) (hk : 0 ≤ k ∧ k ≤ 65535) :
    Calls Tryd.prog 10 #[.slice A l.length cap, .int .u16 k, .int .i64 thick] w fun e w' => e = .returned (.bool true) ∧ Ext w w' := by
  refine calls_act Tryd.func10 rfl Tryd.ntmps10 rfl rfl ?_
  show Code.wp _ _ _ (act 100 [(0, true, .slice A l.length cap), (1, true, .int .u16 k), (2, true, .int .i64 thick)] _) _
  refine wp_seq ?_
  refine region_s ?_
  refine q_look (look_assign rfl rfl) ?_
  refine q_nil ?_
  rintro _ rfl
  refine then_normal ?_
  refine wp_seq ?_
  refine wp_seq ?_
  refine region_q ?_
  refine q_look (look_move rfl rfl) ?_
  refine q_look (look_len_slice Tryd.underlying22 rfl rfl) ?_
  refine q_look (look_gtr rfl rfl rfl rfl) ?_
  refine q_look (look_move rfl rfl) ?_
  refine q_lookg rfl rfl rfl (fun hq => look_move rfl rfl) ?_
  refine q_lookg rfl rfl rfl (fun hq => look_len_slice Tryd.underlying22 rfl hq) ?_
  refine q_lookg rfl rfl rfl (fun hq => look_eql rfl hq rfl rfl) ?_
  refine q_look (look_or rfl rfl rfl rfl) ?_
  refine q_look (look_move rfl rfl) ?_
  refine q_lookg rfl rfl rfl (fun hq => look_move rfl rfl) ?_
  refine q_callg (vs := [_]) rfl rfl rfl enTryd_12 (fun hq => ⟨⟨_, rfl, hq⟩, trivial⟩) (fun hq wc hw => cext hw (check_any l A cap wc (hG.ext hw) (hS.ext hw) (by have h0 := gqL hq; have h1 := gqR hq; have h100 : ¬ (100 : Int) < (l.length : Int) := (by simp at h1; omega); omega))) ?_
  refine q_lookg rfl rfl rfl (fun hq => look_neq rfl hq rfl rfl) ?_
  refine q_look (look_or rfl rfl rfl rfl) ?_
  refine q_nil ?_
  intro w1 hw1
  have hG1 := hG.ext hw1
  have hS1 := hS.ext hw1
  refine then_normal ?_
  refine cond_split rfl (fun hc25 => ?_) (fun hc25 => ?_)
  · skip
    refine wp_seq ?_
    refine region_q ?_
    refine q_call (vs := []) enTryd_11 trivial (fun wc hw => cext hw (awake_any wc (hG1.ext hw))) ?_
    refine q_look (look_assign rfl rfl) ?_
    refine q_nil ?_
    intro w2 hw2
    have hX2 := hw1.comp hw2
    refine then_normal ?_
    refine wp_ret ?_
    refine then_ret ?_
    exact res1 Tryd.results10 rfl ⟨rfl, hX2⟩
  · rw [Bool.or_eq_false_iff, Bool.or_eq_false_iff] at hc25
    obtain ⟨⟨q1, q2⟩, q3⟩ := hc25
    have hlen : l.length ≤ 100 := by have := of_decide_eq_false q1; omega
    have hl0 : 0 < l.length := by have := of_decide_eq_false q2; omega
    have hchk : checkP l = 0 := by simpa using q3
    obtain ⟨i, hi, hil⟩ := remAt (k := k) hl0
    obtain ⟨x, hix⟩ := get_lt hil
    have hL1 : ((l.take i).drop 0).length = i := by simp; omega
    have hL2 : ((l.take l.length).drop (i + 1)).length = l.length - (i + 1) := by simp
    have hmx : (1000 : Nat) ≤ maxLen := by decide
    have hsub : (l.take i ++ l.drop (i + 1)).Sublist l := by
      conv => rhs; rw [split_at hix]
      exact List.Sublist.append (List.Sublist.refl _) (List.sublist_cons_self _ _)
    have hchk2 := less_check hchk hsub
    have hSl : Sl bcells 6 w1 A l := hS1
    refine wp_skip ?_
    refine then_normal ?_
    refine wp_seq ?_
    refine region_s ?_
    refine q_look (look_move rfl rfl) ?_
    refine q_look (look_conv_int Tryd.underlying3 Tryd.underlying36 rfl rfl (wrap_I64 (by unfold I64; omega))) ?_
    refine q_look (look_move rfl rfl) ?_
    refine q_look (look_len_slice Tryd.underlying22 rfl rfl) ?_
    refine q_look (Look.as (look_rem rfl rfl rfl rfl (by omega) (by omega)) (congrArg (Value.int .i64) hi)) ?_
    refine q_look (look_assign rfl rfl) ?_
    refine q_nil ?_
    rintro _ rfl
    refine then_normal ?_
    refine wp_seq ?_
    refine region_s ?_
    refine q_look (look_assign rfl rfl) ?_
    refine q_nil ?_
    rintro _ rfl
    refine then_normal ?_
    refine wp_seq ?_
    refine wp_region_lit ?_
    refine s_look (look_move rfl rfl) ?_
    refine s_look (look_move rfl rfl) ?_
    refine s_look (look_move rfl rfl) ?_
    refine s_look (Look.as (look_slice_h (hi := i) Tryd.underlying22 szTryd_28 rfl rfl rfl rfl rfl (by omega)) (by rw [hL1]) (v' := .slice (cutA A cap 0 6) ((l.take i).drop 0).length cap)) ?_
    refine s_appendL (ce := bcells) (base := w1.heap.size) (news := (l.take i).drop 0) Tryd.underlying22 zsbTryd_28 rfl rfl rfl (Own.nil _ _ _ _ _) rfl (Sl.src (fun _ => rfl) oneB (hSl.cut hcap 0 i) (fun h => by have := cutA_none hnil h; omega)) (by simp; omega) (by simp; omega) (Nat.le_refl _) ?_
    intro v5 k5 hO5 hg5
    refine s_look (look_assign rfl rfl) ?_
    refine s_nil ?_
    have hX5 : Ext w1 k5 := grown_below (Ext.rfl' _) (Own.nil bcells 28 6 w1.heap.size w1) (Nat.le_refl _) hg5 (Nat.le_refl _)
    replace hO5 : Own bcells 28 6 w1.heap.size k5 v5 (l.take i) := by simpa using hO5
    refine then_normal ?_
    refine wp_seq ?_
    refine wp_region_lit ?_
    refine s_look (look_move rfl rfl) ?_
    refine s_look (look_move rfl rfl) ?_
    refine s_look (look_move rfl rfl) ?_
    refine s_look (look_add rfl rfl rfl rfl (by unfold I64; omega)) ?_
    refine s_look (Look.as (look_slice_l (lo := i + 1) Tryd.underlying22 szTryd_28 rfl rfl rfl rfl rfl (by omega)) (by rw [hL2]) (v' := .slice (cutA A cap (i + 1) 6) ((l.take l.length).drop (i + 1)).length (cap - (i + 1)))) ?_
    refine s_appendL (ce := bcells) (base := w1.heap.size) (news := (l.take l.length).drop (i + 1)) Tryd.underlying22 zsbTryd_28 rfl rfl rfl hO5 rfl (Sl.src (fun _ => rfl) oneB ((hSl.ext hX5).cut hcap (i + 1) l.length) (fun h => by have := cutA_none hnil h; omega)) (by simp; omega) (by simp; omega) hX5.size ?_
    intro v6 k6 hO6 hg6
    refine s_look (look_assign rfl rfl) ?_
    refine s_nil ?_
    have hX6 : Ext w1 k6 := grown_below hX5 hO5 (Nat.le_refl _) hg6 hX5.size
    replace hO6 : Own bcells 28 6 w1.heap.size k6 v6 (l.take i ++ l.drop (i + 1)) := by simpa using hO6
    obtain ⟨A', cap', rfl, hS6, _, _, _⟩ := hO6.sl (ce := bcells) (size := 6) (fun _ => rfl)
    replace hS6 : SlB k6 A' (l.take i ++ l.drop (i + 1)) := hS6
    have hlen6 : (l.take i ++ l.drop (i + 1)).length ≤ 1000 := by simp; omega
    have hSk := hS1.ext hX6
    obtain ⟨b, o, rfl, hcc⟩ := hSk.at_ hil
    clear hSl
    refine then_normal ?_
    refine wp_seq ?_
    refine wp_region_lit ?_
    refine s_look (look_move rfl rfl) ?_
    refine s_look (look_move rfl rfl) ?_
    refine s_look (look_move rfl rfl) ?_
    refine s_look (look_indexAddr i Tryd.underlying22 szTryd_28 rfl rfl rfl rfl rfl (by omega)) ?_
    refine s_look (look_fieldAddr Tryd.underlying28 rfl (fun _ _ => rfl) rfl rfl) ?_
    refine s_look (look_load1 Tryd.underlying3 rfl rfl rfl (eqc (hcc i x hix _ _ rfl))) ?_
    refine s_look (look_move rfl rfl) ?_
    refine s_call (vs := [_, _, _]) enTryd_14 ⟨⟨_, rfl, rfl⟩, ⟨_, rfl, rfl⟩, ⟨_, rfl, rfl⟩, trivial⟩ (find_any l _ cap x.kind thick _ hSk (by omega)) ?_
    rintro _ cf0 ⟨rfl, hcf0⟩
    refine ⟨_, rfl, ?_⟩
    
    refine s_look (look_move rfl rfl) ?_
    refine s_look (look_extract rfl rfl rfl) ?_
    refine s_look (look_extract rfl rfl rfl) ?_
    refine s_alloc zeTryd_28 ?_
    intro a0 v0 hv0 hA0 ha0 hz0
    refine s_store szTryd_28 rfl (by simp [bcells, zB, Value.cells, Value.oneCell']) rfl rfl hA0 rfl ?_
    intro k0 hk0 hT0
    replace hT0 : Blk k0 _ 28 (bcells (findP (hits x.kind thick) l).1) := hT0
    refine s_look (look_assign rfl rfl) ?_
    refine s_nil ?_
    have e7 : Ext k6 k0 := Kp.below (hcf0.comp hv0) hk0 (by have := hcf0.size; omega)
    have hcc7 := fun j y hy m v hv => e7.cell (hcc j y hy m v hv)
    refine then_normal ?_
    refine wp_seq ?_
    refine wp_region_lit ?_
    refine s_look (look_move rfl rfl) ?_
    refine s_look (look_move rfl rfl) ?_
    refine s_look (look_move rfl rfl) ?_
    refine s_look (look_indexAddr i Tryd.underlying22 szTryd_28 rfl rfl rfl rfl rfl (by omega)) ?_
    refine s_look (look_fieldAddr Tryd.underlying28 rfl (fun _ _ => rfl) rfl rfl) ?_
    refine s_look (look_load1 Tryd.underlying3 rfl rfl rfl (eqc (hcc7 i x hix _ _ rfl))) ?_
    refine s_look (look_move rfl rfl) ?_
    refine s_call (vs := [_, _, _]) enTryd_14 ⟨⟨_, rfl, rfl⟩, ⟨_, rfl, rfl⟩, ⟨_, rfl, rfl⟩, trivial⟩ (find_any _ _ cap' x.kind thick _ (hS6.ext e7) hlen6) ?_
    rintro _ cf1 ⟨rfl, hcf1⟩
    refine ⟨_, rfl, ?_⟩
    
    refine s_look (look_move rfl rfl) ?_
    refine s_look (look_extract rfl rfl rfl) ?_
    refine s_look (look_extract rfl rfl rfl) ?_
    refine s_alloc zeTryd_28 ?_
    intro a1 v1 hv1 hA1 ha1 hz1
    refine s_store szTryd_28 rfl (by simp [bcells, zB, Value.cells, Value.oneCell']) rfl rfl hA1 rfl ?_
    intro k1 hk1 hT1
    replace hT1 : Blk k1 _ 28 (bcells (findP (hits x.kind thick) (l.take i ++ l.drop (i + 1))).1) := hT1
    refine s_look (look_assign rfl rfl) ?_
    refine s_nil ?_
    have e8 : Ext k0 k1 := Kp.below (hcf1.comp hv1) hk1 (by have := hcf1.size; omega)
    replace hT0 := hT0.ext e8
    have hX8 : Ext w k1 := ((hw1.comp hX6).comp e7).comp e8
    have hG8 := hG.ext hX8
    have hcc8 := fun j y hy m v hv => e8.cell (hcc7 j y hy m v hv)
    have hS8 := (hS6.ext e7).ext e8
    refine then_normal ?_
    refine wp_seq ?_
    refine wp_seq ?_
    refine region_qd mixed (by kernel_rfl) ?_
    refine q_look (look_move rfl rfl) ?_
    refine q_look (look_move rfl rfl) ?_
    refine q_lookg rfl rfl rfl (fun hq => look_loadN Tryd.underlying28 rfl szTryd_28 rfl rfl rfl (ext_cell_n hT0)) ?_
    refine q_lookg rfl rfl rfl (fun hq => look_move rfl rfl) ?_
    refine q_lookg rfl rfl rfl (fun hq => look_move rfl rfl) ?_
    refine q_lookg rfl rfl rfl (fun hq => look_indexAddr i Tryd.underlying22 szTryd_28 rfl hq rfl hq rfl (by omega)) ?_
    refine q_lookg rfl rfl rfl (fun hq => look_loadN Tryd.underlying28 rfl szTryd_28 rfl rfl hq (cs := bcells x) (fun w' e j v hv => e.cell (hcc8 i x hix j v hv))) ?_
    refine q_lookg rfl rfl rfl (fun hq => look_eql_flat Tryd.underlying28 stood28 guard28 rfl hq rfl hq (eqB _ _)) ?_
    refine q_look (look_and rfl rfl rfl rfl) ?_
    refine q_nil ?_
    intro w3 hw3
    have hX9 := hX8.comp hw3
    have hG9 := hG8.ext hw3
    have hS9 := hS8.ext hw3
    replace hT0 := hT0.ext hw3
    replace hT1 := hT1.ext hw3
    refine then_normal ?_
    refine cond_split rfl (fun hc73 => ?_) (fun hc73 => ?_)
    · rw [Bool.and_eq_true] at hc73
      have hxe := (eqP_iff _ _).1 hc73.2
      have hp := found_hit hc73.1 hxe
      have hno := less_hit hchk hix hp
      refine wp_seq ?_
      refine region_q ?_
      refine q_look (look_move rfl rfl) ?_
      refine q_call (vs := [_]) enTryd_12 ⟨⟨_, rfl, rfl⟩, trivial⟩ (fun wc hw => cext hw (check_any _ _ cap' wc (hG9.ext hw) (hS9.ext hw) hlen6)) ?_
      refine q_look (look_eql rfl rfl rfl rfl) ?_
      refine q_look (look_move rfl rfl) ?_
      refine q_lookg rfl rfl rfl (fun hq => look_move rfl rfl) ?_
      refine q_lookg rfl rfl rfl (fun hq => look_not rfl hq) ?_
      refine q_look (look_and rfl rfl rfl rfl) ?_
      refine q_look (look_move rfl rfl) ?_
      refine q_callg (vs := []) rfl rfl rfl enTryd_11 (fun hq => trivial) (fun hq wc hw => cext hw (awake_any wc (hG9.ext hw))) ?_
      refine q_look (look_and rfl rfl rfl rfl) ?_
      refine q_look (look_assign rfl rfl) ?_
      refine q_nil ?_
      intro w4 hw4
      have hX10 := hX9.comp hw4
      refine then_normal ?_
      refine wp_ret ?_
      refine then_ret ?_
      exact res1 Tryd.results10 rfl ⟨ret_bool (by rw [hchk2, hno]; rfl), hX10⟩
    · have hp : ¬ hits x.kind thick x = true := by
        intro hp
        have h1 := found_one hchk hix hp
        rw [h1] at hc73
        have h2 := (eqP_iff x x).2 rfl
        unfold eqP at h2
        rw [h2] at hc73
        cases hc73
      have hno := less_no hix hp
      refine wp_skip ?_
      refine then_normal ?_
      refine wp_seq ?_
      refine region_q ?_
      refine q_look (look_move rfl rfl) ?_
      refine q_call (vs := [_]) enTryd_12 ⟨⟨_, rfl, rfl⟩, trivial⟩ (fun wc hw => cext hw (check_any _ _ cap' wc (hG9.ext hw) (hS9.ext hw) hlen6)) ?_
      refine q_look (look_eql rfl rfl rfl rfl) ?_
      refine q_look (look_move rfl rfl) ?_
      refine q_lookg rfl rfl rfl (fun hq => look_move rfl rfl) ?_
      refine q_lookg rfl rfl rfl (fun hq => look_move rfl rfl) ?_
      refine q_lookg rfl rfl rfl (fun hq => look_eql_bool Tryd.underlying4 rfl hq rfl hq) ?_
      refine q_look (look_and rfl rfl rfl rfl) ?_
      refine q_look (look_move rfl rfl) ?_
      refine q_lookg rfl rfl rfl (fun hq => look_loadN Tryd.underlying28 rfl szTryd_28 rfl rfl rfl (ext_cell_n hT0)) ?_
      refine q_lookg rfl rfl rfl (fun hq => look_loadN Tryd.underlying28 rfl szTryd_28 rfl rfl rfl (ext_cell_n hT1)) ?_
      refine q_lookg rfl rfl rfl (fun hq => look_eql_flat Tryd.underlying28 stood28 guard28 rfl hq rfl hq (eqB _ _)) ?_
      refine q_look (look_and rfl rfl rfl rfl) ?_
      refine q_look (look_move rfl rfl) ?_
      refine q_callg (vs := []) rfl rfl rfl enTryd_11 (fun hq => trivial) (fun hq wc hw => cext hw (awake_any wc (hG9.ext hw))) ?_
      refine q_look (look_and rfl rfl rfl rfl) ?_
      refine q_look (look_assign rfl rfl) ?_
      refine q_nil ?_
      intro w5 hw5
      have hX10 := hX9.comp hw5
      refine then_normal ?_
      refine wp_ret ?_
      exact res1 Tryd.results10 rfl ⟨ret_bool (by rw [hchk2, hno, eqBs]; simp), hX10⟩

end Go.Proofs.YtbmkkepmecpffaaDoor
