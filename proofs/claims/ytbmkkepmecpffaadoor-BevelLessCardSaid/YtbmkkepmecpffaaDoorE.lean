/- The walks of chapter 22 (bevel), fifth part: the laws return true. -/
import Derived.Test.YtbmkkepmecpffaaDoorD
namespace Go.Proofs.YtbmkkepmecpffaaDoor
open Go Go.RowKit Core
set_option linter.unusedVariables false
set_option linter.unusedSimpArgs false
attribute [local irreducible] wpQuiet wpList Code.wp Calls bodyPost act


theorem eqBs (x : B) : (decide (x.kind = x.kind) && (decide (x.fr = x.fr) && (decide (x.un = x.un) && (decide (x.gap = x.gap) && (decide (x.face = x.face) && (decide (x.run = x.run) && true)))))) = true := by simp
def eqP (x y : B) : Bool := decide (x.kind = y.kind) && (decide (x.fr = y.fr) && (decide (x.un = y.un) && (decide (x.gap = y.gap) && (decide (x.face = y.face) && (decide (x.run = y.run) && true)))))
theorem eqP_iff (x y : B) : eqP x y = true ↔ x = y := by
  cases x; cases y; simp [eqP, and_assoc]
/-- A row stands ahead of another. -/
def ltB (x y : B) : Prop := x.kind < y.kind ∨ x.kind = y.kind ∧ x.un < y.fr
theorem chk_pw : ∀ (l : List B) (p : Option B), chk p l = 0 → (∀ x ∈ l, rightB x = true) ∧ l.Pairwise ltB ∧ ∀ q, p = some q → ∀ x ∈ l, ltB q x
  | [], _, _ => ⟨by simp, List.Pairwise.nil, by simp⟩
  | a :: r, p, h => by
    unfold chk at h
    split at h
    · omega
    · split at h
      · omega
      · split at h
        · omega
        · rename_i h1 h2 h3
          obtain ⟨i1, i2, i3⟩ := chk_pw r (some a) h
          have ha : rightB a = true := by simpa using h2
          have hr := (rightB_iff a).1 ha
          refine ⟨fun x hx => ?_, List.Pairwise.cons (fun x hx => i3 a rfl x hx) i2, fun q hq x hx => ?_⟩
          · rcases List.mem_cons.1 hx with rfl | hx
            · exact ha
            · exact i1 x hx
          · subst hq
            have hqa : ltB q a := by
              simp only [badP, Bool.not_eq_true, Bool.or_eq_false_iff, decide_eq_false_iff_not, Bool.and_eq_false_iff] at h3
              unfold ltB; omega
            rcases List.mem_cons.1 hx with rfl | hx
            · exact hqa
            · have := i3 a rfl x hx
              unfold ltB at *; omega
theorem checkP_ok {l : List B} (h : checkP l = 0) : l.length ≤ 32 ∧ (∀ x ∈ l, rightB x = true) ∧ l.Pairwise ltB := by
  unfold checkP at h
  split at h
  · omega
  · have := chk_pw l none h
    exact ⟨by omega, this.1, this.2.1⟩
theorem hits_iff (kind thick : Int) (x : B) : hits kind thick x = true ↔ x.kind = kind ∧ x.fr ≤ thick ∧ thick ≤ x.un := by simp [hits, withinB]
theorem one_find {kind thick : Int} : ∀ {l : List B} {x : B}, l.Pairwise ltB → x ∈ l → hits kind thick x = true → l.find? (hits kind thick) = some x
  | a :: r, x, hp, hx, hh => by
    rw [List.pairwise_cons] at hp
    by_cases ha : hits kind thick a = true
    · rw [List.find?_cons_of_pos ha]
      rcases List.mem_cons.1 hx with rfl | hx
      · rfl
      · exfalso
        have h1 := hp.1 x hx
        have h2 := (hits_iff _ _ _).1 ha
        have h3 := (hits_iff _ _ _).1 hh
        unfold ltB at h1; omega
    · rw [List.find?_cons_of_neg (by simpa using ha)]
      rcases List.mem_cons.1 hx with rfl | hx
      · exact absurd hh ha
      · exact one_find hp.2 hx hh
theorem found_one {kind thick : Int} {l : List B} {k : Nat} {x : B} (hc : checkP l = 0) (hx : l[k]? = some x) (hh : hits kind thick x = true) : findP (hits kind thick) l = (x, true) := by
  unfold findP
  rw [one_find (checkP_ok hc).2.2 (List.mem_of_getElem? hx) hh]
theorem one_count {kind thick : Int} : ∀ {l : List B}, l.Pairwise ltB → l.countP (hits kind thick) = if (findP (hits kind thick) l).2 = true then 1 else 0
  | [], _ => by simp [findP]
  | a :: r, hp => by
    rw [List.pairwise_cons] at hp
    have ih := one_count (kind := kind) (thick := thick) hp.2
    by_cases ha : hits kind thick a = true
    · have h0 : r.countP (hits kind thick) = 0 := by
        rw [List.countP_eq_zero]
        intro y hy hh
        have h1 := hp.1 y hy
        have h2 := (hits_iff _ _ _).1 ha
        have h3 := (hits_iff _ _ _).1 hh
        unfold ltB at h1; omega
      simp [List.countP_cons, ha, h0, findP]
    · have ha' : hits kind thick a = false := by simpa using ha
      rw [show findP (hits kind thick) (a :: r) = findP (hits kind thick) r from by unfold findP; rw [List.find?_cons_of_neg (by simp [ha'])], List.countP_cons_of_neg (by simp [ha'])]
      exact ih
theorem eqP_no (x y : B) : eqP x y = false ↔ x ≠ y := by rw [← Bool.not_eq_true, eqP_iff]

theorem checks_law (l : List B) (A : Option Addr) (cap : Nat) (w : World) (hG : G w) (hS : SlB w A l) :
    Calls Tryd.prog 3 #[.slice A l.length cap] w fun e w' => e = .returned (.bool true) ∧ Ext w w' := by
  refine calls_act Tryd.func3 rfl Tryd.ntmps3 rfl rfl ?_
  show Code.wp _ _ _ (act 24 [(0, true, .slice A l.length cap)] _) _
  refine wp_seq ?_
  refine region_s ?_
  refine q_look (look_assign rfl rfl) ?_
  refine q_nil ?_
  rintro _ rfl
  refine then_normal ?_
  refine wp_seq ?_
  refine region_q ?_
  refine q_look (look_move rfl rfl) ?_
  refine q_look (look_len_slice Tryd.underlying22 rfl rfl) ?_
  refine q_look (look_gtr rfl rfl rfl rfl) ?_
  refine q_look (look_move rfl rfl) ?_
  refine q_callg (vs := []) rfl rfl rfl enTryd_11 (fun hq => trivial) (fun hq wc hw => cext hw (awake_any wc (hG.ext hw))) ?_
  refine q_look (look_and rfl rfl rfl rfl) ?_
  refine q_look (look_move rfl rfl) ?_
  refine q_lookg rfl rfl rfl (fun hq => look_move rfl rfl) ?_
  refine q_lookg rfl rfl rfl (fun hq => look_len_slice Tryd.underlying22 rfl hq) ?_
  refine q_lookg rfl rfl rfl (fun hq => look_leq rfl hq rfl rfl) ?_
  refine q_lookg rfl rfl rfl (fun hq => look_move rfl hq) ?_
  refine q_lookg rfl rfl rfl (fun hq => look_move rfl rfl) ?_
  refine q_callg (vs := [_]) rfl rfl rfl enTryd_12 (fun hq => ⟨⟨_, rfl, hq⟩, trivial⟩) (fun hq wc hw => cext hw (check_any l A cap wc (hG.ext hw) (hS.ext hw) (by have := of_decide_eq_true (gqR hq); omega))) ?_
  refine q_lookg rfl rfl rfl (fun hq => look_move rfl rfl) ?_
  refine q_callg (vs := [_]) rfl rfl rfl enTryd_13 (fun hq => ⟨⟨_, rfl, hq⟩, trivial⟩) (fun hq wc hw => cext hw (refcheck_any l A cap wc (hS.ext hw) (by have := of_decide_eq_true (gqR hq); omega))) ?_
  refine q_lookg rfl rfl rfl (fun hq => look_eql rfl hq rfl hq) ?_
  refine q_lookg rfl rfl rfl (fun hq => look_and rfl hq rfl hq) ?_
  refine q_lookg rfl rfl rfl (fun hq => look_move rfl hq) ?_
  refine q_callg (vs := []) rfl rfl rfl enTryd_11 (fun hq => trivial) (fun hq wc hw => cext hw (awake_any wc (hG.ext hw))) ?_
  refine q_lookg rfl rfl rfl (fun hq => look_and rfl hq rfl hq) ?_
  refine q_look (look_or rfl rfl rfl rfl) ?_
  refine q_look (look_assign rfl rfl) ?_
  refine q_nil ?_
  intro w1 hw1
  refine then_normal ?_
  refine wp_ret ?_
  exact res1 Tryd.results3 rfl ⟨ret_bool (by by_cases h : (100 : Int) < (l.length : Int) <;> simp [h]; omega), hw1⟩

theorem finds_law (l : List B) (A : Option Addr) (cap : Nat) (kind thick : Int) (w : World) (hG : G w) (hS : SlB w A l) :
    Calls Tryd.prog 4 #[.slice A l.length cap, .int .i64 kind, .int .i64 thick] w fun e w' => e = .returned (.bool true) ∧ Ext w w' := by
  refine calls_act Tryd.func4 rfl Tryd.ntmps4 rfl rfl ?_
  show Code.wp _ _ _ (act 40 [(0, true, .slice A l.length cap), (1, true, .int .i64 kind), (2, true, .int .i64 thick)] _) _
  refine wp_seq ?_
  refine region_s ?_
  refine q_look (look_assign rfl rfl) ?_
  refine q_nil ?_
  rintro _ rfl
  refine then_normal ?_
  refine wp_seq ?_
  refine wp_seq ?_
  refine region_s ?_
  refine q_look (look_move rfl rfl) ?_
  refine q_look (look_len_slice Tryd.underlying22 rfl rfl) ?_
  refine q_look (look_gtr rfl rfl rfl rfl) ?_
  refine q_nil ?_
  rintro _ rfl
  refine then_normal ?_
  refine cond_split rfl (fun hc13 => ?_) (fun hc13 => ?_)
  · have hGc := hG
    refine wp_seq ?_
    refine region_q ?_
    refine q_call (vs := []) enTryd_11 trivial (fun wc hw => cext hw (awake_any wc (hGc.ext hw))) ?_
    refine q_look (look_assign rfl rfl) ?_
    refine q_nil ?_
    intro w1 hw1
    refine then_normal ?_
    refine wp_ret ?_
    refine then_ret ?_
    exact res1 Tryd.results4 rfl ⟨rfl, hw1⟩
  · have hlen : l.length ≤ 1000 := by simp at hc13; omega
    refine wp_skip ?_
    refine then_normal ?_
    refine wp_seq ?_
    refine wp_region_lit ?_
    refine s_look (look_move rfl rfl) ?_
    refine s_look (look_move rfl rfl) ?_
    refine s_look (look_move rfl rfl) ?_
    refine s_call (vs := [_, _, _]) enTryd_14 ⟨⟨_, rfl, rfl⟩, ⟨_, rfl, rfl⟩, ⟨_, rfl, rfl⟩, trivial⟩ (find_any l A cap kind thick _ hS hlen) ?_
    rintro _ cf0 ⟨rfl, hcf0⟩
    refine ⟨_, rfl, ?_⟩
    
    refine s_look (look_move rfl rfl) ?_
    refine s_look (look_extract rfl rfl rfl) ?_
    refine s_look (look_extract rfl rfl rfl) ?_
    refine s_alloc zeTryd_28 ?_
    intro a0 v0 hv0 hA0 ha0 hz0
    refine s_store szTryd_28 rfl (by simp [bcells, zB, Value.cells, Value.oneCell']) rfl rfl hA0 rfl ?_
    intro k0 hk0 hT0
    replace hT0 : Blk k0 _ 28 (bcells (findP (hits kind thick) l).1) := hT0
    refine s_look (look_assign rfl rfl) ?_
    refine s_nil ?_
    have e1 : Ext w k0 := Kp.below (hcf0.comp hv0) hk0 (by have := hcf0.size; omega)
    refine then_normal ?_
    refine wp_seq ?_
    refine wp_region_lit ?_
    refine s_look (look_move rfl rfl) ?_
    refine s_look (look_move rfl rfl) ?_
    refine s_look (look_move rfl rfl) ?_
    refine s_call (vs := [_, _, _]) enTryd_15 ⟨⟨_, rfl, rfl⟩, ⟨_, rfl, rfl⟩, ⟨_, rfl, rfl⟩, trivial⟩ (reffind_any l A cap kind thick _ (hS.ext e1) hlen) ?_
    rintro _ cf1 ⟨rfl, hcf1⟩
    refine ⟨_, rfl, ?_⟩
    
    refine s_look (look_move rfl rfl) ?_
    refine s_look (look_extract rfl rfl rfl) ?_
    refine s_look (look_extract rfl rfl rfl) ?_
    refine s_alloc zeTryd_28 ?_
    intro a1 v1 hv1 hA1 ha1 hz1
    refine s_store szTryd_28 rfl (by simp [bcells, zB, Value.cells, Value.oneCell']) rfl rfl hA1 rfl ?_
    intro k1 hk1 hT1
    replace hT1 : Blk k1 _ 28 (bcells (findP (hits kind thick) l).1) := hT1
    refine s_look (look_assign rfl rfl) ?_
    refine s_nil ?_
    have e2 : Ext k0 k1 := Kp.below (hcf1.comp hv1) hk1 (by have := hcf1.size; omega)
    replace hT0 := hT0.ext e2
    have hGc := (hG.ext e1).ext e2
    refine then_normal ?_
    refine wp_seq ?_
    refine region_q ?_
    refine q_look (look_loadN Tryd.underlying28 rfl szTryd_28 rfl rfl rfl (ext_cell_n hT0)) ?_
    refine q_look (look_loadN Tryd.underlying28 rfl szTryd_28 rfl rfl rfl (ext_cell_n hT1)) ?_
    refine q_look (look_eql_flat Tryd.underlying28 stood28 guard28 rfl rfl rfl rfl (eqB _ _)) ?_
    refine q_look (look_move rfl rfl) ?_
    refine q_lookg rfl rfl rfl (fun hq => look_move rfl rfl) ?_
    refine q_lookg rfl rfl rfl (fun hq => look_move rfl rfl) ?_
    refine q_lookg rfl rfl rfl (fun hq => look_eql_bool Tryd.underlying4 rfl hq rfl hq) ?_
    refine q_look (look_and rfl rfl rfl rfl) ?_
    refine q_look (look_move rfl rfl) ?_
    refine q_callg (vs := []) rfl rfl rfl enTryd_11 (fun hq => trivial) (fun hq wc hw => cext hw (awake_any wc (hGc.ext hw))) ?_
    refine q_look (look_and rfl rfl rfl rfl) ?_
    refine q_look (look_assign rfl rfl) ?_
    refine q_nil ?_
    intro w2 hw2
    refine then_normal ?_
    refine wp_ret ?_
    exact res1 Tryd.results4 rfl ⟨ret_bool (by simp), (e1.comp e2).comp hw2⟩

theorem welds_law (x : B) (t len : Int) (w : World) (hG : G w) :
    Calls Tryd.prog 5 #[.agg #[.int .i64 x.kind, .int .i64 x.fr, .int .i64 x.un, .int .i64 x.gap, .int .i64 x.face, .int .i64 x.run], .int .i64 t, .int .i64 len] w fun e w' => e = .returned (.bool true) ∧ Ext w w' := by
  refine calls_act Tryd.func5 rfl Tryd.ntmps5 rfl rfl ?_
  show Code.wp _ _ _ (act 39 [(0, true, .agg #[.int .i64 x.kind, .int .i64 x.fr, .int .i64 x.un, .int .i64 x.gap, .int .i64 x.face, .int .i64 x.run]), (1, true, .int .i64 t), (2, true, .int .i64 len)] _) _
  refine wp_seq ?_
  refine wp_region_lit ?_
  refine s_box rfl ?_
  intro g0 u0 hu0 hB0 hg0 hs0
  refine s_look (look_assign rfl rfl) ?_
  refine s_nil ?_
  refine then_normal ?_
  refine wp_seq ?_
  refine region_qd mixed (by kernel_rfl) ?_
  refine q_look (look_loadN Tryd.underlying28 rfl szTryd_28 rfl rfl rfl (ext_cell_n hB0)) ?_
  refine q_look (look_move rfl rfl) ?_
  refine q_call (vs := [_, _]) enTryd_16 ⟨⟨_, rfl, rfl⟩, ⟨_, rfl, rfl⟩, trivial⟩ (fun wc hw => cext hw (area_any x t wc ((hG.ext hu0).ext hw))) ?_
  refine q_look (look_loadN Tryd.underlying28 rfl szTryd_28 rfl rfl rfl (ext_cell_n hB0)) ?_
  refine q_look (look_move rfl rfl) ?_
  refine q_call (vs := [_, _]) enTryd_17 ⟨⟨_, rfl, rfl⟩, ⟨_, rfl, rfl⟩, trivial⟩ (fun wc hw => cext hw (refarea_any x t wc)) ?_
  refine q_look (look_eql rfl rfl rfl rfl) ?_
  refine q_look (look_move rfl rfl) ?_
  refine q_lookg rfl rfl rfl (fun hq => look_loadN Tryd.underlying28 rfl szTryd_28 rfl rfl rfl (ext_cell_n hB0)) ?_
  refine q_lookg rfl rfl rfl (fun hq => look_move rfl rfl) ?_
  refine q_lookg rfl rfl rfl (fun hq => look_move rfl rfl) ?_
  refine q_callg (vs := [_, _, _]) rfl rfl rfl enTryd_18 (fun hq => ⟨⟨_, rfl, hq⟩, ⟨_, rfl, hq⟩, ⟨_, rfl, hq⟩, trivial⟩) (fun hq wc hw => cext hw (volume_any x t len wc ((hG.ext hu0).ext hw))) ?_
  refine q_lookg rfl rfl rfl (fun hq => look_loadN Tryd.underlying28 rfl szTryd_28 rfl rfl rfl (ext_cell_n hB0)) ?_
  refine q_lookg rfl rfl rfl (fun hq => look_move rfl rfl) ?_
  refine q_lookg rfl rfl rfl (fun hq => look_move rfl rfl) ?_
  refine q_callg (vs := [_, _, _]) rfl rfl rfl enTryd_19 (fun hq => ⟨⟨_, rfl, hq⟩, ⟨_, rfl, hq⟩, ⟨_, rfl, hq⟩, trivial⟩) (fun hq wc hw => cext hw (refvol_any x t len wc)) ?_
  refine q_lookg rfl rfl rfl (fun hq => look_eql rfl hq rfl hq) ?_
  refine q_look (look_and rfl rfl rfl rfl) ?_
  refine q_look (look_move rfl rfl) ?_
  refine q_lookg rfl rfl rfl (fun hq => look_loadN Tryd.underlying28 rfl szTryd_28 rfl rfl rfl (ext_cell_n hB0)) ?_
  refine q_lookg rfl rfl rfl (fun hq => look_move rfl rfl) ?_
  refine q_lookg rfl rfl rfl (fun hq => look_move rfl rfl) ?_
  refine q_callg (vs := [_, _, _]) rfl rfl rfl enTryd_20 (fun hq => ⟨⟨_, rfl, hq⟩, ⟨_, rfl, hq⟩, ⟨_, rfl, hq⟩, trivial⟩) (fun hq wc hw => cext hw (mass_any x t len wc ((hG.ext hu0).ext hw))) ?_
  refine q_lookg rfl rfl rfl (fun hq => look_loadN Tryd.underlying28 rfl szTryd_28 rfl rfl rfl (ext_cell_n hB0)) ?_
  refine q_lookg rfl rfl rfl (fun hq => look_move rfl rfl) ?_
  refine q_lookg rfl rfl rfl (fun hq => look_move rfl rfl) ?_
  refine q_callg (vs := [_, _, _]) rfl rfl rfl enTryd_21 (fun hq => ⟨⟨_, rfl, hq⟩, ⟨_, rfl, hq⟩, ⟨_, rfl, hq⟩, trivial⟩) (fun hq wc hw => cext hw (refmass_any x t len wc)) ?_
  refine q_lookg rfl rfl rfl (fun hq => look_eql rfl hq rfl hq) ?_
  refine q_look (look_and rfl rfl rfl rfl) ?_
  refine q_look (look_move rfl rfl) ?_
  refine q_callg (vs := []) rfl rfl rfl enTryd_11 (fun hq => trivial) (fun hq wc hw => cext hw (awake_any wc ((hG.ext hu0).ext hw))) ?_
  refine q_look (look_and rfl rfl rfl rfl) ?_
  refine q_look (look_assign rfl rfl) ?_
  refine q_nil ?_
  intro w1 hw1
  refine then_normal ?_
  refine wp_ret ?_
  exact res1 Tryd.results5 rfl ⟨ret_bool (by simp), hu0.comp hw1⟩

theorem matches_law (x y : B) (w : World) (hG : G w) :
    Calls Tryd.prog 6 #[.agg #[.int .i64 x.kind, .int .i64 x.fr, .int .i64 x.un, .int .i64 x.gap, .int .i64 x.face, .int .i64 x.run], .agg #[.int .i64 y.kind, .int .i64 y.fr, .int .i64 y.un, .int .i64 y.gap, .int .i64 y.face, .int .i64 y.run]] w fun e w' => e = .returned (.bool true) ∧ Ext w w' := by
  refine calls_act Tryd.func6 rfl Tryd.ntmps6 rfl rfl ?_
  show Code.wp _ _ _ (act 29 [(0, true, .agg #[.int .i64 x.kind, .int .i64 x.fr, .int .i64 x.un, .int .i64 x.gap, .int .i64 x.face, .int .i64 x.run]), (1, true, .agg #[.int .i64 y.kind, .int .i64 y.fr, .int .i64 y.un, .int .i64 y.gap, .int .i64 y.face, .int .i64 y.run])] _) _
  refine wp_seq ?_
  refine wp_region_lit ?_
  refine s_box rfl ?_
  intro g0 u0 hu0 hB0 hg0 hs0
  refine s_box rfl ?_
  intro g1 u1 hu1 hB1 hg1 hs1
  refine s_look (look_assign rfl rfl) ?_
  refine s_nil ?_
  refine then_normal ?_
  refine wp_seq ?_
  refine region_qd mixed (by kernel_rfl) ?_
  refine q_look (look_loadN Tryd.underlying28 rfl szTryd_28 rfl rfl rfl (ext_cell_n (hB0.ext hu1))) ?_
  refine q_look (look_loadN Tryd.underlying28 rfl szTryd_28 rfl rfl rfl (ext_cell_n hB1)) ?_
  refine q_call (vs := [_, _]) enTryd_22 ⟨⟨_, rfl, rfl⟩, ⟨_, rfl, rfl⟩, trivial⟩ (fun wc hw => cext hw (match_any x y wc)) ?_
  refine q_look (look_loadN Tryd.underlying28 rfl szTryd_28 rfl rfl rfl (ext_cell_n (hB0.ext hu1))) ?_
  refine q_look (look_loadN Tryd.underlying28 rfl szTryd_28 rfl rfl rfl (ext_cell_n hB1)) ?_
  refine q_call (vs := [_, _]) enTryd_23 ⟨⟨_, rfl, rfl⟩, ⟨_, rfl, rfl⟩, trivial⟩ (fun wc hw => cext hw (refmatch_any x y wc)) ?_
  refine q_look (look_eql_bool Tryd.underlying4 rfl rfl rfl rfl) ?_
  refine q_look (look_move rfl rfl) ?_
  refine q_lookg rfl rfl rfl (fun hq => look_loadN Tryd.underlying28 rfl szTryd_28 rfl rfl rfl (ext_cell_n hB1)) ?_
  refine q_lookg rfl rfl rfl (fun hq => look_loadN Tryd.underlying28 rfl szTryd_28 rfl rfl rfl (ext_cell_n (hB0.ext hu1))) ?_
  refine q_callg (vs := [_, _]) rfl rfl rfl enTryd_22 (fun hq => ⟨⟨_, rfl, hq⟩, ⟨_, rfl, hq⟩, trivial⟩) (fun hq wc hw => cext hw (match_any y x wc)) ?_
  refine q_lookg rfl rfl rfl (fun hq => look_loadN Tryd.underlying28 rfl szTryd_28 rfl rfl rfl (ext_cell_n (hB0.ext hu1))) ?_
  refine q_lookg rfl rfl rfl (fun hq => look_loadN Tryd.underlying28 rfl szTryd_28 rfl rfl rfl (ext_cell_n hB1)) ?_
  refine q_callg (vs := [_, _]) rfl rfl rfl enTryd_22 (fun hq => ⟨⟨_, rfl, hq⟩, ⟨_, rfl, hq⟩, trivial⟩) (fun hq wc hw => cext hw (match_any x y wc)) ?_
  refine q_lookg rfl rfl rfl (fun hq => look_eql_bool Tryd.underlying4 rfl hq rfl hq) ?_
  refine q_look (look_and rfl rfl rfl rfl) ?_
  refine q_look (look_move rfl rfl) ?_
  refine q_lookg rfl rfl rfl (fun hq => look_loadN Tryd.underlying28 rfl szTryd_28 rfl rfl rfl (ext_cell_n (hB0.ext hu1))) ?_
  refine q_lookg rfl rfl rfl (fun hq => look_loadN Tryd.underlying28 rfl szTryd_28 rfl rfl rfl (ext_cell_n (hB0.ext hu1))) ?_
  refine q_callg (vs := [_, _]) rfl rfl rfl enTryd_22 (fun hq => ⟨⟨_, rfl, hq⟩, ⟨_, rfl, hq⟩, trivial⟩) (fun hq wc hw => cext hw (match_any x x wc)) ?_
  refine q_look (look_and rfl rfl rfl rfl) ?_
  refine q_look (look_move rfl rfl) ?_
  refine q_callg (vs := []) rfl rfl rfl enTryd_11 (fun hq => trivial) (fun hq wc hw => cext hw (awake_any wc ((((hG.ext hu0).ext hu1)).ext hw))) ?_
  refine q_look (look_and rfl rfl rfl rfl) ?_
  refine q_look (look_assign rfl rfl) ?_
  refine q_nil ?_
  intro w1 hw1
  refine then_normal ?_
  refine wp_ret ?_
  exact res1 Tryd.results6 rfl ⟨ret_bool (by simp [matchP, eq_comm]), (hu0.comp hu1).comp hw1⟩

theorem dense_law (x : B) (t len : Int) (w : World) (hG : G w) :
    Calls Tryd.prog 9 #[.agg #[.int .i64 x.kind, .int .i64 x.fr, .int .i64 x.un, .int .i64 x.gap, .int .i64 x.face, .int .i64 x.run], .int .i64 t, .int .i64 len] w fun e w' => e = .returned (.bool true) ∧ Ext w w' := by
  refine calls_act Tryd.func9 rfl Tryd.ntmps9 rfl rfl ?_
  show Code.wp _ _ _ (act 39 [(0, true, .agg #[.int .i64 x.kind, .int .i64 x.fr, .int .i64 x.un, .int .i64 x.gap, .int .i64 x.face, .int .i64 x.run]), (1, true, .int .i64 t), (2, true, .int .i64 len)] _) _
  have hmb := metal_bd x t len
  refine wp_seq ?_
  refine wp_region_lit ?_
  refine s_box rfl ?_
  intro g0 u0 hu0 hB0 hg0 hs0
  refine s_look (look_assign rfl rfl) ?_
  refine s_nil ?_
  refine then_normal ?_
  refine wp_seq ?_
  refine region_qd mixed (by kernel_rfl) ?_
  refine q_look (look_loadN Tryd.underlying28 rfl szTryd_28 rfl rfl rfl (ext_cell_n hB0)) ?_
  refine q_look (look_move rfl rfl) ?_
  refine q_look (look_move rfl rfl) ?_
  refine q_call (vs := [_, _, _]) enTryd_18 ⟨⟨_, rfl, rfl⟩, ⟨_, rfl, rfl⟩, ⟨_, rfl, rfl⟩, trivial⟩ (fun wc hw => cext hw (volume_any x t len wc ((hG.ext hu0).ext hw))) ?_
  refine q_look (look_loadN Tryd.underlying28 rfl szTryd_28 rfl rfl rfl (ext_cell_n hB0)) ?_
  refine q_look (look_move rfl rfl) ?_
  refine q_look (look_move rfl rfl) ?_
  refine q_call (vs := [_, _, _]) enTryd_20 ⟨⟨_, rfl, rfl⟩, ⟨_, rfl, rfl⟩, ⟨_, rfl, rfl⟩, trivial⟩ (fun wc hw => cext hw (mass_any x t len wc ((hG.ext hu0).ext hw))) ?_
  refine q_look (look_assign rfl rfl) ?_
  refine q_look (look_assign rfl rfl) ?_
  refine q_nil ?_
  intro w1 hw1
  have hv : 0 ≤ volP x t len ∧ volP x t len ≤ 1000000000 := by unfold volP; omega
  refine then_normal ?_
  refine wp_seq ?_
  refine wp_seq ?_
  refine region_s ?_
  refine q_look (look_move rfl rfl) ?_
  refine q_look (look_lss rfl rfl rfl rfl) ?_
  refine q_look (look_move rfl rfl) ?_
  refine q_lookg rfl rfl rfl (fun hq => look_move rfl rfl) ?_
  refine q_lookg rfl rfl rfl (fun hq => look_gtr rfl hq rfl rfl) ?_
  refine q_look (look_or rfl rfl rfl rfl) ?_
  refine q_nil ?_
  rintro _ rfl
  refine then_normal ?_
  refine cond_false rfl (by rw [Bool.or_eq_false_iff]; exact ⟨decide_eq_false (by unfold volP; omega), decide_eq_false (by unfold volP; omega)⟩) ?_
  refine wp_skip ?_
  refine then_normal ?_
  refine wp_seq ?_
  refine region_q ?_
  refine q_look (look_move rfl rfl) ?_
  refine q_look (look_move rfl rfl) ?_
  refine q_look (look_mul rfl rfl rfl rfl (by unfold I64; omega)) ?_
  refine q_look (look_quo rfl rfl rfl rfl (by omega) (by omega) (by omega)) ?_
  refine q_look (look_geq rfl rfl rfl rfl) ?_
  refine q_look (look_move rfl rfl) ?_
  refine q_lookg rfl rfl rfl (fun hq => look_move rfl rfl) ?_
  refine q_lookg rfl rfl rfl (fun hq => look_move rfl rfl) ?_
  refine q_lookg rfl rfl rfl (fun hq => look_add rfl hq rfl rfl (by unfold I64; omega)) ?_
  refine q_lookg rfl rfl rfl (fun hq => look_mul rfl hq rfl rfl (by unfold I64; omega)) ?_
  refine q_lookg rfl rfl rfl (fun hq => look_quo rfl hq rfl rfl (by omega) (by omega) (by omega)) ?_
  refine q_lookg rfl rfl rfl (fun hq => look_leq rfl hq rfl hq) ?_
  refine q_look (look_and rfl rfl rfl rfl) ?_
  refine q_look (look_move rfl rfl) ?_
  refine q_callg (vs := []) rfl rfl rfl enTryd_11 (fun hq => trivial) (fun hq wc hw => cext hw (awake_any wc (((hG.ext hu0).ext hw1).ext hw))) ?_
  refine q_look (look_and rfl rfl rfl rfl) ?_
  refine q_look (look_assign rfl rfl) ?_
  refine q_nil ?_
  intro w2 hw2
  refine then_normal ?_
  refine wp_ret ?_
  exact res1 Tryd.results9 rfl ⟨ret_bool (by simp only [Bool.and_true, Bool.and_eq_true, decide_eq_true_eq]; unfold massP volP; omega), (hu0.comp hw1).comp hw2⟩

theorem once_law (l : List B) (A : Option Addr) (cap : Nat) (kind thick : Int) (w : World) (hG : G w) (hS : SlB w A l) :
    Calls Tryd.prog 7 #[.slice A l.length cap, .int .i64 kind, .int .i64 thick] w fun e w' => e = .returned (.bool true) ∧ Ext w w' := by
  refine calls_act Tryd.func7 rfl Tryd.ntmps7 rfl rfl ?_
  show Code.wp _ _ _ (act 86 [(0, true, .slice A l.length cap), (1, true, .int .i64 kind), (2, true, .int .i64 thick)] _) _
  refine wp_seq ?_
  refine region_s ?_
  refine q_look (look_assign rfl rfl) ?_
  refine q_nil ?_
  rintro _ rfl
  refine then_normal ?_
  refine wp_seq ?_
  refine wp_seq ?_
  refine region_q ?_
  refine q_look (look_move rfl rfl) ?_
  refine q_look (look_len_slice Tryd.underlying22 rfl rfl) ?_
  refine q_look (look_gtr rfl rfl rfl rfl) ?_
  refine q_look (look_move rfl rfl) ?_
  refine q_lookg rfl rfl rfl (fun hq => look_move rfl rfl) ?_
  refine q_callg (vs := [_]) rfl rfl rfl enTryd_12 (fun hq => ⟨⟨_, rfl, hq⟩, trivial⟩) (fun hq wc hw => cext hw (check_any l A cap wc (hG.ext hw) (hS.ext hw) (by have h100 : ¬ (100 : Int) < (l.length : Int) := (by have h0 := gqR hq; simpa using h0); omega))) ?_
  refine q_lookg rfl rfl rfl (fun hq => look_neq rfl hq rfl rfl) ?_
  refine q_look (look_or rfl rfl rfl rfl) ?_
  refine q_nil ?_
  intro w1 hw1
  refine then_normal ?_
  refine cond_split rfl (fun hc18 => ?_) (fun hc18 => ?_)
  · skip
    refine wp_seq ?_
    refine region_q ?_
    refine q_call (vs := []) enTryd_11 trivial (fun wc hw => cext hw (awake_any wc ((hG.ext hw1).ext hw))) ?_
    refine q_look (look_assign rfl rfl) ?_
    refine q_nil ?_
    intro w2 hw2
    refine then_normal ?_
    refine wp_ret ?_
    refine then_ret ?_
    exact res1 Tryd.results7 rfl ⟨rfl, hw1.comp hw2⟩
  · rw [Bool.or_eq_false_iff] at hc18
    have hlen : l.length ≤ 1000 := by have := of_decide_eq_false hc18.1; omega
    have hchk : checkP l = 0 := by have h := hc18.2; simpa using h
    have hS1 := hS.ext hw1
    have hG1 := hG.ext hw1
    refine wp_skip ?_
    refine then_normal ?_
    refine wp_seq ?_
    refine wp_region_lit ?_
    refine s_look (look_move rfl rfl) ?_
    refine s_look (look_move rfl rfl) ?_
    refine s_look (look_move rfl rfl) ?_
    refine s_call (vs := [_, _, _]) enTryd_14 ⟨⟨_, rfl, rfl⟩, ⟨_, rfl, rfl⟩, ⟨_, rfl, rfl⟩, trivial⟩ (find_any l A cap kind thick _ hS1 hlen) ?_
    rintro _ cf0 ⟨rfl, hcf0⟩
    refine ⟨_, rfl, ?_⟩
    
    refine s_look (look_move rfl rfl) ?_
    refine s_look (look_extract rfl rfl rfl) ?_
    refine s_look (look_extract rfl rfl rfl) ?_
    refine s_alloc zeTryd_28 ?_
    intro a0 v0 hv0 hA0 ha0 hz0
    refine s_store szTryd_28 rfl (by simp [bcells, zB, Value.cells, Value.oneCell']) rfl rfl hA0 rfl ?_
    intro k0 hk0 hT0
    replace hT0 : Blk k0 _ 28 (bcells (findP (hits kind thick) l).1) := hT0
    refine s_look (look_assign rfl rfl) ?_
    refine s_nil ?_
    have e1 : Ext w1 k0 := Kp.below (hcf0.comp hv0) hk0 (by have := hcf0.size; omega)
    refine then_normal ?_
    refine wp_seq ?_
    refine region_s ?_
    refine q_look (look_assign rfl rfl) ?_
    refine q_nil ?_
    rintro _ rfl
    refine then_normal ?_
    refine wp_seq ?_
    refine wp_seq ?_
    refine region_s ?_
    refine q_look (look_assign rfl rfl) ?_
    refine q_nil ?_
    rintro _ rfl
    refine then_normal ?_
    refine wp_block ?_
    refine loop_act (fun (k : Nat) => [(0, .slice A l.length cap), (1, .int .i64 kind), (2, .int .i64 thick), (7, .pointer (some ⟨a0, 0, none⟩)), (8, .bool (findP (hits kind thick) l).2), (9, .int .i64 (((l.take k).countP (hits kind thick) : Nat) : Int)), (10, .int .i64 (k : Int))]) (fun (k : Nat) w' => Ext k0 w' ∧ k ≤ l.length) (fun (k : Nat) => l.length - k) (0) ?_ ?_ ?_
    · exact ⟨rfl, rfl, rfl, rfl, rfl, rfl, rfl, trivial⟩
    · exact ⟨Ext.rfl' _, Nat.zero_le _⟩
    · rintro k σ wr ⟨hx, hk⟩
      have hcl : (l.take k).countP (hits kind thick) ≤ k := Nat.le_trans List.countP_le_length (by simp; omega)
      have hTr := hT0.ext hx
      have hSr := (hS1.ext e1).ext hx
      show Code.wp _ _ _ (act 86 [(0, true, .slice A l.length cap), (1, true, .int .i64 kind), (2, true, .int .i64 thick), (7, true, .pointer (some ⟨a0, 0, none⟩)), (8, true, .bool (findP (hits kind thick) l).2), (9, true, .int .i64 (((l.take k).countP (hits kind thick) : Nat) : Int)), (10, true, .int .i64 (k : Int))] _) _
      refine wp_seq ?_
      refine wp_seq ?_
      refine region_s ?_
      refine q_look (look_move rfl rfl) ?_
      refine q_look (look_move rfl rfl) ?_
      refine q_look (look_len_slice Tryd.underlying22 rfl rfl) ?_
      refine q_look (look_lss rfl rfl rfl rfl) ?_
      refine q_nil ?_
      rintro _ rfl
      refine then_normal ?_
      refine cond_split rfl (fun hc30 => ?_) (fun hc30 => ?_)
      · have hlt : k < l.length := by simp at hc30; omega
        obtain ⟨x, hxk⟩ := get_lt hlt
        obtain ⟨b, o, rfl, hcc⟩ := hSr.at_ hlt
        refine wp_skip ?_
        refine then_normal ?_
        refine wp_seq ?_
        refine wp_block ?_
        refine wp_seq ?_
        refine region_s ?_
        refine q_look (look_move rfl rfl) ?_
        refine q_look (look_move rfl rfl) ?_
        refine q_look (look_indexAddr _ Tryd.underlying22 szTryd_28 rfl rfl rfl rfl rfl (by omega)) ?_
        refine q_look (look_fieldAddr Tryd.underlying28 rfl (fun _ _ => rfl) rfl rfl) ?_
        refine q_look (look_load1 Tryd.underlying3 rfl rfl rfl (eqc (hcc k x hxk _ _ rfl))) ?_
        refine q_look (look_move rfl rfl) ?_
        refine q_look (look_eql rfl rfl rfl rfl) ?_
        refine q_look (look_move rfl rfl) ?_
        refine q_lookg rfl rfl rfl (fun hq => look_move rfl rfl) ?_
        refine q_lookg rfl rfl rfl (fun hq => look_move rfl rfl) ?_
        refine q_lookg rfl rfl rfl (fun hq => look_indexAddr _ Tryd.underlying22 szTryd_28 rfl hq rfl hq rfl (by omega)) ?_
        refine q_lookg rfl rfl rfl (fun hq => look_fieldAddr Tryd.underlying28 rfl (fun _ _ => rfl) rfl hq) ?_
        refine q_lookg rfl rfl rfl (fun hq => look_load1 Tryd.underlying3 rfl rfl hq (eqc (hcc k x hxk _ _ rfl))) ?_
        refine q_lookg rfl rfl rfl (fun hq => look_move rfl rfl) ?_
        refine q_lookg rfl rfl rfl (fun hq => look_leq rfl hq rfl hq) ?_
        refine q_look (look_and rfl rfl rfl rfl) ?_
        refine q_look (look_move rfl rfl) ?_
        refine q_lookg rfl rfl rfl (fun hq => look_move rfl rfl) ?_
        refine q_lookg rfl rfl rfl (fun hq => look_move rfl rfl) ?_
        refine q_lookg rfl rfl rfl (fun hq => look_move rfl rfl) ?_
        refine q_lookg rfl rfl rfl (fun hq => look_indexAddr _ Tryd.underlying22 szTryd_28 rfl hq rfl hq rfl (by omega)) ?_
        refine q_lookg rfl rfl rfl (fun hq => look_fieldAddr Tryd.underlying28 rfl (fun _ _ => rfl) rfl hq) ?_
        refine q_lookg rfl rfl rfl (fun hq => look_load1 Tryd.underlying3 rfl rfl hq (eqc (hcc k x hxk _ _ rfl))) ?_
        refine q_lookg rfl rfl rfl (fun hq => look_leq rfl hq rfl hq) ?_
        refine q_look (look_and rfl rfl rfl rfl) ?_
        refine q_nil ?_
        rintro _ rfl
        refine then_normal ?_
        refine cond_split rfl (fun hc57 => ?_) (fun hc57 => ?_)
        · have hp : hits kind thick x = true := by unfold hits withinB; rw [← Bool.and_assoc]; exact hc57
          have hfx := found_one hchk hxk hp
          refine wp_seq ?_
          refine region_s ?_
          refine q_look (look_move rfl rfl) ?_
          refine q_look (look_add rfl rfl rfl rfl (by unfold I64; omega)) ?_
          refine q_look (look_assign rfl rfl) ?_
          refine q_nil ?_
          rintro _ rfl
          refine then_normal ?_
          refine wp_seq ?_
          refine region_qd mixed (by kernel_rfl) ?_
          refine q_look (look_move rfl rfl) ?_
          refine q_look (look_not rfl rfl) ?_
          refine q_look (look_move rfl rfl) ?_
          refine q_lookg rfl rfl rfl (fun hq => look_move rfl rfl) ?_
          refine q_lookg rfl rfl rfl (fun hq => look_move rfl rfl) ?_
          refine q_lookg rfl rfl rfl (fun hq => look_indexAddr _ Tryd.underlying22 szTryd_28 rfl hq rfl hq rfl (by omega)) ?_
          refine q_lookg rfl rfl rfl (fun hq => look_loadN Tryd.underlying28 rfl szTryd_28 rfl rfl hq (cs := bcells x) (fun w' e j v hv => e.cell (hcc k x hxk j v hv))) ?_
          refine q_lookg rfl rfl rfl (fun hq => look_loadN Tryd.underlying28 rfl szTryd_28 rfl rfl rfl (ext_cell_n hTr)) ?_
          refine q_lookg rfl rfl rfl (fun hq => look_neq_flat Tryd.underlying28 stood28 guard28 rfl hq rfl hq (eqB _ _)) ?_
          refine q_look (look_or rfl rfl rfl rfl) ?_
          refine q_nil ?_
          intro w3 hw3
          have hx2 := hx.comp hw3
          refine then_normal ?_
          refine cond_false rfl (by rw [hfx]; simp) ?_
          refine wp_skip ?_
          refine inB_normal ?_
          refine then_normal ?_
          refine region_s ?_
          refine q_look (look_move rfl rfl) ?_
          refine q_look (look_add rfl rfl rfl rfl (by unfold I64; omega)) ?_
          refine q_look (look_assign rfl rfl) ?_
          refine q_nil ?_
          rintro _ rfl
          exact loop_end (k + 1) (by omega) ⟨rfl, rfl, rfl, rfl, rfl, by simp only [List.take_add_one, hxk, Option.toList, List.countP_append, List.countP_cons, List.countP_nil, hp]; rfl, rfl, trivial⟩ ⟨hx2, by omega⟩
        · have hp : hits kind thick x = false := by unfold hits withinB; rw [← Bool.and_assoc]; exact hc57
          have hx2 := hx
          refine wp_skip ?_
          refine inB_normal ?_
          refine then_normal ?_
          refine region_s ?_
          refine q_look (look_move rfl rfl) ?_
          refine q_look (look_add rfl rfl rfl rfl (by unfold I64; omega)) ?_
          refine q_look (look_assign rfl rfl) ?_
          refine q_nil ?_
          rintro _ rfl
          exact loop_end (k + 1) (by omega) ⟨rfl, rfl, rfl, rfl, rfl, by simp only [List.take_add_one, hxk, Option.toList, List.countP_append, List.countP_cons, List.countP_nil, hp]; rfl, rfl, trivial⟩ ⟨hx2, by omega⟩
      · have hge : ¬ k < l.length := by simp at hc30; omega
        refine wp_exit ?_
        refine then_exit ?_
        refine then_exit ?_
        refine inB_exit_same ?_
        refine then_normal ?_
        refine wp_seq ?_
        refine region_q ?_
        refine q_look (look_move rfl rfl) ?_
        refine q_look (look_leq rfl rfl rfl rfl) ?_
        refine q_look (look_move rfl rfl) ?_
        refine q_lookg rfl rfl rfl (fun hq => look_move rfl rfl) ?_
        refine q_lookg rfl rfl rfl (fun hq => look_move rfl rfl) ?_
        refine q_lookg rfl rfl rfl (fun hq => look_eql rfl hq rfl rfl) ?_
        refine q_lookg rfl rfl rfl (fun hq => look_eql_bool Tryd.underlying4 rfl hq rfl hq) ?_
        refine q_look (look_and rfl rfl rfl rfl) ?_
        refine q_look (look_move rfl rfl) ?_
        refine q_lookg rfl rfl rfl (fun hq => look_move rfl rfl) ?_
        refine q_lookg rfl rfl rfl (fun hq => look_len_slice Tryd.underlying22 rfl hq) ?_
        refine q_lookg rfl rfl rfl (fun hq => look_leq rfl hq rfl rfl) ?_
        refine q_look (look_and rfl rfl rfl rfl) ?_
        refine q_look (look_move rfl rfl) ?_
        refine q_callg (vs := []) rfl rfl rfl enTryd_11 (fun hq => trivial) (fun hq wc hw => cext hw (awake_any wc (((hG1.ext e1).ext hx).ext hw))) ?_
        refine q_look (look_and rfl rfl rfl rfl) ?_
        refine q_look (look_assign rfl rfl) ?_
        refine q_nil ?_
        intro w4 hw4
        have hfin := hw4
        refine then_normal ?_
        refine wp_ret ?_
        have hn := one_count (kind := kind) (thick := thick) (checkP_ok hchk).2.2
        have hl32 := (checkP_ok hchk).1
        rw [List.take_of_length_le (by omega)]
        exact res1 Tryd.results7 rfl ⟨ret_bool (by rw [hn]; cases (findP (hits kind thick) l).2 <;> simp <;> omega), ((hw1.comp e1).comp hx).comp hfin⟩

end Go.Proofs.YtbmkkepmecpffaaDoor
