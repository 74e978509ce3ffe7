/- The walks of chapter 22 (bevel), first part: the small functions. -/
import Derived.Test.YtbmkkepmecpffaaDoorRows
import Derived.Test.YtbmkkepmecpffaaDoorCore
namespace Go.Proofs.YtbmkkepmecpffaaDoor
open Go Go.RowKit Core
set_option linter.unusedVariables false
set_option linter.unusedSimpArgs false
attribute [local irreducible] wpQuiet wpList Code.wp Calls bodyPost act

theorem mixed : Tryd.prog.follows .mixedOrders = true := by kernel_rfl
theorem enTryd_3 : Enters Tryd.prog 3 := enters_of Tryd.func3 (by kernel_rfl) rfl
theorem enTryd_4 : Enters Tryd.prog 4 := enters_of Tryd.func4 (by kernel_rfl) rfl
theorem enTryd_5 : Enters Tryd.prog 5 := enters_of Tryd.func5 (by kernel_rfl) rfl
theorem enTryd_6 : Enters Tryd.prog 6 := enters_of Tryd.func6 (by kernel_rfl) rfl
theorem enTryd_7 : Enters Tryd.prog 7 := enters_of Tryd.func7 (by kernel_rfl) rfl
theorem enTryd_8 : Enters Tryd.prog 8 := enters_of Tryd.func8 (by kernel_rfl) rfl
theorem enTryd_9 : Enters Tryd.prog 9 := enters_of Tryd.func9 (by kernel_rfl) rfl
theorem enTryd_10 : Enters Tryd.prog 10 := enters_of Tryd.func10 (by kernel_rfl) rfl
theorem enTryd_11 : Enters Tryd.prog 11 := enters_of Tryd.func11 (by kernel_rfl) rfl
theorem enTryd_12 : Enters Tryd.prog 12 := enters_of Tryd.func12 (by kernel_rfl) rfl
theorem enTryd_13 : Enters Tryd.prog 13 := enters_of Tryd.func13 (by kernel_rfl) rfl
theorem enTryd_14 : Enters Tryd.prog 14 := enters_of Tryd.func14 (by kernel_rfl) rfl
theorem enTryd_15 : Enters Tryd.prog 15 := enters_of Tryd.func15 (by kernel_rfl) rfl
theorem enTryd_16 : Enters Tryd.prog 16 := enters_of Tryd.func16 (by kernel_rfl) rfl
theorem enTryd_17 : Enters Tryd.prog 17 := enters_of Tryd.func17 (by kernel_rfl) rfl
theorem enTryd_18 : Enters Tryd.prog 18 := enters_of Tryd.func18 (by kernel_rfl) rfl
theorem enTryd_19 : Enters Tryd.prog 19 := enters_of Tryd.func19 (by kernel_rfl) rfl
theorem enTryd_20 : Enters Tryd.prog 20 := enters_of Tryd.func20 (by kernel_rfl) rfl
theorem enTryd_21 : Enters Tryd.prog 21 := enters_of Tryd.func21 (by kernel_rfl) rfl
theorem enTryd_22 : Enters Tryd.prog 22 := enters_of Tryd.func22 (by kernel_rfl) rfl
theorem enTryd_23 : Enters Tryd.prog 23 := enters_of Tryd.func23 (by kernel_rfl) rfl
theorem enTryd_24 : Enters Tryd.prog 24 := enters_of Tryd.func24 (by kernel_rfl) rfl
theorem enTryd_25 : Enters Tryd.prog 25 := enters_of Tryd.func25 (by kernel_rfl) rfl
theorem enTryd_26 : Enters Tryd.prog 26 := enters_of Tryd.func26 (by kernel_rfl) rfl
theorem enTryd_27 : Enters Tryd.prog 27 := enters_of Tryd.func27 (by kernel_rfl) rfl
theorem enTryd_28 : Enters Tryd.prog 28 := enters_of Tryd.func28 (by kernel_rfl) rfl
theorem enTryd_29 : Enters Tryd.prog 29 := enters_of Tryd.func29 (by kernel_rfl) rfl
theorem enTryd_30 : Enters Tryd.prog 30 := enters_of Tryd.func30 (by kernel_rfl) rfl
theorem enTryd_31 : Enters Tryd.prog 31 := enters_of Tryd.func31 (by kernel_rfl) rfl
theorem enTryd_32 : Enters Tryd.prog 32 := enters_of Tryd.func32 (by kernel_rfl) rfl
theorem szTryd_3 : (Tryd.prog.info? 3).map (fun i => i.size) = some 1 := by kernel_rfl
theorem zeTryd_3 : (Tryd.prog.info? 3).map (fun i => i.zero) = some (some (.int .i64 0)) := by kernel_rfl
theorem szTryd_28 : (Tryd.prog.info? 28).map (fun i => i.size) = some 6 := by kernel_rfl
theorem zeTryd_28 : (Tryd.prog.info? 28).map (fun i => i.zero) = some (some (.agg #[.int .i64 0, .int .i64 0, .int .i64 0, .int .i64 0, .int .i64 0, .int .i64 0])) := by kernel_rfl

/-- The two tables of the program, as its start-up lays them. -/
structure G (w : World) : Prop where
  c0 : w.cell? ⟨0, 0, none⟩ = some (.int .i64 1)
  c1 : w.cell? ⟨0, 1, none⟩ = some (.int .i64 2)
  c2 : w.cell? ⟨1, 0, none⟩ = some (.int .i64 20)
  c3 : w.cell? ⟨1, 1, none⟩ = some (.int .i64 300)
theorem G.ext {w w' : World} (h : G w) (e : Ext w w') : G w' := ⟨e.cell h.c0, e.cell h.c1, e.cell h.c2, e.cell h.c3⟩
theorem G.kinds {w : World} (h : G w) {k : Nat} (hk : k < 2) : w.cell? ⟨0, 0 + k * 1, none⟩ = some (.int .i64 ((k : Int) + 1)) := by
  rcases (by omega : k = 0 ∨ k = 1) with rfl | rfl
  · exact h.c0
  · exact h.c1
theorem ret_int {k : IntKind} {a b : Int} (h : a = b) : Ending.returned (.int k a) = .returned (.int k b) := by rw [h]
theorem ret_bool {a b : Bool} (h : a = b) : Ending.returned (.bool a) = .returned (.bool b) := by rw [h]

structure B where
  kind : Int
  fr : Int
  un : Int
  gap : Int
  face : Int
  run : Int
def bcells (x : B) : List Value := [.int .i64 x.kind, .int .i64 x.fr, .int .i64 x.un, .int .i64 x.gap, .int .i64 x.face, .int .i64 x.run]
def idx2 (v : Int) : Int := if v = 1 then 0 else if v = 2 then 1 else -1
def knownB (v : Int) : Bool := decide (v = 1) || decide (v = 2)
def withinB (n lo hi : Int) : Bool := decide (lo ≤ n) && decide (n ≤ hi)
def rightB (x : B) : Bool := knownB x.kind && withinB x.fr 1 x.un && decide (x.un ≤ 120) && withinB x.gap 0 20 && withinB x.face 0 x.fr && withinB x.run 0 300
def rightE (x : B) : Int := if knownB x.kind = false then 10 else if rightB x = false then 9 else 0

theorem within_any (n lo hi : Int) (w : World) :
    Calls Tryd.prog 29 #[.int .i64 n, .int .i64 lo, .int .i64 hi] w fun e w' => e = .returned (.bool (withinB n lo hi)) ∧ Ext w w' := by
  refine calls_act Tryd.func29 rfl Tryd.ntmps29 rfl rfl ?_
  show Code.wp _ _ _ (act 15 [(0, true, .int .i64 n), (1, true, .int .i64 lo), (2, true, .int .i64 hi)] _) _
  refine wp_seq ?_
  refine region_s ?_
  refine q_look (look_assign rfl rfl) ?_
  refine q_nil ?_
  rintro _ rfl
  refine then_normal ?_
  refine wp_seq ?_
  refine region_s ?_
  refine q_look (look_move rfl rfl) ?_
  refine q_look (look_move rfl rfl) ?_
  refine q_look (look_leq rfl rfl rfl rfl) ?_
  refine q_look (look_move rfl rfl) ?_
  refine q_lookg rfl rfl rfl (fun hq => look_move rfl rfl) ?_
  refine q_lookg rfl rfl rfl (fun hq => look_move rfl rfl) ?_
  refine q_lookg rfl rfl rfl (fun hq => look_leq rfl hq rfl hq) ?_
  refine q_look (look_and rfl rfl rfl rfl) ?_
  refine q_look (look_assign rfl rfl) ?_
  refine q_nil ?_
  rintro _ rfl
  refine then_normal ?_
  refine wp_ret ?_
  exact res1 Tryd.results29 rfl ⟨rfl, Ext.rfl' _⟩

theorem index_any (v : Int) (w : World) (hG : G w) :
    Calls Tryd.prog 32 #[.slice (some ⟨0, 0, none⟩) 2 2, .int .i64 v] w fun e w' => e = .returned (.int .i64 (idx2 v)) ∧ Ext w w' := by
  refine calls_act Tryd.func32 rfl Tryd.ntmps32 rfl rfl ?_
  show Code.wp _ _ _ (act 19 [(0, true, .slice (some ⟨0, 0, none⟩) 2 2), (1, true, .int .i64 v)] _) _
  refine wp_seq ?_
  refine region_s ?_
  refine q_look (look_assign rfl rfl) ?_
  refine q_nil ?_
  rintro _ rfl
  refine then_normal ?_
  refine wp_seq ?_
  refine wp_seq ?_
  refine region_s ?_
  refine q_look (look_move rfl rfl) ?_
  refine q_look (look_len_slice Tryd.underlying45 rfl rfl) ?_
  refine q_look (look_move rfl rfl) ?_
  refine q_nil ?_
  rintro _ rfl
  refine then_normal ?_
  refine wp_block ?_
  refine loop_act (fun (k : Nat) => [(0, .slice (some ⟨0, 0, none⟩) 2 2), (1, .int .i64 v), (7, .int .i64 2), (8, .int .i64 (k : Int))]) (fun (k : Nat) w' => w = w' ∧ k ≤ 2 ∧ (1 ≤ k → v ≠ 1) ∧ (2 ≤ k → v ≠ 2)) (fun (k : Nat) => 2 - k) (0) ?_ ?_ ?_
  · exact ⟨rfl, rfl, rfl, rfl, trivial⟩
  · exact ⟨rfl, by omega, by omega, by omega⟩
  · rintro k σ _ ⟨rfl, hk, a1, a2⟩
    show Code.wp _ _ _ (act 19 [(0, true, .slice (some ⟨0, 0, none⟩) 2 2), (1, true, .int .i64 v), (7, true, .int .i64 2), (8, true, .int .i64 (k : Int))] _) _
    refine wp_seq ?_
    refine region_s ?_
    refine q_look (look_lss rfl rfl rfl rfl) ?_
    refine q_nil ?_
    rintro _ rfl
    refine then_normal ?_
    refine wp_seq ?_
    refine cond_split rfl (fun hc9 => ?_) (fun hc9 => ?_)
    · have hlt : k < 2 := by simp at hc9; omega
      refine wp_skip ?_
      refine then_normal ?_
      refine wp_seq ?_
      refine wp_block ?_
      refine wp_seq ?_
      refine region_s ?_
      refine q_look (look_move rfl rfl) ?_
      refine q_look (look_assign rfl rfl) ?_
      refine q_nil ?_
      rintro _ rfl
      refine then_normal ?_
      refine wp_seq ?_
      refine region_s ?_
      refine q_look (look_move rfl rfl) ?_
      refine q_look (look_move rfl rfl) ?_
      refine q_look (look_move rfl rfl) ?_
      refine q_look (look_indexAddr _ Tryd.underlying45 szTryd_3 rfl rfl rfl rfl rfl (by omega)) ?_
      refine q_look (look_load1 Tryd.underlying3 rfl rfl rfl (eqc (hG.kinds (by omega)))) ?_
      refine q_look (look_eql rfl rfl rfl rfl) ?_
      refine q_nil ?_
      rintro _ rfl
      refine then_normal ?_
      refine cond_split rfl (fun hc16 => ?_) (fun hc16 => ?_)
      · have hv : v = (k : Int) + 1 := by simpa using hc16
        refine wp_seq ?_
        refine region_s ?_
        refine q_look (look_move rfl rfl) ?_
        refine q_look (look_assign rfl rfl) ?_
        refine q_nil ?_
        rintro _ rfl
        refine then_normal ?_
        refine wp_ret ?_
        refine inB_ret ?_
        refine then_ret ?_
        refine then_ret ?_
        refine inB_ret ?_
        refine then_ret ?_
        exact res1 Tryd.results32 rfl ⟨ret_int (by unfold idx2; rcases (by omega : k = 0 ∨ k = 1) with rfl | rfl <;> simp [hv]), Ext.rfl' _⟩
      · have hv : ¬ v = (k : Int) + 1 := by simpa using hc16
        refine wp_skip ?_
        refine inB_normal ?_
        refine then_normal ?_
        refine region_s ?_
        refine q_look (look_add rfl rfl rfl rfl (by unfold I64; omega)) ?_
        refine q_look (look_move rfl rfl) ?_
        refine q_nil ?_
        rintro _ rfl
        exact loop_end (k + 1) (by omega) ⟨rfl, rfl, rfl, rfl, trivial⟩ ⟨rfl, by omega, by omega, by omega⟩
    · have hge : ¬ k < 2 := by simp at hc9; omega
      refine wp_exit ?_
      refine then_exit ?_
      refine then_exit ?_
      refine inB_exit_same ?_
      refine then_normal ?_
      refine wp_seq ?_
      refine region_s ?_
      refine q_look (look_assign rfl rfl) ?_
      refine q_nil ?_
      rintro _ rfl
      refine then_normal ?_
      refine wp_ret ?_
      exact res1 Tryd.results32 rfl ⟨ret_int (by unfold idx2; rw [if_neg (by omega), if_neg (by omega)]), Ext.rfl' _⟩

theorem contains_any (v : Int) (w : World) (hG : G w) :
    Calls Tryd.prog 31 #[.slice (some ⟨0, 0, none⟩) 2 2, .int .i64 v] w fun e w' => e = .returned (.bool (decide (0 ≤ idx2 v))) ∧ Ext w w' := by
  refine calls_act Tryd.func31 rfl Tryd.ntmps31 rfl rfl ?_
  show Code.wp _ _ _ (act 9 [(0, true, .slice (some ⟨0, 0, none⟩) 2 2), (1, true, .int .i64 v)] _) _
  refine wp_seq ?_
  refine region_s ?_
  refine q_look (look_assign rfl rfl) ?_
  refine q_nil ?_
  rintro _ rfl
  refine then_normal ?_
  refine wp_seq ?_
  refine region_q ?_
  refine q_look (look_move rfl rfl) ?_
  refine q_look (look_move rfl rfl) ?_
  refine q_call (vs := [_, _]) enTryd_32 ⟨⟨_, rfl, rfl⟩, ⟨_, rfl, rfl⟩, trivial⟩ (fun wc hw => cext hw (index_any _ wc (hG.ext hw))) ?_
  refine q_look (look_geq rfl rfl rfl rfl) ?_
  refine q_look (look_assign rfl rfl) ?_
  refine q_nil ?_
  intro w1 hw1
  refine then_normal ?_
  refine wp_ret ?_
  exact res1 Tryd.results31 rfl ⟨rfl, hw1⟩

theorem known_any (k : Int) (w : World) (hG : G w) :
    Calls Tryd.prog 24 #[.int .i64 k] w fun e w' => e = .returned (.bool (knownB k)) ∧ Ext w w' := by
  refine calls_act Tryd.func24 rfl Tryd.ntmps24 rfl rfl ?_
  show Code.wp _ _ _ (act 6 [(0, true, .int .i64 k)] _) _
  refine wp_seq ?_
  refine region_s ?_
  refine q_look (look_assign rfl rfl) ?_
  refine q_nil ?_
  rintro _ rfl
  refine then_normal ?_
  refine wp_seq ?_
  refine region_q ?_
  refine q_look (look_slice_arr Tryd.underlying46 szTryd_3 rfl rfl) ?_
  refine q_look (look_move rfl rfl) ?_
  refine q_call (vs := [_, _]) enTryd_31 ⟨⟨_, rfl, rfl⟩, ⟨_, rfl, rfl⟩, trivial⟩ (fun wc hw => cext hw (contains_any _ wc (hG.ext hw))) ?_
  refine q_look (look_assign rfl rfl) ?_
  refine q_nil ?_
  intro w1 hw1
  refine then_normal ?_
  refine wp_ret ?_
  exact res1 Tryd.results24 rfl ⟨ret_bool (by unfold idx2 knownB; by_cases h1 : k = 1 <;> by_cases h2 : k = 2 <;> simp [h1, h2]), hw1⟩

theorem right_any (x : B) (w : World) (hG : G w) :
    Calls Tryd.prog 25 #[.agg #[.int .i64 x.kind, .int .i64 x.fr, .int .i64 x.un, .int .i64 x.gap, .int .i64 x.face, .int .i64 x.run]] w fun e w' => e = .returned (.bool (rightB x)) ∧ Ext w w' := by
  refine calls_act Tryd.func25 rfl Tryd.ntmps25 rfl rfl ?_
  show Code.wp _ _ _ (act 39 [(0, true, .agg #[.int .i64 x.kind, .int .i64 x.fr, .int .i64 x.un, .int .i64 x.gap, .int .i64 x.face, .int .i64 x.run])] _) _
  refine wp_seq ?_
  refine wp_region_lit ?_
  refine s_box rfl ?_
  intro gB w0 hx0 hB hg0 hs0
  refine s_look (look_assign rfl rfl) ?_
  refine s_nil ?_
  refine then_normal ?_
  refine wp_seq ?_
  refine region_q ?_
  refine q_look (look_fieldAddr Tryd.underlying28 rfl (fun _ _ => rfl) rfl rfl) ?_
  refine q_look (look_load1 Tryd.underlying3 rfl rfl rfl (ext_cell (hB.cell rfl))) ?_
  refine q_call (vs := [_]) enTryd_24 ⟨⟨_, rfl, rfl⟩, trivial⟩ (fun wc hw => cext hw (known_any _ wc ((hG.ext hx0).ext hw))) ?_
  refine q_look (look_move rfl rfl) ?_
  refine q_lookg rfl rfl rfl (fun hq => look_fieldAddr Tryd.underlying28 rfl (fun _ _ => rfl) rfl rfl) ?_
  refine q_lookg rfl rfl rfl (fun hq => look_load1 Tryd.underlying3 rfl rfl hq (ext_cell (hB.cell rfl))) ?_
  refine q_lookg rfl rfl rfl (fun hq => look_fieldAddr Tryd.underlying28 rfl (fun _ _ => rfl) rfl rfl) ?_
  refine q_lookg rfl rfl rfl (fun hq => look_load1 Tryd.underlying3 rfl rfl hq (ext_cell (hB.cell rfl))) ?_
  refine q_callg (vs := [_, _, _]) rfl rfl rfl enTryd_29 (fun hq => ⟨⟨_, rfl, hq⟩, ⟨_, rfl, rfl⟩, ⟨_, rfl, hq⟩, trivial⟩) (fun hq wc hw => cext hw (within_any _ _ _ wc)) ?_
  refine q_look (look_and rfl rfl rfl rfl) ?_
  refine q_look (look_move rfl rfl) ?_
  refine q_lookg rfl rfl rfl (fun hq => look_fieldAddr Tryd.underlying28 rfl (fun _ _ => rfl) rfl rfl) ?_
  refine q_lookg rfl rfl rfl (fun hq => look_load1 Tryd.underlying3 rfl rfl hq (ext_cell (hB.cell rfl))) ?_
  refine q_lookg rfl rfl rfl (fun hq => look_leq rfl hq rfl rfl) ?_
  refine q_look (look_and rfl rfl rfl rfl) ?_
  refine q_look (look_move rfl rfl) ?_
  refine q_lookg rfl rfl rfl (fun hq => look_fieldAddr Tryd.underlying28 rfl (fun _ _ => rfl) rfl rfl) ?_
  refine q_lookg rfl rfl rfl (fun hq => look_load1 Tryd.underlying3 rfl rfl hq (ext_cell (hB.cell rfl))) ?_
  refine q_lookg rfl rfl rfl (fun hq => look_indexAddr_arr 0 Tryd.underlying46 szTryd_3 rfl rfl rfl rfl rfl (by omega)) ?_
  refine q_lookg rfl rfl rfl (fun hq => look_load1 Tryd.underlying3 rfl rfl hq (ext_cell (hG.ext hx0).c2)) ?_
  refine q_callg (vs := [_, _, _]) rfl rfl rfl enTryd_29 (fun hq => ⟨⟨_, rfl, hq⟩, ⟨_, rfl, rfl⟩, ⟨_, rfl, hq⟩, trivial⟩) (fun hq wc hw => cext hw (within_any _ _ _ wc)) ?_
  refine q_look (look_and rfl rfl rfl rfl) ?_
  refine q_look (look_move rfl rfl) ?_
  refine q_lookg rfl rfl rfl (fun hq => look_fieldAddr Tryd.underlying28 rfl (fun _ _ => rfl) rfl rfl) ?_
  refine q_lookg rfl rfl rfl (fun hq => look_load1 Tryd.underlying3 rfl rfl hq (ext_cell (hB.cell rfl))) ?_
  refine q_lookg rfl rfl rfl (fun hq => look_fieldAddr Tryd.underlying28 rfl (fun _ _ => rfl) rfl rfl) ?_
  refine q_lookg rfl rfl rfl (fun hq => look_load1 Tryd.underlying3 rfl rfl hq (ext_cell (hB.cell rfl))) ?_
  refine q_callg (vs := [_, _, _]) rfl rfl rfl enTryd_29 (fun hq => ⟨⟨_, rfl, hq⟩, ⟨_, rfl, rfl⟩, ⟨_, rfl, hq⟩, trivial⟩) (fun hq wc hw => cext hw (within_any _ _ _ wc)) ?_
  refine q_look (look_and rfl rfl rfl rfl) ?_
  refine q_look (look_move rfl rfl) ?_
  refine q_lookg rfl rfl rfl (fun hq => look_fieldAddr Tryd.underlying28 rfl (fun _ _ => rfl) rfl rfl) ?_
  refine q_lookg rfl rfl rfl (fun hq => look_load1 Tryd.underlying3 rfl rfl hq (ext_cell (hB.cell rfl))) ?_
  refine q_lookg rfl rfl rfl (fun hq => look_indexAddr_arr 1 Tryd.underlying46 szTryd_3 rfl rfl rfl rfl rfl (by omega)) ?_
  refine q_lookg rfl rfl rfl (fun hq => look_load1 Tryd.underlying3 rfl rfl hq (ext_cell (hG.ext hx0).c3)) ?_
  refine q_callg (vs := [_, _, _]) rfl rfl rfl enTryd_29 (fun hq => ⟨⟨_, rfl, hq⟩, ⟨_, rfl, rfl⟩, ⟨_, rfl, hq⟩, trivial⟩) (fun hq wc hw => cext hw (within_any _ _ _ wc)) ?_
  refine q_look (look_and rfl rfl rfl rfl) ?_
  refine q_look (look_assign rfl rfl) ?_
  refine q_nil ?_
  intro w1 hw1
  refine then_normal ?_
  refine wp_ret ?_
  exact res1 Tryd.results25 rfl ⟨rfl, hx0.comp hw1⟩

end Go.Proofs.YtbmkkepmecpffaaDoor
