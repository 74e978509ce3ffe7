/- The walks of chapter 22 (bevel), fourth part: the laws' own examples. -/
import Derived.Test.YtbmkkepmecpffaaDoorC
namespace Go.Proofs.YtbmkkepmecpffaaDoor
open Go Go.RowKit Core
set_option linter.unusedVariables false
set_option linter.unusedSimpArgs false
attribute [local irreducible] wpQuiet wpList Code.wp Calls bodyPost act


def aB : B := ⟨1, 10, 20, 2, 4, 100⟩
def bB : B := ⟨1, 5, 9, 0, 5, 0⟩
def cB : B := ⟨1, 5, 10, 0, 5, 0⟩
theorem SlB.two {w : World} {g : Nat} {x y : B} (h : Blk w g 28 (bcells x ++ bcells y)) : SlB w (some ⟨g, 0, none⟩) [x, y] := by
  refine .inr ⟨g, 0, rfl, fun i z hz j v hv => ?_⟩
  have hj : j < 6 := (List.getElem?_eq_some_iff.1 hv).1
  match i, hz with
  | 0, hz => obtain rfl : x = z := by simpa using hz
             exact h.cell (by rw [List.getElem?_append_left (by simp [bcells]; omega)]; simpa using hv)
  | 1, hz => obtain rfl : y = z := by simpa using hz
             exact h.cell (by rw [List.getElem?_append_right (by simp [bcells])]; simpa [bcells] using hv)
  | i + 2, hz => simp at hz
theorem find_aw (g : Nat) (w : World) (hB : Blk w g 28 (bcells bB ++ bcells aB)) : Calls Tryd.prog 14 #[.slice (some ⟨g, 0, none⟩) 2 2, .int .i64 1, .int .i64 14] w fun e w' => e = .returned (.tuple #[.agg #[.int .i64 1, .int .i64 10, .int .i64 20, .int .i64 2, .int .i64 4, .int .i64 100], .bool true]) ∧ Ext w w' :=
  find_any [bB, aB] (some ⟨g, 0, none⟩) 2 1 14 w (SlB.two hB) (by decide)
theorem check_aw0 (g : Nat) (w : World) (hG : G w) (hB : Blk w g 28 (bcells bB ++ bcells aB)) : Calls Tryd.prog 12 #[.slice (some ⟨g, 0, none⟩) 2 2] w fun e w' => e = .returned (.int .i64 0) ∧ Ext w w' := by
  have h := check_any [bB, aB] (some ⟨g, 0, none⟩) 2 w hG (SlB.two hB) (by decide)
  rw [show checkP [bB, aB] = 0 by decide +kernel] at h; exact h
theorem check_aw1 (g : Nat) (w : World) (hG : G w) (hB : Blk w g 28 (bcells cB ++ bcells aB)) : Calls Tryd.prog 12 #[.slice (some ⟨g, 0, none⟩) 2 2] w fun e w' => e = .returned (.int .i64 11) ∧ Ext w w' := by
  have h := check_any [cB, aB] (some ⟨g, 0, none⟩) 2 w hG (SlB.two hB) (by decide)
  rw [show checkP [cB, aB] = 11 by decide +kernel] at h; exact h
theorem area_aw (w : World) (hG : G w) : Calls Tryd.prog 16 #[.agg (bcells aB).toArray, .int .i64 14] w fun e w' => e = .returned (.int .i64 15600) ∧ Ext w w' := by
  have h := area_any aB 14 w hG
  rw [show areaP aB 14 = 15600 by decide +kernel] at h; exact h
theorem volume_aw (w : World) (hG : G w) : Calls Tryd.prog 18 #[.agg (bcells aB).toArray, .int .i64 14, .int .i64 1000] w fun e w' => e = .returned (.int .i64 78000) ∧ Ext w w' := by
  have h := volume_any aB 14 1000 w hG
  rw [show volP aB 14 1000 = 78000 by decide +kernel] at h; exact h
theorem mass_aw (w : World) (hG : G w) : Calls Tryd.prog 20 #[.agg (bcells aB).toArray, .int .i64 14, .int .i64 1000] w fun e w' => e = .returned (.int .i64 612) ∧ Ext w w' := by
  have h := mass_any aB 14 1000 w hG
  rw [show massP aB 14 1000 = 612 by decide +kernel] at h; exact h
theorem match_aw (w : World) : Calls Tryd.prog 22 #[.agg (bcells aB).toArray, .agg (bcells aB).toArray] w fun e w' => e = .returned (.bool true) ∧ Ext w w' := match_any aB aB w
theorem match_aw' (w : World) : Calls Tryd.prog 22 #[.agg (bcells aB).toArray, .agg (bcells bB).toArray] w fun e w' => e = .returned (.bool false) ∧ Ext w w' := match_any aB bB w
theorem eqB (x y : B) : FlatEq Tryd.prog (#[{ name := "Kind", type := 3, offset := 0, embedded := false, tag := "", pkgPath := "", byteOffset := 0 }, { name := "From", type := 3, offset := 1, embedded := false, tag := "", pkgPath := "", byteOffset := 8 }, { name := "Until", type := 3, offset := 2, embedded := false, tag := "", pkgPath := "", byteOffset := 16 }, { name := "Gap", type := 3, offset := 3, embedded := false, tag := "", pkgPath := "", byteOffset := 24 }, { name := "Face", type := 3, offset := 4, embedded := false, tag := "", pkgPath := "", byteOffset := 32 }, { name := "Run", type := 3, offset := 5, embedded := false, tag := "", pkgPath := "", byteOffset := 40 }] : Array Field).toList (bcells x) (bcells y) 0
    (decide (x.kind = y.kind) && (decide (x.fr = y.fr) && (decide (x.un = y.un) && (decide (x.gap = y.gap) && (decide (x.face = y.face) && (decide (x.run = y.run) && true)))))) :=
  ⟨by decide, rfl, ⟨_, Tryd.underlying3, rfl⟩, _, _, eqv_int Tryd.underlying3, ⟨by decide, rfl, ⟨_, Tryd.underlying3, rfl⟩, _, _, eqv_int Tryd.underlying3, ⟨by decide, rfl, ⟨_, Tryd.underlying3, rfl⟩, _, _, eqv_int Tryd.underlying3,
   ⟨by decide, rfl, ⟨_, Tryd.underlying3, rfl⟩, _, _, eqv_int Tryd.underlying3, ⟨by decide, rfl, ⟨_, Tryd.underlying3, rfl⟩, _, _, eqv_int Tryd.underlying3, ⟨by decide, rfl, ⟨_, Tryd.underlying3, rfl⟩, _, _, eqv_int Tryd.underlying3, rfl, rfl⟩, rfl⟩, rfl⟩, rfl⟩, rfl⟩, rfl⟩
theorem stood28 : Tryd.prog.stoodInHeld 28 = false := by kernel_rfl
theorem guard28 : Tryd.prog.eqGuardType Tryd.prog.depth 28 = false := by kernel_rfl

theorem awake_any  (w : World) (hG : G w) :
    Calls Tryd.prog 11 #[] w fun e w' => e = .returned (.bool true) ∧ Ext w w' := by
  refine calls_act Tryd.func11 rfl Tryd.ntmps11 rfl rfl ?_
  show Code.wp _ _ _ (act 63 [] _) _
  refine wp_seq ?_
  refine region_s ?_
  refine q_look (look_assign rfl rfl) ?_
  refine q_nil ?_
  rintro _ rfl
  refine then_normal ?_
  refine wp_seq ?_
  refine wp_region_lit ?_
  refine s_look (look_build (pl := [(0, 1), (1, 1), (2, 1), (3, 1), (4, 1), (5, 1)]) (parts := [(0, .const (.int .i64 1)), (1, .const (.int .i64 10)), (2, .const (.int .i64 20)), (3, .const (.int .i64 2)), (4, .const (.int .i64 4)), (5, .const (.int .i64 100))]) (vs := [(0, .int .i64 1), (1, .int .i64 10), (2, .int .i64 20), (3, .int .i64 2), (4, .int .i64 4), (5, .int .i64 100)]) (cells := bcells aB) Tryd.underlying28 zeTryd_28 (by kernel_rfl) ⟨⟨_, rfl, rfl⟩, ⟨_, rfl, rfl⟩, ⟨_, rfl, rfl⟩, ⟨_, rfl, rfl⟩, ⟨_, rfl, rfl⟩, ⟨_, rfl, rfl⟩, trivial⟩ rfl rfl) ?_
  refine s_alloc zeTryd_28 ?_
  intro a0 v0 hv0 hA0 ha0 hz0
  refine s_store szTryd_28 rfl (by simp [bcells, zB, Value.cells, Value.oneCell']) rfl rfl hA0 rfl ?_
  intro k0 hk0 hT0
  replace hT0 : Blk k0 _ 28 (bcells aB) := hT0
  refine s_nil ?_
  have e0 : Ext w k0 := Kp.below hv0 hk0 (Nat.le_of_eq ha0)
  refine then_normal ?_
  refine wp_seq ?_
  refine wp_region_lit ?_
  refine s_look (look_build (pl := [(0, 1), (1, 1), (2, 1), (3, 1), (4, 1), (5, 1)]) (parts := [(0, .const (.int .i64 1)), (1, .const (.int .i64 5)), (2, .const (.int .i64 9)), (4, .const (.int .i64 5))]) (vs := [(0, .int .i64 1), (1, .int .i64 5), (2, .int .i64 9), (4, .int .i64 5)]) (cells := bcells bB) Tryd.underlying28 zeTryd_28 (by kernel_rfl) ⟨⟨_, rfl, rfl⟩, ⟨_, rfl, rfl⟩, ⟨_, rfl, rfl⟩, ⟨_, rfl, rfl⟩, trivial⟩ rfl rfl) ?_
  refine s_alloc zeTryd_28 ?_
  intro a1 v1 hv1 hA1 ha1 hz1
  refine s_store szTryd_28 rfl (by simp [bcells, zB, Value.cells, Value.oneCell']) rfl rfl hA1 rfl ?_
  intro k1 hk1 hT1
  replace hT1 : Blk k1 _ 28 (bcells bB) := hT1
  refine s_nil ?_
  have e1 : Ext k0 k1 := Kp.below hv1 hk1 (Nat.le_of_eq ha1)
  have l01 : a0 < a1 := ha1 ▸ hT0.lt
  replace hT0 := hT0.ext e1
  refine then_normal ?_
  refine wp_seq ?_
  refine wp_region_lit ?_
  refine s_look (look_loadN Tryd.underlying28 rfl szTryd_28 rfl rfl rfl (cs := bcells bB) (fun w' e j v hv => by subst e; rw [Nat.zero_add]; exact hT1.cell hv)) ?_
  refine s_alloc zeTryd_28 ?_
  intro a2 v2 hv2 hA2 ha2 hz2
  refine s_store szTryd_28 rfl (by simp [bcells, zB, Value.cells, Value.oneCell']) rfl rfl hA2 rfl ?_
  intro k2 hk2 hT2
  replace hT2 : Blk k2 _ 28 (bcells bB) := hT2
  refine s_nil ?_
  have e2 : Ext k1 k2 := Kp.below hv2 hk2 (Nat.le_of_eq ha2)
  have l12 : a1 < a2 := ha2 ▸ hT1.lt
  replace hT0 := hT0.ext e2
  replace hT1 := hT1.ext e2
  refine then_normal ?_
  refine wp_seq ?_
  refine wp_region_lit ?_
  refine s_look (look_fieldAddr Tryd.underlying28 rfl (fun _ _ => rfl) rfl rfl) ?_
  refine s_store1 szTryd_3 rfl rfl rfl rfl hT2 rfl ?_
  intro k3 hk3 hT3
  replace hT3 : Blk k3 a2 28 (bcells cB) := hT3
  refine s_nil ?_
  replace hT0 := hT0.kp hk3 (by omega)
  replace hT1 := hT1.kp hk3 (by omega)
  have hx3 : Below w.heap.size w k3 := Kp.below ((e0.comp e1).comp e2) hk3 (by have := e0.size; have := e1.size; omega)
  have hG3 : G k3 := by
    have hG2 := ((hG.ext e0).ext e1).ext e2
    have lt : 1 < a2 := by have : 1 < k1.heap.size := cell_lt ((hG.ext e0).ext e1).c2; omega
    exact ⟨hk3.cell (by simp; omega) hG2.c0, hk3.cell (by simp; omega) hG2.c1, hk3.cell (by simp; omega) hG2.c2, hk3.cell (by simp; omega) hG2.c3⟩
  have hs3 := hx3.size
  refine then_normal ?_
  refine wp_seq ?_
  refine wp_region_lit ?_
  refine s_look (look_loadN Tryd.underlying28 rfl szTryd_28 rfl rfl rfl (cs := bcells bB) (fun w' e j v hv => by subst e; rw [Nat.zero_add]; exact hT1.cell hv)) ?_
  refine s_look (look_loadN Tryd.underlying28 rfl szTryd_28 rfl rfl rfl (cs := bcells aB) (fun w' e j v hv => by subst e; rw [Nat.zero_add]; exact hT0.cell hv)) ?_
  refine s_buildSlice (parts := [(0, .tmp 11), (1, .tmp 12)]) (vs := [(0, .agg (bcells bB).toArray), (1, .agg (bcells aB).toArray)]) (cells := bcells bB ++ bcells aB) Tryd.underlying22 szTryd_28 zeTryd_28 rfl rfl ⟨⟨_, rfl, rfl⟩, ⟨_, rfl, rfl⟩, trivial⟩ rfl rfl ?_
  intro gs0 ws0 hws0 hSs0 hgss0 hzs0
  replace hG3 := hG3.ext hws0
  replace hT0 := hT0.ext hws0
  replace hT1 := hT1.ext hws0
  replace hT3 := hT3.ext hws0
  replace hx3 := below_ext hx3 hs3 hws0
  replace hs3 := hx3.size
  refine s_call (vs := [_, _, _]) enTryd_14 ⟨⟨_, rfl, rfl⟩, ⟨_, rfl, rfl⟩, ⟨_, rfl, rfl⟩, trivial⟩ (find_aw _ _ hSs0) ?_
  rintro _ cf0 ⟨rfl, hcf0⟩
  refine ⟨_, rfl, ?_⟩
  replace hG3 := hG3.ext hcf0
  replace hT0 := hT0.ext hcf0
  replace hT1 := hT1.ext hcf0
  replace hT3 := hT3.ext hcf0
  replace hx3 := below_ext hx3 hs3 hcf0
  replace hs3 := hx3.size
  refine s_look (look_move rfl rfl) ?_
  refine s_look (look_extract rfl rfl rfl) ?_
  refine s_look (look_extract rfl rfl rfl) ?_
  have q0 := hT0.lt
  have q1 := hT1.lt
  have q3 := hT3.lt
  have qg : 1 < cf0.heap.size := cell_lt hG3.c2
  have qs := hs3
  refine s_alloc zeTryd_28 ?_
  intro a3 v3 hv3 hA3 ha3 hz3
  replace hG3 := hG3.ext hv3
  replace hT0 := hT0.ext hv3
  replace hT1 := hT1.ext hv3
  replace hT3 := hT3.ext hv3
  replace hx3 := below_ext hx3 hs3 hv3
  replace hs3 := hx3.size
  refine s_store szTryd_28 rfl (by simp [bcells, zB, Value.cells, Value.oneCell']) rfl rfl hA3 rfl ?_
  intro k4 hk4 hT4
  replace hT4 : Blk k4 _ 28 (bcells aB) := hT4
  refine s_look (look_assign rfl rfl) ?_
  refine s_nil ?_
  have hq : cf0.heap.size = a3 := ha3
  replace hT0 := hT0.kp hk4 (by omega)
  replace hT1 := hT1.kp hk4 (by omega)
  replace hT3 := hT3.kp hk4 (by omega)
  replace hG3 : G k4 := ⟨hk4.cell (by simp; omega) hG3.c0, hk4.cell (by simp; omega) hG3.c1, hk4.cell (by simp; omega) hG3.c2, hk4.cell (by simp; omega) hG3.c3⟩
  replace hx3 : Below w.heap.size w k4 := Kp.below hx3 hk4 (by omega)
  replace hs3 := hx3.size
  refine then_normal ?_
  refine wp_seq ?_
  refine wp_region_lit ?_
  refine s_look (look_loadN Tryd.underlying28 rfl szTryd_28 rfl rfl rfl (cs := bcells bB) (fun w' e j v hv => by subst e; rw [Nat.zero_add]; exact hT1.cell hv)) ?_
  refine s_look (look_loadN Tryd.underlying28 rfl szTryd_28 rfl rfl rfl (cs := bcells aB) (fun w' e j v hv => by subst e; rw [Nat.zero_add]; exact hT0.cell hv)) ?_
  refine s_buildSlice (parts := [(0, .tmp 17), (1, .tmp 18)]) (vs := [(0, .agg (bcells bB).toArray), (1, .agg (bcells aB).toArray)]) (cells := bcells bB ++ bcells aB) Tryd.underlying22 szTryd_28 zeTryd_28 rfl rfl ⟨⟨_, rfl, rfl⟩, ⟨_, rfl, rfl⟩, trivial⟩ rfl rfl ?_
  intro gs1 ws1 hws1 hSs1 hgss1 hzs1
  replace hG3 := hG3.ext hws1
  replace hT0 := hT0.ext hws1
  replace hT1 := hT1.ext hws1
  replace hT3 := hT3.ext hws1
  replace hx3 := below_ext hx3 hs3 hws1
  replace hs3 := hx3.size
  replace hT4 := hT4.ext hws1
  refine s_call (vs := [_]) enTryd_12 ⟨⟨_, rfl, rfl⟩, trivial⟩ (check_aw0 _ _ hG3 hSs1) ?_
  rintro _ cf1 ⟨rfl, hcf1⟩
  refine ⟨_, rfl, ?_⟩
  replace hG3 := hG3.ext hcf1
  replace hT0 := hT0.ext hcf1
  replace hT1 := hT1.ext hcf1
  replace hT3 := hT3.ext hcf1
  replace hx3 := below_ext hx3 hs3 hcf1
  replace hs3 := hx3.size
  replace hT4 := hT4.ext hcf1
  refine s_look (look_eql rfl rfl rfl rfl) ?_
  refine s_look (look_move rfl rfl) ?_
  refine s_want rfl rfl rfl rfl ?_
  refine s_look (look_loadN Tryd.underlying28 rfl szTryd_28 rfl rfl rfl (cs := bcells cB) (fun w' e j v hv => by subst e; rw [Nat.zero_add]; exact hT3.cell hv)) ?_
  refine s_want rfl rfl rfl rfl ?_
  refine s_look (look_loadN Tryd.underlying28 rfl szTryd_28 rfl rfl rfl (cs := bcells aB) (fun w' e j v hv => by subst e; rw [Nat.zero_add]; exact hT0.cell hv)) ?_
  refine s_want rfl rfl rfl rfl ?_
  refine s_buildSlice (parts := [(0, .tmp 23), (1, .tmp 24)]) (vs := [(0, .agg (bcells cB).toArray), (1, .agg (bcells aB).toArray)]) (cells := bcells cB ++ bcells aB) Tryd.underlying22 szTryd_28 zeTryd_28 rfl rfl ⟨⟨_, rfl, rfl⟩, ⟨_, rfl, rfl⟩, trivial⟩ rfl rfl ?_
  intro gs2 ws2 hws2 hSs2 hgss2 hzs2
  replace hG3 := hG3.ext hws2
  replace hT0 := hT0.ext hws2
  replace hT1 := hT1.ext hws2
  replace hT3 := hT3.ext hws2
  replace hx3 := below_ext hx3 hs3 hws2
  replace hs3 := hx3.size
  replace hT4 := hT4.ext hws2
  refine s_want rfl rfl rfl rfl ?_
  refine s_call (vs := [_]) enTryd_12 ⟨⟨_, rfl, rfl⟩, trivial⟩ (check_aw1 _ _ hG3 hSs2) ?_
  rintro _ cf2 ⟨rfl, hcf2⟩
  refine ⟨_, rfl, ?_⟩
  replace hG3 := hG3.ext hcf2
  replace hT0 := hT0.ext hcf2
  replace hT1 := hT1.ext hcf2
  replace hT3 := hT3.ext hcf2
  replace hx3 := below_ext hx3 hs3 hcf2
  replace hs3 := hx3.size
  replace hT4 := hT4.ext hcf2
  refine s_want rfl rfl rfl rfl ?_
  refine s_look (look_eql rfl rfl rfl rfl) ?_
  refine s_look (look_and2 rfl rfl rfl rfl) ?_
  refine s_look (look_move rfl rfl) ?_
  refine s_want rfl rfl rfl rfl ?_
  refine s_look (look_move rfl rfl) ?_
  refine s_look (look_and2 rfl rfl rfl rfl) ?_
  refine s_look (look_move rfl rfl) ?_
  refine s_want rfl rfl rfl rfl ?_
  refine s_look (look_loadN Tryd.underlying28 rfl szTryd_28 rfl rfl rfl (cs := bcells aB) (fun w' e j v hv => by subst e; rw [Nat.zero_add]; exact hT4.cell hv)) ?_
  refine s_want rfl rfl rfl rfl ?_
  refine s_look (look_loadN Tryd.underlying28 rfl szTryd_28 rfl rfl rfl (cs := bcells aB) (fun w' e j v hv => by subst e; rw [Nat.zero_add]; exact hT0.cell hv)) ?_
  refine s_want rfl rfl rfl rfl ?_
  refine s_look (look_eql_flat Tryd.underlying28 stood28 guard28 rfl rfl rfl rfl (eqB aB aB)) ?_
  refine s_look (look_and2 rfl rfl rfl rfl) ?_
  refine s_look (look_move rfl rfl) ?_
  refine s_want rfl rfl rfl rfl ?_
  refine s_look (look_loadN Tryd.underlying28 rfl szTryd_28 rfl rfl rfl (cs := bcells aB) (fun w' e j v hv => by subst e; rw [Nat.zero_add]; exact hT0.cell hv)) ?_
  refine s_want rfl rfl rfl rfl ?_
  refine s_call (vs := [_, _]) enTryd_16 ⟨⟨_, rfl, rfl⟩, ⟨_, rfl, rfl⟩, trivial⟩ (area_aw _ hG3) ?_
  rintro _ cm22 ⟨rfl, hcm22⟩
  refine ⟨_, rfl, ?_⟩
  replace hG3 := hG3.ext hcm22
  replace hT0 := hT0.ext hcm22
  replace hT1 := hT1.ext hcm22
  replace hT3 := hT3.ext hcm22
  replace hx3 := below_ext hx3 hs3 hcm22
  replace hs3 := hx3.size
  replace hT4 := hT4.ext hcm22
  refine s_want rfl rfl rfl rfl ?_
  refine s_look (look_eql rfl rfl rfl rfl) ?_
  refine s_look (look_and2 rfl rfl rfl rfl) ?_
  refine s_look (look_move rfl rfl) ?_
  refine s_want rfl rfl rfl rfl ?_
  refine s_look (look_loadN Tryd.underlying28 rfl szTryd_28 rfl rfl rfl (cs := bcells aB) (fun w' e j v hv => by subst e; rw [Nat.zero_add]; exact hT0.cell hv)) ?_
  refine s_want rfl rfl rfl rfl ?_
  refine s_call (vs := [_, _, _]) enTryd_18 ⟨⟨_, rfl, rfl⟩, ⟨_, rfl, rfl⟩, ⟨_, rfl, rfl⟩, trivial⟩ (volume_aw _ hG3) ?_
  rintro _ cm27 ⟨rfl, hcm27⟩
  refine ⟨_, rfl, ?_⟩
  replace hG3 := hG3.ext hcm27
  replace hT0 := hT0.ext hcm27
  replace hT1 := hT1.ext hcm27
  replace hT3 := hT3.ext hcm27
  replace hx3 := below_ext hx3 hs3 hcm27
  replace hs3 := hx3.size
  replace hT4 := hT4.ext hcm27
  refine s_want rfl rfl rfl rfl ?_
  refine s_look (look_eql rfl rfl rfl rfl) ?_
  refine s_look (look_and2 rfl rfl rfl rfl) ?_
  refine s_look (look_move rfl rfl) ?_
  refine s_want rfl rfl rfl rfl ?_
  refine s_look (look_loadN Tryd.underlying28 rfl szTryd_28 rfl rfl rfl (cs := bcells aB) (fun w' e j v hv => by subst e; rw [Nat.zero_add]; exact hT0.cell hv)) ?_
  refine s_want rfl rfl rfl rfl ?_
  refine s_call (vs := [_, _, _]) enTryd_20 ⟨⟨_, rfl, rfl⟩, ⟨_, rfl, rfl⟩, ⟨_, rfl, rfl⟩, trivial⟩ (mass_aw _ hG3) ?_
  rintro _ cm32 ⟨rfl, hcm32⟩
  refine ⟨_, rfl, ?_⟩
  replace hG3 := hG3.ext hcm32
  replace hT0 := hT0.ext hcm32
  replace hT1 := hT1.ext hcm32
  replace hT3 := hT3.ext hcm32
  replace hx3 := below_ext hx3 hs3 hcm32
  replace hs3 := hx3.size
  replace hT4 := hT4.ext hcm32
  refine s_want rfl rfl rfl rfl ?_
  refine s_look (look_eql rfl rfl rfl rfl) ?_
  refine s_look (look_and2 rfl rfl rfl rfl) ?_
  refine s_look (look_move rfl rfl) ?_
  refine s_want rfl rfl rfl rfl ?_
  refine s_look (look_loadN Tryd.underlying28 rfl szTryd_28 rfl rfl rfl (cs := bcells aB) (fun w' e j v hv => by subst e; rw [Nat.zero_add]; exact hT0.cell hv)) ?_
  refine s_want rfl rfl rfl rfl ?_
  refine s_look (look_loadN Tryd.underlying28 rfl szTryd_28 rfl rfl rfl (cs := bcells aB) (fun w' e j v hv => by subst e; rw [Nat.zero_add]; exact hT0.cell hv)) ?_
  refine s_want rfl rfl rfl rfl ?_
  refine s_call (vs := [_, _]) enTryd_22 ⟨⟨_, rfl, rfl⟩, ⟨_, rfl, rfl⟩, trivial⟩ (match_aw _) ?_
  rintro _ cm38 ⟨rfl, hcm38⟩
  refine ⟨_, rfl, ?_⟩
  replace hG3 := hG3.ext hcm38
  replace hT0 := hT0.ext hcm38
  replace hT1 := hT1.ext hcm38
  replace hT3 := hT3.ext hcm38
  replace hx3 := below_ext hx3 hs3 hcm38
  replace hs3 := hx3.size
  replace hT4 := hT4.ext hcm38
  refine s_look (look_and2 rfl rfl rfl rfl) ?_
  refine s_look (look_move rfl rfl) ?_
  refine s_want rfl rfl rfl rfl ?_
  refine s_look (look_loadN Tryd.underlying28 rfl szTryd_28 rfl rfl rfl (cs := bcells aB) (fun w' e j v hv => by subst e; rw [Nat.zero_add]; exact hT0.cell hv)) ?_
  refine s_want rfl rfl rfl rfl ?_
  refine s_look (look_loadN Tryd.underlying28 rfl szTryd_28 rfl rfl rfl (cs := bcells bB) (fun w' e j v hv => by subst e; rw [Nat.zero_add]; exact hT1.cell hv)) ?_
  refine s_want rfl rfl rfl rfl ?_
  refine s_call (vs := [_, _]) enTryd_22 ⟨⟨_, rfl, rfl⟩, ⟨_, rfl, rfl⟩, trivial⟩ (match_aw' _) ?_
  rintro _ cm43 ⟨rfl, hcm43⟩
  refine ⟨_, rfl, ?_⟩
  replace hG3 := hG3.ext hcm43
  replace hT0 := hT0.ext hcm43
  replace hT1 := hT1.ext hcm43
  replace hT3 := hT3.ext hcm43
  replace hx3 := below_ext hx3 hs3 hcm43
  replace hs3 := hx3.size
  replace hT4 := hT4.ext hcm43
  refine s_want rfl rfl rfl rfl ?_
  refine s_look (look_not rfl rfl) ?_
  refine s_look (look_and2 rfl rfl rfl rfl) ?_
  refine s_look (look_assign rfl rfl) ?_
  refine s_nil ?_
  refine then_normal ?_
  refine wp_ret ?_
  exact res1 Tryd.results11 rfl ⟨rfl, hx3⟩

end Go.Proofs.YtbmkkepmecpffaaDoor
