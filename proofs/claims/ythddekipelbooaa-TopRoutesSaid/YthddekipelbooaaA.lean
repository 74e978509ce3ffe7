/- The walks of chapter 44 (route), first part: cells, grids. -/
import Derived.Test.YthddekipelbooaaRows
import Derived.Test.YthddekipelbooaaLate
namespace Go.Proofs.Ythddekipelbooaa
open Go Go.RowKit Core
set_option linter.unusedVariables false
set_option linter.unusedSimpArgs false
attribute [local irreducible] wpQuiet wpList wpH wpT Code.wp Calls bodyPost act

theorem mixed : Try.prog.follows .mixedOrders = true := by kernel_rfl
theorem enTry_16 : Enters Try.prog 16 := enters_of Try.func16 (by kernel_rfl) rfl
theorem enTry_4 : Enters Try.prog 4 := enters_of Try.func4 (by kernel_rfl) rfl
theorem enTry_8 : Enters Try.prog 8 := enters_of Try.func8 (by kernel_rfl) rfl
theorem enTry_9 : Enters Try.prog 9 := enters_of Try.func9 (by kernel_rfl) rfl
theorem enTry_7 : Enters Try.prog 7 := enters_of Try.func7 (by kernel_rfl) rfl
theorem enTry_5 : Enters Try.prog 5 := enters_of Try.func5 (by kernel_rfl) rfl
theorem enTry_6 : Enters Try.prog 6 := enters_of Try.func6 (by kernel_rfl) rfl
theorem enTry_15 : Enters Try.prog 15 := enters_of Try.func15 (by kernel_rfl) rfl
theorem enTry_21 : Enters Try.prog 21 := enters_of Try.func21 (by kernel_rfl) rfl
theorem enTry_14 : Enters Try.prog 14 := enters_of Try.func14 (by kernel_rfl) rfl
theorem enTry_17 : Enters Try.prog 17 := enters_of Try.func17 (by kernel_rfl) rfl
theorem enTry_32 : Enters Try.prog 32 := enters_of Try.func32 (by kernel_rfl) rfl
theorem enTry_13 : Enters Try.prog 13 := enters_of Try.func13 (by kernel_rfl) rfl
theorem enTry_18 : Enters Try.prog 18 := enters_of Try.func18 (by kernel_rfl) rfl
theorem enTry_26 : Enters Try.prog 26 := enters_of Try.func26 (by kernel_rfl) rfl
theorem enTry_25 : Enters Try.prog 25 := enters_of Try.func25 (by kernel_rfl) rfl
theorem enTry_39 : Enters Try.prog 39 := enters_of Try.func39 (by kernel_rfl) rfl
theorem enTry_19 : Enters Try.prog 19 := enters_of Try.func19 (by kernel_rfl) rfl
theorem enTry_20 : Enters Try.prog 20 := enters_of Try.func20 (by kernel_rfl) rfl
theorem enTry_22 : Enters Try.prog 22 := enters_of Try.func22 (by kernel_rfl) rfl
theorem enTry_23 : Enters Try.prog 23 := enters_of Try.func23 (by kernel_rfl) rfl
theorem enTry_24 : Enters Try.prog 24 := enters_of Try.func24 (by kernel_rfl) rfl
theorem enTry_46 : Enters Try.prog 46 := enters_of Try.func46 (by kernel_rfl) rfl
theorem enTry_47 : Enters Try.prog 47 := enters_of Try.func47 (by kernel_rfl) rfl
theorem enTry_33 : Enters Try.prog 33 := enters_of Try.func33 (by kernel_rfl) rfl
theorem enTry_34 : Enters Try.prog 34 := enters_of Try.func34 (by kernel_rfl) rfl
theorem enTry_40 : Enters Try.prog 40 := enters_of Try.func40 (by kernel_rfl) rfl
theorem enTry_35 : Enters Try.prog 35 := enters_of Try.func35 (by kernel_rfl) rfl
theorem enTry_36 : Enters Try.prog 36 := enters_of Try.func36 (by kernel_rfl) rfl
theorem enTry_37 : Enters Try.prog 37 := enters_of Try.func37 (by kernel_rfl) rfl
theorem enTry_38 : Enters Try.prog 38 := enters_of Try.func38 (by kernel_rfl) rfl
theorem enTry_51 : Enters Try.prog 51 := enters_of Try.func51 (by kernel_rfl) rfl
theorem enTry_50 : Enters Try.prog 50 := enters_of Try.func50 (by kernel_rfl) rfl
theorem enTry_48 : Enters Try.prog 48 := enters_of Try.func48 (by kernel_rfl) rfl
theorem enTry_49 : Enters Try.prog 49 := enters_of Try.func49 (by kernel_rfl) rfl
theorem enTry_69 : Enters Try.prog 69 := enters_of Try.func69 (by kernel_rfl) rfl
theorem enTry_70 : Enters Try.prog 70 := enters_of Try.func70 (by kernel_rfl) rfl
theorem enTry_71 : Enters Try.prog 71 := enters_of Try.func71 (by kernel_rfl) rfl
theorem enTry_72 : Enters Try.prog 72 := enters_of Try.func72 (by kernel_rfl) rfl
theorem szTry_3 : (Try.prog.info? 3).map (fun i => i.size) = some 1 := by kernel_rfl
theorem zeTry_3 : (Try.prog.info? 3).map (fun i => i.zero) = some (some (.int .i64 0)) := by kernel_rfl
theorem szTry_4 : (Try.prog.info? 4).map (fun i => i.size) = some 1 := by kernel_rfl
theorem zeTry_4 : (Try.prog.info? 4).map (fun i => i.zero) = some (some (.bool false)) := by kernel_rfl
theorem szTry_22 : (Try.prog.info? 22).map (fun i => i.size) = some 1 := by kernel_rfl
theorem zeTry_22 : (Try.prog.info? 22).map (fun i => i.zero) = some (some (.slice none 0 0)) := by kernel_rfl
theorem szTry_24 : (Try.prog.info? 24).map (fun i => i.size) = some 4 := by kernel_rfl
theorem zeTry_24 : (Try.prog.info? 24).map (fun i => i.zero) = some (some (.agg #[.int .i64 0, .int .i64 0, .int .i64 0, .slice none 0 0])) := by kernel_rfl
theorem szTry_26 : (Try.prog.info? 26).map (fun i => i.size) = some 3 := by kernel_rfl
theorem zeTry_26 : (Try.prog.info? 26).map (fun i => i.zero) = some (some (.agg #[.int .i64 0, .int .i64 0, .int .i64 0])) := by kernel_rfl
theorem szTry_46 : (Try.prog.info? 46).map (fun i => i.size) = some 1 := by kernel_rfl
theorem zeTry_46 : (Try.prog.info? 46).map (fun i => i.zero) = some (some (.map none)) := by kernel_rfl
theorem szTry_48 : (Try.prog.info? 48).map (fun i => i.size) = some 6 := by kernel_rfl
theorem zeTry_48 : (Try.prog.info? 48).map (fun i => i.zero) = some (some (.agg #[.int .i64 0, .int .i64 0, .int .i64 0, .slice none 0 0, .int .i64 0, .map none])) := by kernel_rfl
theorem szTry_51 : (Try.prog.info? 51).map (fun i => i.size) = some 6 := by kernel_rfl
theorem zeTry_51 : (Try.prog.info? 51).map (fun i => i.zero) = some (some (.agg #[.int .i64 0, .int .i64 0, .int .i64 0, .int .i64 0, .int .i64 0, .int .i64 0])) := by kernel_rfl
theorem szTry_37 : (Try.prog.info? 37).map (fun i => i.size) = some 1 := by kernel_rfl
theorem zeTry_37 : (Try.prog.info? 37).map (fun i => i.zero) = some (some (.slice none 0 0)) := by kernel_rfl
theorem szTry_56 : (Try.prog.info? 56).map (fun i => i.size) = some 5 := by kernel_rfl
theorem zeTry_56 : (Try.prog.info? 56).map (fun i => i.zero) = some (some (.agg #[.int .i64 0, .int .i64 0, .int .i64 0, .slice none 0 0, .slice none 0 0])) := by kernel_rfl
theorem szTry_59 : (Try.prog.info? 59).map (fun i => i.size) = some 18 := by kernel_rfl
theorem zeTry_59 : (Try.prog.info? 59).map (fun i => i.zero) = some (some (.agg #[.int .i64 0, .int .i64 0, .int .i64 0, .int .i64 0, .int .i64 0, .int .i64 0, .int .i64 0, .int .i64 0, .int .i64 0, .int .i64 0, .int .i64 0, .int .i64 0, .int .i64 0, .int .i64 0, .int .i64 0, .int .i64 0, .int .i64 0, .int .i64 0])) := by kernel_rfl
theorem szTry_74 : (Try.prog.info? 74).map (fun i => i.size) = some 1 := by kernel_rfl
theorem zeTry_74 : (Try.prog.info? 74).map (fun i => i.zero) = some (some (.slice none 0 0)) := by kernel_rfl
theorem szTry_77 : (Try.prog.info? 77).map (fun i => i.size) = some 7 := by kernel_rfl
theorem zeTry_77 : (Try.prog.info? 77).map (fun i => i.zero) = some (some (.agg #[.int .i64 0, .int .i64 0, .int .i64 0, .int .i64 0, .int .i64 0, .int .i64 0, .int .i64 0])) := by kernel_rfl
theorem zsbTry_3 : (Try.prog.info? 3).map (fun i => (i.zero, i.size, i.bytes)) = some (some (.int .i64 0), 1, 8) := by kernel_rfl
theorem zsbTry_4 : (Try.prog.info? 4).map (fun i => (i.zero, i.size, i.bytes)) = some (some (.bool false), 1, 1) := by kernel_rfl
theorem zsbTry_26 : (Try.prog.info? 26).map (fun i => (i.zero, i.size, i.bytes)) = some (some (.agg #[.int .i64 0, .int .i64 0, .int .i64 0]), 3, 24) := by kernel_rfl
theorem zsbTry_77 : (Try.prog.info? 77).map (fun i => (i.zero, i.size, i.bytes)) = some (some (.agg #[.int .i64 0, .int .i64 0, .int .i64 0, .int .i64 0, .int .i64 0, .int .i64 0, .int .i64 0]), 7, 56) := by kernel_rfl

structure Cl where
  x : Int
  y : Int
  z : Int
deriving DecidableEq
structure Gr where
  nx : Int
  ny : Int
  nz : Int
  A : Option Addr
  bl : List Cl
  cap : Nat
def icell (x : Int) : List Value := [.int .i64 x]
def bocell (b : Bool) : List Value := [.bool b]
def ccell (c : Cl) : List Value := [.int .i64 c.x, .int .i64 c.y, .int .i64 c.z]
def gcell (g : Gr) : List Value := [.int .i64 g.nx, .int .i64 g.ny, .int .i64 g.nz, .slice g.A g.bl.length g.cap]
theorem hce_i : ∀ x, (icell x).length = 1 := fun _ => rfl
theorem hce_bo : ∀ x, (bocell x).length = 1 := fun _ => rfl
theorem hce_c : ∀ x, (ccell x).length = 3 := fun _ => rfl
def COk (c : Cl) : Prop := I64 c.x ∧ I64 c.y ∧ I64 c.z
structure GOk (w : World) (g : Gr) : Prop where
  sl : Sl ccell 3 w g.A g.bl
  len : g.bl.length ≤ maxLen
  i : I64 g.nx ∧ I64 g.ny ∧ I64 g.nz
theorem GOk.ext {w w' : World} {g : Gr} (h : GOk w g) (e : Ext w w') : GOk w' g := ⟨h.sl.ext e, h.len, h.i⟩
theorem eqC (a b : Cl) : FlatEq Try.prog (#[{ name := "X", type := 3, offset := 0, embedded := false, tag := "", pkgPath := "", byteOffset := 0 }, { name := "Y", type := 3, offset := 1, embedded := false, tag := "", pkgPath := "", byteOffset := 8 }, { name := "Z", type := 3, offset := 2, embedded := false, tag := "", pkgPath := "", byteOffset := 16 }] : Array Field).toList (ccell a) (ccell b) 0 (decide (a = b)) :=
  ⟨by decide, rfl, ⟨_, Try.underlying3, rfl⟩, decide (a.x = b.x), decide (a.y = b.y) && decide (a.z = b.z), eqv_int Try.underlying3, ⟨by decide, rfl, ⟨_, Try.underlying3, rfl⟩, decide (a.y = b.y), decide (a.z = b.z), eqv_int Try.underlying3, ⟨by decide, rfl, ⟨_, Try.underlying3, rfl⟩, _, true, eqv_int Try.underlying3, rfl, by simp⟩, rfl⟩, by
    rw [Bool.eq_iff_iff]; cases a; cases b; simp⟩
theorem stood35 : Try.prog.stoodInHeld 26 = false := by kernel_rfl
theorem guard35 : Try.prog.eqGuardType Try.prog.depth 26 = false := by kernel_rfl
/-- In the grid. -/
def inB (g : Gr) (c : Cl) : Bool := decide (0 ≤ c.x) && decide (c.x < g.nx) && decide (0 ≤ c.y) && decide (c.y < g.ny) && decide (0 ≤ c.z) && decide (c.z < g.nz)
def cmpI (a b : Int) : Int := if a < b then -1 else if b < a then 1 else 0
def or3 (a b c : Int) : Int := if a ≠ 0 then a else if b ≠ 0 then b else c
def cmpC (a b : Cl) : Int := or3 (cmpI a.x b.x) (cmpI a.y b.y) (cmpI a.z b.z)
def befB (a b : Cl) : Bool := decide (a.x < b.x) || (decide (a.x = b.x) && (decide (a.y < b.y) || (decide (a.y = b.y) && decide (a.z < b.z))))
def subW (a b : Cl) : Cl := ⟨IntKind.i64.wrap (a.x - b.x), IntKind.i64.wrap (a.y - b.y), IntKind.i64.wrap (a.z - b.z)⟩
def ways : List Cl := [⟨-1, 0, 0⟩, ⟨0, -1, 0⟩, ⟨0, 0, -1⟩, ⟨0, 0, 1⟩, ⟨0, 1, 0⟩, ⟨1, 0, 0⟩]
@[irreducible] def W18 : List Value := ways.flatMap ccell
theorem W18_eq : W18 = ways.flatMap ccell := by kernel_rfl
theorem W18_len : W18.length = 18 := by kernel_rfl
theorem W18_sz : (Value.agg W18.toArray).cells.size = 18 := by kernel_rfl
theorem W18_one : ∀ u ∈ (Value.agg W18.toArray).cells.toList, u.oneCell' = true := by
  have h : (Value.agg W18.toArray).cells.toList = ways.flatMap ccell := by kernel_rfl
  rw [h]
  simp [ways, ccell, Value.oneCell']
theorem call_true' {P : Program} {f : FuncId} {args : Array Value} {w : World} {b : Bool} (h : Calls P f args w fun e w' => e = .returned (.bool b) ∧ Ext w w') (hb : b = true) : Calls P f args w fun e w' => e = .returned (.bool true) ∧ Ext w w' := by
  subst hb; exact h
def fiG {α : Type} (q : α → Bool) : List α → Int → Int
  | [], _ => -1
  | y :: r, k => if q y = true then k else fiG q r (k + 1)
theorem fiG_ge {α : Type} (q : α → Bool) : ∀ (l : List α) (k : Int), 0 ≤ k → (decide (0 ≤ fiG q l k) = l.any q)
  | [], k, hk => rfl
  | y :: r, k, hk => by
    unfold fiG
    by_cases h : q y = true
    · rw [if_pos h]; simp [h, hk]
    · rw [if_neg h, fiG_ge q r (k + 1) (by omega)]; simp [h]
theorem any_mem (x : Cl) (l : List Cl) : (l.any fun y => decide (x = y)) = decide (x ∈ l) := by
  rw [Bool.eq_iff_iff, List.any_eq_true, decide_eq_true_eq]
  exact ⟨fun ⟨y, h1, h2⟩ => by rw [of_decide_eq_true h2]; exact h1, fun h => ⟨x, h, decide_eq_true rfl⟩⟩
theorem all_same {α : Type} {a b : List α} (h : a.length = b.length) (h2 : a.take a.length = b.take a.length) : a = b := by
  rw [List.take_length, h, List.take_length] at h2; exact h2
theorem not_same {α : Type} {a b : List α} {k : Nat} {x y : α} (hx : a[k]? = some x) (hy : b[k]? = some y) (hne : x ≠ y) : a ≠ b := by
  intro e; subst e; rw [hx] at hy; exact hne (Option.some.inj hy)

theorem inside_any (g : Gr) (c : Cl) (w : World)  :
    Calls Try.prog 17 #[.agg (gcell g).toArray, .agg (ccell c).toArray] w fun e w' => e = .returned (.bool (inB g c)) ∧ Ext w w' := by
  refine calls_act Try.func17 rfl Try.ntmps17 rfl rfl ?_
  show Code.wp _ _ _ (act 39 [(0, true, .agg (gcell g).toArray), (1, true, .agg (ccell c).toArray)] _) _
  have hX : Ext w w := Ext.rfl' w
  refine wp_seq ?_
  refine wp_region_lit ?_
  refine s_box rfl ?_
  intro g1 u1 hu1 hB1 hg1 hs1
  replace hB1 : Blk u1 g1 24 (gcell g) := hB1
  have ge_g1 : w.heap.size ≤ g1 := by have := hX.size; omega
  replace hX := hX.comp hu1
  refine s_box rfl ?_
  intro g2 u2 hu2 hB2 hg2 hs2
  replace hB2 : Blk u2 g2 26 (ccell c) := hB2
  have lt_g1_g2 : g1 < g2 := by have := hB1.lt; omega
  have ge_g2 : w.heap.size ≤ g2 := by have := hX.size; omega
  replace hX := hX.comp hu2
  replace hB1 := hB1.ext hu2
  refine s_look (look_assign rfl rfl) ?_
  refine s_nil ?_
  refine then_normal ?_
  refine wp_seq ?_
  refine region_s ?_
  refine q_look (look_fieldAddr Try.underlying26 rfl (fun _ _ => rfl) rfl rfl) ?_
  refine q_look (look_load1 Try.underlying3 rfl rfl rfl (eqc (hB2.cell rfl))) ?_
  refine q_look (look_geq rfl rfl rfl rfl) ?_
  refine q_look (look_move rfl rfl) ?_
  refine q_lookg rfl rfl rfl (fun hq => look_fieldAddr Try.underlying26 rfl (fun _ _ => rfl) rfl rfl) ?_
  refine q_lookg rfl rfl rfl (fun hq => look_load1 Try.underlying3 rfl rfl hq (eqc (hB2.cell rfl))) ?_
  refine q_lookg rfl rfl rfl (fun hq => look_fieldAddr Try.underlying24 rfl (fun _ _ => rfl) rfl rfl) ?_
  refine q_lookg rfl rfl rfl (fun hq => look_load1 Try.underlying3 rfl rfl hq (eqc (hB1.cell rfl))) ?_
  refine q_lookg rfl rfl rfl (fun hq => look_lss rfl hq rfl hq) ?_
  refine q_look (look_and rfl rfl rfl rfl) ?_
  refine q_look (look_move rfl rfl) ?_
  refine q_lookg rfl rfl rfl (fun hq => look_fieldAddr Try.underlying26 rfl (fun _ _ => rfl) rfl rfl) ?_
  refine q_lookg rfl rfl rfl (fun hq => look_load1 Try.underlying3 rfl rfl hq (eqc (hB2.cell rfl))) ?_
  refine q_lookg rfl rfl rfl (fun hq => look_geq rfl hq rfl rfl) ?_
  refine q_look (look_and rfl rfl rfl rfl) ?_
  refine q_look (look_move rfl rfl) ?_
  refine q_lookg rfl rfl rfl (fun hq => look_fieldAddr Try.underlying26 rfl (fun _ _ => rfl) rfl rfl) ?_
  refine q_lookg rfl rfl rfl (fun hq => look_load1 Try.underlying3 rfl rfl hq (eqc (hB2.cell rfl))) ?_
  refine q_lookg rfl rfl rfl (fun hq => look_fieldAddr Try.underlying24 rfl (fun _ _ => rfl) rfl rfl) ?_
  refine q_lookg rfl rfl rfl (fun hq => look_load1 Try.underlying3 rfl rfl hq (eqc (hB1.cell rfl))) ?_
  refine q_lookg rfl rfl rfl (fun hq => look_lss rfl hq rfl hq) ?_
  refine q_look (look_and rfl rfl rfl rfl) ?_
  refine q_look (look_move rfl rfl) ?_
  refine q_lookg rfl rfl rfl (fun hq => look_fieldAddr Try.underlying26 rfl (fun _ _ => rfl) rfl rfl) ?_
  refine q_lookg rfl rfl rfl (fun hq => look_load1 Try.underlying3 rfl rfl hq (eqc (hB2.cell rfl))) ?_
  refine q_lookg rfl rfl rfl (fun hq => look_geq rfl hq rfl rfl) ?_
  refine q_look (look_and rfl rfl rfl rfl) ?_
  refine q_look (look_move rfl rfl) ?_
  refine q_lookg rfl rfl rfl (fun hq => look_fieldAddr Try.underlying26 rfl (fun _ _ => rfl) rfl rfl) ?_
  refine q_lookg rfl rfl rfl (fun hq => look_load1 Try.underlying3 rfl rfl hq (eqc (hB2.cell rfl))) ?_
  refine q_lookg rfl rfl rfl (fun hq => look_fieldAddr Try.underlying24 rfl (fun _ _ => rfl) rfl rfl) ?_
  refine q_lookg rfl rfl rfl (fun hq => look_load1 Try.underlying3 rfl rfl hq (eqc (hB1.cell rfl))) ?_
  refine q_lookg rfl rfl rfl (fun hq => look_lss rfl hq rfl hq) ?_
  refine q_look (look_and rfl rfl rfl rfl) ?_
  refine q_look (look_assign rfl rfl) ?_
  refine q_nil ?_
  rintro _ rfl
  refine then_normal ?_
  refine wp_ret ?_
  exact res1 Try.results17 rfl ⟨ret_bool rfl, hX⟩

theorem refin_any (g : Gr) (c : Cl) (w : World)  :
    Calls Try.prog 14 #[.agg (gcell g).toArray, .agg (ccell c).toArray] w fun e w' => e = .returned (.bool (inB g c)) ∧ Ext w w' := by
  refine calls_act Try.func14 rfl Try.ntmps14 rfl rfl ?_
  show Code.wp _ _ _ (act 39 [(0, true, .agg (gcell g).toArray), (1, true, .agg (ccell c).toArray)] _) _
  have hX : Ext w w := Ext.rfl' w
  refine wp_seq ?_
  refine wp_region_lit ?_
  refine s_box rfl ?_
  intro g1 u1 hu1 hB1 hg1 hs1
  replace hB1 : Blk u1 g1 24 (gcell g) := hB1
  have ge_g1 : w.heap.size ≤ g1 := by have := hX.size; omega
  replace hX := hX.comp hu1
  refine s_box rfl ?_
  intro g2 u2 hu2 hB2 hg2 hs2
  replace hB2 : Blk u2 g2 26 (ccell c) := hB2
  have lt_g1_g2 : g1 < g2 := by have := hB1.lt; omega
  have ge_g2 : w.heap.size ≤ g2 := by have := hX.size; omega
  replace hX := hX.comp hu2
  replace hB1 := hB1.ext hu2
  refine s_look (look_assign rfl rfl) ?_
  refine s_nil ?_
  refine then_normal ?_
  refine wp_seq ?_
  refine region_s ?_
  refine q_look (look_fieldAddr Try.underlying26 rfl (fun _ _ => rfl) rfl rfl) ?_
  refine q_look (look_load1 Try.underlying3 rfl rfl rfl (eqc (hB2.cell rfl))) ?_
  refine q_look (look_geq rfl rfl rfl rfl) ?_
  refine q_look (look_move rfl rfl) ?_
  refine q_lookg rfl rfl rfl (fun hq => look_fieldAddr Try.underlying26 rfl (fun _ _ => rfl) rfl rfl) ?_
  refine q_lookg rfl rfl rfl (fun hq => look_load1 Try.underlying3 rfl rfl hq (eqc (hB2.cell rfl))) ?_
  refine q_lookg rfl rfl rfl (fun hq => look_fieldAddr Try.underlying24 rfl (fun _ _ => rfl) rfl rfl) ?_
  refine q_lookg rfl rfl rfl (fun hq => look_load1 Try.underlying3 rfl rfl hq (eqc (hB1.cell rfl))) ?_
  refine q_lookg rfl rfl rfl (fun hq => look_lss rfl hq rfl hq) ?_
  refine q_look (look_and rfl rfl rfl rfl) ?_
  refine q_look (look_move rfl rfl) ?_
  refine q_lookg rfl rfl rfl (fun hq => look_fieldAddr Try.underlying26 rfl (fun _ _ => rfl) rfl rfl) ?_
  refine q_lookg rfl rfl rfl (fun hq => look_load1 Try.underlying3 rfl rfl hq (eqc (hB2.cell rfl))) ?_
  refine q_lookg rfl rfl rfl (fun hq => look_geq rfl hq rfl rfl) ?_
  refine q_look (look_and rfl rfl rfl rfl) ?_
  refine q_look (look_move rfl rfl) ?_
  refine q_lookg rfl rfl rfl (fun hq => look_fieldAddr Try.underlying26 rfl (fun _ _ => rfl) rfl rfl) ?_
  refine q_lookg rfl rfl rfl (fun hq => look_load1 Try.underlying3 rfl rfl hq (eqc (hB2.cell rfl))) ?_
  refine q_lookg rfl rfl rfl (fun hq => look_fieldAddr Try.underlying24 rfl (fun _ _ => rfl) rfl rfl) ?_
  refine q_lookg rfl rfl rfl (fun hq => look_load1 Try.underlying3 rfl rfl hq (eqc (hB1.cell rfl))) ?_
  refine q_lookg rfl rfl rfl (fun hq => look_lss rfl hq rfl hq) ?_
  refine q_look (look_and rfl rfl rfl rfl) ?_
  refine q_look (look_move rfl rfl) ?_
  refine q_lookg rfl rfl rfl (fun hq => look_fieldAddr Try.underlying26 rfl (fun _ _ => rfl) rfl rfl) ?_
  refine q_lookg rfl rfl rfl (fun hq => look_load1 Try.underlying3 rfl rfl hq (eqc (hB2.cell rfl))) ?_
  refine q_lookg rfl rfl rfl (fun hq => look_geq rfl hq rfl rfl) ?_
  refine q_look (look_and rfl rfl rfl rfl) ?_
  refine q_look (look_move rfl rfl) ?_
  refine q_lookg rfl rfl rfl (fun hq => look_fieldAddr Try.underlying26 rfl (fun _ _ => rfl) rfl rfl) ?_
  refine q_lookg rfl rfl rfl (fun hq => look_load1 Try.underlying3 rfl rfl hq (eqc (hB2.cell rfl))) ?_
  refine q_lookg rfl rfl rfl (fun hq => look_fieldAddr Try.underlying24 rfl (fun _ _ => rfl) rfl rfl) ?_
  refine q_lookg rfl rfl rfl (fun hq => look_load1 Try.underlying3 rfl rfl hq (eqc (hB1.cell rfl))) ?_
  refine q_lookg rfl rfl rfl (fun hq => look_lss rfl hq rfl hq) ?_
  refine q_look (look_and rfl rfl rfl rfl) ?_
  refine q_look (look_assign rfl rfl) ?_
  refine q_nil ?_
  rintro _ rfl
  refine then_normal ?_
  refine wp_ret ?_
  exact res1 Try.results14 rfl ⟨ret_bool rfl, hX⟩

theorem nan_any (x : Int) (w : World)  :
    Calls Try.prog 51 #[.int .i64 x] w fun e w' => e = .returned (.bool (false)) ∧ Ext w w' := by
  refine calls_act Try.func51 rfl Try.ntmps51 rfl rfl ?_
  show Code.wp _ _ _ (act 6 [(0, true, .int .i64 x)] _) _
  have hX : Ext w w := Ext.rfl' w
  refine wp_seq ?_
  refine region_s ?_
  refine q_look (look_assign rfl rfl) ?_
  refine q_nil ?_
  rintro _ rfl
  refine then_normal ?_
  refine wp_seq ?_
  refine region_s ?_
  refine q_look (look_move rfl rfl) ?_
  refine q_look (look_move rfl rfl) ?_
  refine q_look (look_neq rfl rfl rfl rfl) ?_
  refine q_look (look_assign rfl rfl) ?_
  refine q_nil ?_
  rintro _ rfl
  refine then_normal ?_
  refine wp_ret ?_
  exact res1 Try.results51 rfl ⟨ret_bool (by simp), hX⟩

theorem cmpi_any (x y : Int) (w : World)  :
    Calls Try.prog 47 #[.int .i64 x, .int .i64 y] w fun e w' => e = .returned (.int .i64 (cmpI x y)) ∧ Ext w w' := by
  refine calls_act Try.func47 rfl Try.ntmps47 rfl rfl ?_
  show Code.wp _ _ _ (act 20 [(0, true, .int .i64 x), (1, true, .int .i64 y)] _) _
  have hX : Ext w w := Ext.rfl' w
  refine wp_seq ?_
  refine region_s ?_
  refine q_look (look_assign rfl rfl) ?_
  refine q_nil ?_
  rintro _ rfl
  refine then_normal ?_
  refine wp_seq ?_
  refine region_q ?_
  refine q_look (look_move rfl rfl) ?_
  refine q_call (vs := [_]) enTry_51 ⟨⟨_, rfl, rfl⟩, trivial⟩ (fun wc hw => cext hw (nan_any _ wc)) ?_
  refine q_look (look_assign rfl rfl) ?_
  refine q_nil ?_
  intro w1 hw1
  replace hX := hX.comp hw1
  refine then_normal ?_
  refine wp_seq ?_
  refine region_q ?_
  refine q_look (look_move rfl rfl) ?_
  refine q_call (vs := [_]) enTry_51 ⟨⟨_, rfl, rfl⟩, trivial⟩ (fun wc hw => cext hw (nan_any _ wc)) ?_
  refine q_look (look_assign rfl rfl) ?_
  refine q_nil ?_
  intro w2 hw2
  replace hX := hX.comp hw2
  refine then_normal ?_
  refine wp_seq ?_
  refine wp_seq ?_
  refine region_s ?_
  refine q_look (look_move rfl rfl) ?_
  refine q_nil ?_
  rintro _ rfl
  refine then_normal ?_
  refine cond_false rfl rfl ?_
  refine wp_skip ?_
  refine then_normal ?_
  refine wp_seq ?_
  refine wp_seq ?_
  refine region_s ?_
  refine q_look (look_move rfl rfl) ?_
  refine q_nil ?_
  rintro _ rfl
  refine then_normal ?_
  refine cond_false rfl rfl ?_
  refine wp_skip ?_
  refine then_normal ?_
  refine wp_seq ?_
  refine wp_seq ?_
  refine region_s ?_
  refine q_look (look_move rfl rfl) ?_
  refine q_look (look_move rfl rfl) ?_
  refine q_look (look_lss rfl rfl rfl rfl) ?_
  refine q_nil ?_
  rintro _ rfl
  refine then_normal ?_
  refine cond_split rfl (fun hc16 => ?_) (fun hc16 => ?_)
  · have h1 : x < y := nn_t hc16
    refine wp_seq ?_
    refine region_s ?_
    refine q_look (look_assign rfl rfl) ?_
    refine q_nil ?_
    rintro _ rfl
    refine then_normal ?_
    refine wp_ret ?_
    refine then_ret ?_
    exact res1 Try.results47 rfl ⟨ret_int (by unfold cmpI; rw [if_pos h1]), hX⟩
  · have h1 : ¬ (x < y) := nn_f hc16
    refine wp_skip ?_
    refine then_normal ?_
    refine wp_seq ?_
    refine wp_seq ?_
    refine region_s ?_
    refine q_look (look_move rfl rfl) ?_
    refine q_look (look_move rfl rfl) ?_
    refine q_look (look_gtr rfl rfl rfl rfl) ?_
    refine q_nil ?_
    rintro _ rfl
    refine then_normal ?_
    refine cond_split rfl (fun hc19 => ?_) (fun hc19 => ?_)
    · have h2 : y < x := nn_t hc19
      refine wp_seq ?_
      refine region_s ?_
      refine q_look (look_assign rfl rfl) ?_
      refine q_nil ?_
      rintro _ rfl
      refine then_normal ?_
      refine wp_ret ?_
      refine then_ret ?_
      exact res1 Try.results47 rfl ⟨ret_int (by unfold cmpI; rw [if_neg h1, if_pos h2]), hX⟩
    · have h2 : ¬ (y < x) := nn_f hc19
      refine wp_skip ?_
      refine then_normal ?_
      refine wp_seq ?_
      refine region_s ?_
      refine q_look (look_assign rfl rfl) ?_
      refine q_nil ?_
      rintro _ rfl
      refine then_normal ?_
      refine wp_ret ?_
      exact res1 Try.results47 rfl ⟨ret_int (by unfold cmpI; rw [if_neg h1, if_neg h2]), hX⟩

theorem ori_any (l : List Int) (A : Option Addr) (c : Nat) (w : World) (hA : Sl icell 1 w A l) (hla : l.length ≤ maxLen) :
    Calls Try.prog 46 #[.slice A l.length c] w fun e w' => e = .returned (.int .i64 ((l.find? fun x => !decide (x = 0)).getD 0)) ∧ Ext w w' := by
  refine calls_act Try.func46 rfl Try.ntmps46 rfl rfl ?_
  show Code.wp _ _ _ (act 18 [(0, true, .slice A l.length c)] _) _
  have hX : Ext w w := Ext.rfl' w
  refine wp_seq ?_
  refine region_s ?_
  refine q_look (look_assign rfl rfl) ?_
  refine q_nil ?_
  rintro _ rfl
  refine then_normal ?_
  refine wp_seq ?_
  refine region_s ?_
  refine q_look (look_assign rfl rfl) ?_
  refine q_nil ?_
  rintro _ rfl
  refine then_normal ?_
  refine wp_seq ?_
  refine wp_seq ?_
  refine region_s ?_
  refine q_look (look_move rfl rfl) ?_
  refine q_look (look_len_slice Try.underlying37 rfl rfl) ?_
  refine q_look (look_move rfl rfl) ?_
  refine q_nil ?_
  rintro _ rfl
  refine then_normal ?_
  refine wp_block ?_
  refine loop_act (fun (k : Nat) => [(0, .slice A l.length c), (3, .int .i64 0), (6, .slice A l.length c), (7, .int .i64 (l.length : Int)), (8, .int .i64 (k : Int))]) (fun k w' => (Ext w w') ∧ (k ≤ l.length) ∧ ((l.find? fun x => !decide (x = 0)).getD 0 = ((l.drop k).find? fun x => !decide (x = 0)).getD 0)) (fun k => l.length - k) (0) ?_ ?_ ?_
  · exact ⟨rfl, rfl, rfl, rfl, rfl, trivial⟩
  · exact ⟨hX, Nat.zero_le _, rfl⟩
  · rintro k σ wr hF
    obtain ⟨hX, hk, hz⟩ : (Ext w wr) ∧ (k ≤ l.length) ∧ ((l.find? fun x => !decide (x = 0)).getD 0 = ((l.drop k).find? fun x => !decide (x = 0)).getD 0) := hF
    show Code.wp _ _ _ (act 18 [(0, true, .slice A l.length c), (3, true, .int .i64 0), (6, true, .slice A l.length c), (7, true, .int .i64 (l.length : Int)), (8, true, .int .i64 (k : Int))] _) _
    refine wp_seq ?_
    refine region_s ?_
    refine q_look (look_lss rfl rfl rfl rfl) ?_
    refine q_nil ?_
    rintro _ rfl
    refine then_normal ?_
    refine wp_seq ?_
    refine cond_split rfl (fun hc9 => ?_) (fun hc9 => ?_)
    · have hlt : k < l.length := by have := nn_t hc9; omega
      obtain ⟨x, hx⟩ := get_lt hlt
      obtain ⟨b1, o1, rfl, hr⟩ := (hA.ext hX).at_ hlt
      refine wp_skip ?_
      refine then_normal ?_
      refine wp_seq ?_
      refine wp_block ?_
      refine wp_seq ?_
      refine region_s ?_
      refine q_look (look_indexAddr _ Try.underlying37 szTry_3 rfl rfl rfl rfl rfl (by omega)) ?_
      refine q_look (look_load1 Try.underlying3 rfl rfl rfl (eqc ((hr k x hx) 0 _ rfl))) ?_
      refine q_look (look_assign rfl rfl) ?_
      refine q_nil ?_
      rintro _ rfl
      refine then_normal ?_
      refine wp_seq ?_
      refine region_s ?_
      refine q_look (look_move rfl rfl) ?_
      refine q_look (look_move rfl rfl) ?_
      refine q_look (look_neq rfl rfl rfl rfl) ?_
      refine q_nil ?_
      rintro _ rfl
      refine then_normal ?_
      refine cond_split rfl (fun hc14 => ?_) (fun hc14 => ?_)
      · have h0 : ¬ (x = 0) := nd_t hc14
        refine wp_seq ?_
        refine region_s ?_
        refine q_look (look_move rfl rfl) ?_
        refine q_look (look_assign rfl rfl) ?_
        refine q_nil ?_
        rintro _ rfl
        refine then_normal ?_
        refine wp_ret ?_
        refine inB_ret ?_
        refine then_ret ?_
        refine then_ret ?_
        refine inB_ret ?_
        refine then_ret ?_
        exact res1 Try.results46 rfl ⟨ret_int (by rw [hz, drop_get hx, List.find?_cons_of_pos (by simp [h0])]; rfl), hX⟩
      · have h0 : x = 0 := nd_f hc14
        refine wp_skip ?_
        refine inB_normal ?_
        refine then_normal ?_
        refine region_s ?_
        refine q_look (look_add rfl rfl rfl rfl (by have := maxLen_is; unfold I64; omega)) ?_
        refine q_look (look_move rfl rfl) ?_
        refine q_nil ?_
        rintro _ rfl
        exact loop_end (k + 1) (by omega) ⟨rfl, rfl, rfl, rfl, rfl, trivial⟩ ⟨hX, by omega, by rw [hz, drop_get hx, List.find?_cons_of_neg (by simp [h0])]⟩
    · have hge : ¬ k < l.length := by have := nn_f hc9; omega
      refine wp_exit ?_
      refine then_exit ?_
      refine then_exit ?_
      refine inB_exit_same ?_
      refine then_normal ?_
      refine wp_seq ?_
      refine region_s ?_
      refine q_look (look_move rfl rfl) ?_
      refine q_look (look_assign rfl rfl) ?_
      refine q_nil ?_
      rintro _ rfl
      refine then_normal ?_
      refine wp_ret ?_
      exact res1 Try.results46 rfl ⟨ret_int (by rw [hz, List.drop_eq_nil_of_le (by omega)]; rfl), hX⟩


theorem or3_eq (a b c : Int) : ([a, b, c].find? fun x => !decide (x = 0)).getD 0 = or3 a b c := by
  unfold or3
  by_cases ha : a = 0
  · subst ha
    by_cases hb : b = 0
    · subst hb
      by_cases hc : c = 0 <;> simp [hc]
    · simp [hb]
  · simp [ha]
theorem cmpI_neg {a b : Int} : cmpI a b < 0 ↔ a < b := by unfold cmpI; split <;> (try split) <;> omega

theorem compare_any (a b : Cl) (w : World)  :
    Calls Try.prog 32 #[.agg (ccell a).toArray, .agg (ccell b).toArray] w fun e w' => e = .returned (.int .i64 (cmpC a b)) ∧ Ext w w' := by
  refine calls_act Try.func32 rfl Try.ntmps32 rfl rfl ?_
  show Code.wp _ _ _ (act 22 [(0, true, .agg (ccell a).toArray), (1, true, .agg (ccell b).toArray)] _) _
  have hX : Ext w w := Ext.rfl' w
  refine wp_seq ?_
  refine wp_region_lit ?_
  refine s_box rfl ?_
  intro g1 u1 hu1 hB1 hg1 hs1
  replace hB1 : Blk u1 g1 26 (ccell a) := hB1
  have ge_g1 : w.heap.size ≤ g1 := by have := hX.size; omega
  replace hX := hX.comp hu1
  refine s_box rfl ?_
  intro g2 u2 hu2 hB2 hg2 hs2
  replace hB2 : Blk u2 g2 26 (ccell b) := hB2
  have lt_g1_g2 : g1 < g2 := by have := hB1.lt; omega
  have ge_g2 : w.heap.size ≤ g2 := by have := hX.size; omega
  replace hX := hX.comp hu2
  replace hB1 := hB1.ext hu2
  refine s_look (look_assign rfl rfl) ?_
  refine s_nil ?_
  refine then_normal ?_
  refine wp_seq ?_
  refine region_h (fun W => Ext w W ∧ Blk W g1 26 (ccell a) ∧ Blk W g2 26 (ccell b)) [(0, true), (1, true), (2, true), (3, true), (5, true), (6, true), (7, true), (8, true), (10, true), (11, true), (12, true), (13, true), (4, false), (9, false), (14, false), (15, false), (16, false), (17, true)] mixed (by kernel_rfl) rfl (by kernel_rfl) (by repeat (first | exact pk_body | refine pk_then ?_ | refine pk_block ?_))  ?_
  intro u3 hR3
  replace hX := hX.comp hR3
  replace hB1 := hB1.ext hR3
  replace hB2 := hB2.ext hR3
  refine ⟨⟨hX, hB1, hB2⟩, ?_⟩
  refine h_look rfl (look_fieldAddr Try.underlying26 rfl (fun _ _ => rfl) rfl rfl) ?_
  refine h_look rfl (look_load1 Try.underlying3 rfl rfl rfl (fun w' hS => (hS.2.1).cell rfl)) ?_
  refine h_look rfl (look_fieldAddr Try.underlying26 rfl (fun _ _ => rfl) rfl rfl) ?_
  refine h_look rfl (look_load1 Try.underlying3 rfl rfl rfl (fun w' hS => (hS.2.2).cell rfl)) ?_
  refine h_look rfl (look_fieldAddr Try.underlying26 rfl (fun _ _ => rfl) rfl rfl) ?_
  refine h_look rfl (look_load1 Try.underlying3 rfl rfl rfl (fun w' hS => (hS.2.1).cell rfl)) ?_
  refine h_look rfl (look_fieldAddr Try.underlying26 rfl (fun _ _ => rfl) rfl rfl) ?_
  refine h_look rfl (look_load1 Try.underlying3 rfl rfl rfl (fun w' hS => (hS.2.2).cell rfl)) ?_
  refine h_look rfl (look_fieldAddr Try.underlying26 rfl (fun _ _ => rfl) rfl rfl) ?_
  refine h_look rfl (look_load1 Try.underlying3 rfl rfl rfl (fun w' hS => (hS.2.1).cell rfl)) ?_
  refine h_look rfl (look_fieldAddr Try.underlying26 rfl (fun _ _ => rfl) rfl rfl) ?_
  refine h_look rfl (look_load1 Try.underlying3 rfl rfl rfl (fun w' hS => (hS.2.2).cell rfl)) ?_
  refine h_seq rfl ?_ ⟨hX, hB1, hB2⟩
  refine s_call (vs := [_, _]) enTry_47 ⟨⟨_, rfl, rfl⟩, ⟨_, rfl, rfl⟩, trivial⟩ (cmpi_any _ _ _) ?_
  rintro _ u4 ⟨rfl, hc4⟩
  refine ⟨_, rfl, ?_⟩
  replace hX := hX.comp hc4
  replace hB1 := hB1.ext hc4
  replace hB2 := hB2.ext hc4
  refine s_nil ?_
  refine then_normal ?_
  refine ⟨⟨hX, hB1, hB2⟩, ?_⟩
  refine h_seq rfl ?_ ⟨hX, hB1, hB2⟩
  refine s_call (vs := [_, _]) enTry_47 ⟨⟨_, rfl, rfl⟩, ⟨_, rfl, rfl⟩, trivial⟩ (cmpi_any _ _ _) ?_
  rintro _ u5 ⟨rfl, hc5⟩
  refine ⟨_, rfl, ?_⟩
  replace hX := hX.comp hc5
  replace hB1 := hB1.ext hc5
  replace hB2 := hB2.ext hc5
  refine s_nil ?_
  refine then_normal ?_
  refine ⟨⟨hX, hB1, hB2⟩, ?_⟩
  refine h_seq rfl ?_ ⟨hX, hB1, hB2⟩
  refine s_call (vs := [_, _]) enTry_47 ⟨⟨_, rfl, rfl⟩, ⟨_, rfl, rfl⟩, trivial⟩ (cmpi_any _ _ _) ?_
  rintro _ u6 ⟨rfl, hc6⟩
  refine ⟨_, rfl, ?_⟩
  replace hX := hX.comp hc6
  replace hB1 := hB1.ext hc6
  replace hB2 := hB2.ext hc6
  refine s_nil ?_
  refine then_normal ?_
  refine ⟨⟨hX, hB1, hB2⟩, ?_⟩
  refine h_seq rfl ?_ ⟨hX, hB1, hB2⟩
  refine s_buildSlice (parts := [(0, .tmp 9), (1, .tmp 14), (2, .tmp 19)]) (vs := [(0, _), (1, _), (2, _)]) (cells := [cmpI a.x b.x, cmpI a.y b.y, cmpI a.z b.z].flatMap icell) Try.underlying37 szTry_3 zeTry_3 rfl rfl ⟨⟨_, rfl, rfl⟩, ⟨_, rfl, rfl⟩, ⟨_, rfl, rfl⟩, trivial⟩ rfl (by kernel_rfl) ?_
  intro g7 u7 hu7 hB7 hg7 hs7
  have lt_g1_g7 : g1 < g7 := by have := hB1.lt; omega
  have lt_g2_g7 : g2 < g7 := by have := hB2.lt; omega
  have ge_g7 : w.heap.size ≤ g7 := by have := hX.size; omega
  replace hX := hX.comp hu7
  replace hB1 := hB1.ext hu7
  replace hB2 := hB2.ext hu7
  refine s_nil ?_
  refine then_normal ?_
  refine ⟨⟨hX, hB1, hB2⟩, ?_⟩
  refine h_seq rfl ?_ ⟨hX, hB1, hB2⟩
  refine s_call (vs := [_]) enTry_46 ⟨⟨_, rfl, rfl⟩, trivial⟩ (call_int (ori_any [cmpI a.x b.x, cmpI a.y b.y, cmpI a.z b.z] (some ⟨g7, 0, none⟩) 3 _ (Blk.sl hce_i hB7) (show 3 ≤ maxLen by decide)) (or3_eq _ _ _)) ?_
  rintro _ u8 ⟨rfl, hc8⟩
  refine ⟨_, rfl, ?_⟩
  replace hX := hX.comp hc8
  replace hB1 := hB1.ext hc8
  replace hB2 := hB2.ext hc8
  replace hB7 := hB7.ext hc8
  refine s_nil ?_
  refine then_normal ?_
  refine ⟨⟨hX, hB1, hB2⟩, ?_⟩
  refine h_look rfl (look_assign rfl rfl) ?_
  refine h_nil ?_
  refine then_normal ?_
  refine wp_ret ?_
  exact res1 Try.results32 rfl ⟨ret_int rfl, hX⟩

theorem less_any (a b : Cl) (w : World)  :
    Calls Try.prog 25 #[.agg (ccell a).toArray, .agg (ccell b).toArray] w fun e w' => e = .returned (.agg (ccell (subW a b)).toArray) ∧ Ext w w' := by
  refine calls_act Try.func25 rfl Try.ntmps25 rfl rfl ?_
  show Code.wp _ _ _ (act 21 [(0, true, .agg (ccell a).toArray), (1, true, .agg (ccell b).toArray)] _) _
  have hX : Ext w w := Ext.rfl' w
  refine wp_seq ?_
  refine wp_region_lit ?_
  refine s_box rfl ?_
  intro g1 u1 hu1 hB1 hg1 hs1
  replace hB1 : Blk u1 g1 26 (ccell a) := hB1
  have ge_g1 : w.heap.size ≤ g1 := by have := hX.size; omega
  replace hX := hX.comp hu1
  refine s_box rfl ?_
  intro g2 u2 hu2 hB2 hg2 hs2
  replace hB2 : Blk u2 g2 26 (ccell b) := hB2
  have lt_g1_g2 : g1 < g2 := by have := hB1.lt; omega
  have ge_g2 : w.heap.size ≤ g2 := by have := hX.size; omega
  replace hX := hX.comp hu2
  replace hB1 := hB1.ext hu2
  refine s_alloc zeTry_26 ?_
  intro g3 u3 hu3 hB3 hg3 hs3
  have lt_g1_g3 : g1 < g3 := by have := hB1.lt; omega
  have lt_g2_g3 : g2 < g3 := by have := hB2.lt; omega
  have ge_g3 : w.heap.size ≤ g3 := by have := hX.size; omega
  replace hX := hX.comp hu3
  replace hB1 := hB1.ext hu3
  replace hB2 := hB2.ext hu3
  refine s_nil ?_
  refine then_normal ?_
  refine wp_seq ?_
  refine wp_region_lit ?_
  refine s_look (look_fieldAddr Try.underlying26 rfl (fun _ _ => rfl) rfl rfl) ?_
  refine s_look (look_load1 Try.underlying3 rfl rfl rfl (eqc (hB1.cell rfl))) ?_
  refine s_look (look_fieldAddr Try.underlying26 rfl (fun _ _ => rfl) rfl rfl) ?_
  refine s_look (look_load1 Try.underlying3 rfl rfl rfl (eqc (hB2.cell rfl))) ?_
  refine s_look (look_subw rfl rfl rfl rfl) ?_
  refine s_look (look_fieldAddr Try.underlying26 rfl (fun _ _ => rfl) rfl rfl) ?_
  refine s_look (look_load1 Try.underlying3 rfl rfl rfl (eqc (hB1.cell rfl))) ?_
  refine s_look (look_fieldAddr Try.underlying26 rfl (fun _ _ => rfl) rfl rfl) ?_
  refine s_look (look_load1 Try.underlying3 rfl rfl rfl (eqc (hB2.cell rfl))) ?_
  refine s_look (look_subw rfl rfl rfl rfl) ?_
  refine s_look (look_fieldAddr Try.underlying26 rfl (fun _ _ => rfl) rfl rfl) ?_
  refine s_look (look_load1 Try.underlying3 rfl rfl rfl (eqc (hB1.cell rfl))) ?_
  refine s_look (look_fieldAddr Try.underlying26 rfl (fun _ _ => rfl) rfl rfl) ?_
  refine s_look (look_load1 Try.underlying3 rfl rfl rfl (eqc (hB2.cell rfl))) ?_
  refine s_look (look_subw rfl rfl rfl rfl) ?_
  refine s_look (look_build (pl := [(0, 1), (1, 1), (2, 1)]) (parts := [(0, .tmp 9), (1, .tmp 14), (2, .tmp 19)]) (vs := [(0, _), (1, _), (2, _)]) (cells := ccell (subW a b)) Try.underlying26 zeTry_26 (by kernel_rfl) ⟨⟨_, rfl, rfl⟩, ⟨_, rfl, rfl⟩, ⟨_, rfl, rfl⟩, trivial⟩ rfl (by kernel_rfl)) ?_
  refine s_store szTry_26 rfl (by simp [ccell, gcell, Value.cells, Value.oneCell']) rfl rfl hB3 rfl ?_
  intro u4 hk4 hT4
  replace hT4 : Blk u4 g3 26 (ccell (subW a b)) := hT4
  replace hX := hX.kp hk4 (by omega)
  replace hB1 := hB1.kp hk4 (by omega)
  replace hB2 := hB2.kp hk4 (by omega)
  clear hB3
  have hB3 := hT4
  refine s_nil ?_
  refine then_normal ?_
  refine wp_ret ?_
  exact resC Try.results25 Try.underlying26 rfl szTry_26 rfl rfl (fun j v hv => by rw [Nat.zero_add]; exact hB3.cell hv) ⟨rfl, hX⟩

theorem minus_any (a b : Cl) (w : World)  :
    Calls Try.prog 39 #[.agg (ccell a).toArray, .agg (ccell b).toArray] w fun e w' => e = .returned (.agg (ccell (subW a b)).toArray) ∧ Ext w w' := by
  refine calls_act Try.func39 rfl Try.ntmps39 rfl rfl ?_
  show Code.wp _ _ _ (act 21 [(0, true, .agg (ccell a).toArray), (1, true, .agg (ccell b).toArray)] _) _
  have hX : Ext w w := Ext.rfl' w
  refine wp_seq ?_
  refine wp_region_lit ?_
  refine s_box rfl ?_
  intro g1 u1 hu1 hB1 hg1 hs1
  replace hB1 : Blk u1 g1 26 (ccell a) := hB1
  have ge_g1 : w.heap.size ≤ g1 := by have := hX.size; omega
  replace hX := hX.comp hu1
  refine s_box rfl ?_
  intro g2 u2 hu2 hB2 hg2 hs2
  replace hB2 : Blk u2 g2 26 (ccell b) := hB2
  have lt_g1_g2 : g1 < g2 := by have := hB1.lt; omega
  have ge_g2 : w.heap.size ≤ g2 := by have := hX.size; omega
  replace hX := hX.comp hu2
  replace hB1 := hB1.ext hu2
  refine s_alloc zeTry_26 ?_
  intro g3 u3 hu3 hB3 hg3 hs3
  have lt_g1_g3 : g1 < g3 := by have := hB1.lt; omega
  have lt_g2_g3 : g2 < g3 := by have := hB2.lt; omega
  have ge_g3 : w.heap.size ≤ g3 := by have := hX.size; omega
  replace hX := hX.comp hu3
  replace hB1 := hB1.ext hu3
  replace hB2 := hB2.ext hu3
  refine s_nil ?_
  refine then_normal ?_
  refine wp_seq ?_
  refine wp_region_lit ?_
  refine s_look (look_fieldAddr Try.underlying26 rfl (fun _ _ => rfl) rfl rfl) ?_
  refine s_look (look_load1 Try.underlying3 rfl rfl rfl (eqc (hB1.cell rfl))) ?_
  refine s_look (look_fieldAddr Try.underlying26 rfl (fun _ _ => rfl) rfl rfl) ?_
  refine s_look (look_load1 Try.underlying3 rfl rfl rfl (eqc (hB2.cell rfl))) ?_
  refine s_look (look_subw rfl rfl rfl rfl) ?_
  refine s_look (look_fieldAddr Try.underlying26 rfl (fun _ _ => rfl) rfl rfl) ?_
  refine s_look (look_load1 Try.underlying3 rfl rfl rfl (eqc (hB1.cell rfl))) ?_
  refine s_look (look_fieldAddr Try.underlying26 rfl (fun _ _ => rfl) rfl rfl) ?_
  refine s_look (look_load1 Try.underlying3 rfl rfl rfl (eqc (hB2.cell rfl))) ?_
  refine s_look (look_subw rfl rfl rfl rfl) ?_
  refine s_look (look_fieldAddr Try.underlying26 rfl (fun _ _ => rfl) rfl rfl) ?_
  refine s_look (look_load1 Try.underlying3 rfl rfl rfl (eqc (hB1.cell rfl))) ?_
  refine s_look (look_fieldAddr Try.underlying26 rfl (fun _ _ => rfl) rfl rfl) ?_
  refine s_look (look_load1 Try.underlying3 rfl rfl rfl (eqc (hB2.cell rfl))) ?_
  refine s_look (look_subw rfl rfl rfl rfl) ?_
  refine s_look (look_build (pl := [(0, 1), (1, 1), (2, 1)]) (parts := [(0, .tmp 9), (1, .tmp 14), (2, .tmp 19)]) (vs := [(0, _), (1, _), (2, _)]) (cells := ccell (subW a b)) Try.underlying26 zeTry_26 (by kernel_rfl) ⟨⟨_, rfl, rfl⟩, ⟨_, rfl, rfl⟩, ⟨_, rfl, rfl⟩, trivial⟩ rfl (by kernel_rfl)) ?_
  refine s_store szTry_26 rfl (by simp [ccell, gcell, Value.cells, Value.oneCell']) rfl rfl hB3 rfl ?_
  intro u4 hk4 hT4
  replace hT4 : Blk u4 g3 26 (ccell (subW a b)) := hT4
  replace hX := hX.kp hk4 (by omega)
  replace hB1 := hB1.kp hk4 (by omega)
  replace hB2 := hB2.kp hk4 (by omega)
  clear hB3
  have hB3 := hT4
  refine s_nil ?_
  refine then_normal ?_
  refine wp_ret ?_
  exact resC Try.results39 Try.underlying26 rfl szTry_26 rfl rfl (fun j v hv => by rw [Nat.zero_add]; exact hB3.cell hv) ⟨rfl, hX⟩

theorem ways_any  (w : World)  :
    Calls Try.prog 34 #[] w fun e w' => e = .returned (.agg (W18).toArray) ∧ Ext w w' := by
  refine calls_act Try.func34 rfl Try.ntmps34 rfl rfl ?_
  show Code.wp _ _ _ (act 8 [] _) _
  have hX : Ext w w := Ext.rfl' w
  refine wp_seq ?_
  refine wp_region_lit ?_
  refine s_alloc zeTry_59 ?_
  intro g1 u1 hu1 hB1 hg1 hs1
  have ge_g1 : w.heap.size ≤ g1 := by have := hX.size; omega
  replace hX := hX.comp hu1
  refine s_nil ?_
  refine then_normal ?_
  refine wp_seq ?_
  refine wp_region_lit ?_
  refine s_look (look_build (pl := [(0, 1), (1, 1), (2, 1)]) (parts := [(0, .const (Go.Value.int Go.IntKind.i64 (-1)))]) (vs := [(0, .int .i64 (-1))]) (cells := ccell ⟨-1, 0, 0⟩) Try.underlying26 zeTry_26 (by kernel_rfl) ⟨⟨_, rfl, rfl⟩, trivial⟩ rfl (by kernel_rfl)) ?_
  refine s_look (look_build (pl := [(0, 1), (1, 1), (2, 1)]) (parts := [(1, .const (Go.Value.int Go.IntKind.i64 (-1)))]) (vs := [(1, .int .i64 (-1))]) (cells := ccell ⟨0, -1, 0⟩) Try.underlying26 zeTry_26 (by kernel_rfl) ⟨⟨_, rfl, rfl⟩, trivial⟩ rfl (by kernel_rfl)) ?_
  refine s_look (look_build (pl := [(0, 1), (1, 1), (2, 1)]) (parts := [(2, .const (Go.Value.int Go.IntKind.i64 (-1)))]) (vs := [(2, .int .i64 (-1))]) (cells := ccell ⟨0, 0, -1⟩) Try.underlying26 zeTry_26 (by kernel_rfl) ⟨⟨_, rfl, rfl⟩, trivial⟩ rfl (by kernel_rfl)) ?_
  refine s_look (look_build (pl := [(0, 1), (1, 1), (2, 1)]) (parts := [(2, .const (Go.Value.int Go.IntKind.i64 1))]) (vs := [(2, .int .i64 (1))]) (cells := ccell ⟨0, 0, 1⟩) Try.underlying26 zeTry_26 (by kernel_rfl) ⟨⟨_, rfl, rfl⟩, trivial⟩ rfl (by kernel_rfl)) ?_
  refine s_look (look_build (pl := [(0, 1), (1, 1), (2, 1)]) (parts := [(1, .const (Go.Value.int Go.IntKind.i64 1))]) (vs := [(1, .int .i64 (1))]) (cells := ccell ⟨0, 1, 0⟩) Try.underlying26 zeTry_26 (by kernel_rfl) ⟨⟨_, rfl, rfl⟩, trivial⟩ rfl (by kernel_rfl)) ?_
  refine s_look (look_build (pl := [(0, 1), (1, 1), (2, 1)]) (parts := [(0, .const (Go.Value.int Go.IntKind.i64 1))]) (vs := [(0, .int .i64 (1))]) (cells := ccell ⟨1, 0, 0⟩) Try.underlying26 zeTry_26 (by kernel_rfl) ⟨⟨_, rfl, rfl⟩, trivial⟩ rfl (by kernel_rfl)) ?_
  refine s_look (look_buildA (parts := [(0, .tmp 1), (1, .tmp 2), (2, .tmp 3), (3, .tmp 4), (4, .tmp 5), (5, .tmp 6)]) (vs := [(0, .agg (ccell ⟨-1, 0, 0⟩).toArray), (1, .agg (ccell ⟨0, -1, 0⟩).toArray), (2, .agg (ccell ⟨0, 0, -1⟩).toArray), (3, .agg (ccell ⟨0, 0, 1⟩).toArray), (4, .agg (ccell ⟨0, 1, 0⟩).toArray), (5, .agg (ccell ⟨1, 0, 0⟩).toArray)]) (cells := W18) Try.underlying59 zeTry_59 szTry_26 ⟨⟨_, rfl, rfl⟩, ⟨_, rfl, rfl⟩, ⟨_, rfl, rfl⟩, ⟨_, rfl, rfl⟩, ⟨_, rfl, rfl⟩, ⟨_, rfl, rfl⟩, trivial⟩ rfl (by kernel_rfl)) ?_
  refine s_store (v := .agg W18.toArray) szTry_59 W18_sz W18_one rfl rfl hB1 (by rw [W18_sz]; rfl) ?_
  intro u2 hk2 hT2
  replace hT2 : Blk u2 g1 59 W18 := hT2
  replace hX := hX.kp hk2 (by omega)
  clear hB1
  have hB1 := hT2
  refine s_nil ?_
  refine then_normal ?_
  refine wp_ret ?_
  exact resC Try.results34 Try.underlying59 rfl szTry_59 W18_len rfl (fun j v hv => by rw [Nat.zero_add]; exact hB1.cell hv) ⟨rfl, hX⟩

theorem refways_any  (w : World)  :
    Calls Try.prog 24 #[] w fun e w' => e = .returned (.agg (W18).toArray) ∧ Ext w w' := by
  refine calls_act Try.func24 rfl Try.ntmps24 rfl rfl ?_
  show Code.wp _ _ _ (act 8 [] _) _
  have hX : Ext w w := Ext.rfl' w
  refine wp_seq ?_
  refine wp_region_lit ?_
  refine s_alloc zeTry_59 ?_
  intro g1 u1 hu1 hB1 hg1 hs1
  have ge_g1 : w.heap.size ≤ g1 := by have := hX.size; omega
  replace hX := hX.comp hu1
  refine s_nil ?_
  refine then_normal ?_
  refine wp_seq ?_
  refine wp_region_lit ?_
  refine s_look (look_build (pl := [(0, 1), (1, 1), (2, 1)]) (parts := [(0, .const (Go.Value.int Go.IntKind.i64 (-1)))]) (vs := [(0, .int .i64 (-1))]) (cells := ccell ⟨-1, 0, 0⟩) Try.underlying26 zeTry_26 (by kernel_rfl) ⟨⟨_, rfl, rfl⟩, trivial⟩ rfl (by kernel_rfl)) ?_
  refine s_look (look_build (pl := [(0, 1), (1, 1), (2, 1)]) (parts := [(1, .const (Go.Value.int Go.IntKind.i64 (-1)))]) (vs := [(1, .int .i64 (-1))]) (cells := ccell ⟨0, -1, 0⟩) Try.underlying26 zeTry_26 (by kernel_rfl) ⟨⟨_, rfl, rfl⟩, trivial⟩ rfl (by kernel_rfl)) ?_
  refine s_look (look_build (pl := [(0, 1), (1, 1), (2, 1)]) (parts := [(2, .const (Go.Value.int Go.IntKind.i64 (-1)))]) (vs := [(2, .int .i64 (-1))]) (cells := ccell ⟨0, 0, -1⟩) Try.underlying26 zeTry_26 (by kernel_rfl) ⟨⟨_, rfl, rfl⟩, trivial⟩ rfl (by kernel_rfl)) ?_
  refine s_look (look_build (pl := [(0, 1), (1, 1), (2, 1)]) (parts := [(2, .const (Go.Value.int Go.IntKind.i64 1))]) (vs := [(2, .int .i64 (1))]) (cells := ccell ⟨0, 0, 1⟩) Try.underlying26 zeTry_26 (by kernel_rfl) ⟨⟨_, rfl, rfl⟩, trivial⟩ rfl (by kernel_rfl)) ?_
  refine s_look (look_build (pl := [(0, 1), (1, 1), (2, 1)]) (parts := [(1, .const (Go.Value.int Go.IntKind.i64 1))]) (vs := [(1, .int .i64 (1))]) (cells := ccell ⟨0, 1, 0⟩) Try.underlying26 zeTry_26 (by kernel_rfl) ⟨⟨_, rfl, rfl⟩, trivial⟩ rfl (by kernel_rfl)) ?_
  refine s_look (look_build (pl := [(0, 1), (1, 1), (2, 1)]) (parts := [(0, .const (Go.Value.int Go.IntKind.i64 1))]) (vs := [(0, .int .i64 (1))]) (cells := ccell ⟨1, 0, 0⟩) Try.underlying26 zeTry_26 (by kernel_rfl) ⟨⟨_, rfl, rfl⟩, trivial⟩ rfl (by kernel_rfl)) ?_
  refine s_look (look_buildA (parts := [(0, .tmp 1), (1, .tmp 2), (2, .tmp 3), (3, .tmp 4), (4, .tmp 5), (5, .tmp 6)]) (vs := [(0, .agg (ccell ⟨-1, 0, 0⟩).toArray), (1, .agg (ccell ⟨0, -1, 0⟩).toArray), (2, .agg (ccell ⟨0, 0, -1⟩).toArray), (3, .agg (ccell ⟨0, 0, 1⟩).toArray), (4, .agg (ccell ⟨0, 1, 0⟩).toArray), (5, .agg (ccell ⟨1, 0, 0⟩).toArray)]) (cells := W18) Try.underlying59 zeTry_59 szTry_26 ⟨⟨_, rfl, rfl⟩, ⟨_, rfl, rfl⟩, ⟨_, rfl, rfl⟩, ⟨_, rfl, rfl⟩, ⟨_, rfl, rfl⟩, ⟨_, rfl, rfl⟩, trivial⟩ rfl (by kernel_rfl)) ?_
  refine s_store (v := .agg W18.toArray) szTry_59 W18_sz W18_one rfl rfl hB1 (by rw [W18_sz]; rfl) ?_
  intro u2 hk2 hT2
  replace hT2 : Blk u2 g1 59 W18 := hT2
  replace hX := hX.kp hk2 (by omega)
  clear hB1
  have hB1 := hT2
  refine s_nil ?_
  refine then_normal ?_
  refine wp_ret ?_
  exact resC Try.results24 Try.underlying59 rfl szTry_59 W18_len rfl (fun j v hv => by rw [Nat.zero_add]; exact hB1.cell hv) ⟨rfl, hX⟩

end Go.Proofs.Ythddekipelbooaa
