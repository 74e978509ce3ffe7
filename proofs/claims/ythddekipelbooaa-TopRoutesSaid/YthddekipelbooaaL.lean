/- The walks of chapter 44 (route): step, next. -/
import Derived.Test.YthddekipelbooaaK
namespace Go.Proofs.Ythddekipelbooaa
open Go Go.RowKit Core
set_option linter.unusedVariables false
set_option linter.unusedSimpArgs false
attribute [local irreducible] wpQuiet wpList wpH wpT Code.wp Calls bodyPost act

theorem stood58 : Try.prog.stoodInHeld 51 = false := by kernel_rfl

def fcell (g : Gr) (bend : Int) (m : Nat) : List Value := [.int .i64 g.nx, .int .i64 g.ny, .int .i64 g.nz, .slice g.A g.bl.length g.cap, .int .i64 bend, .map (some m)]
def kR (k : Cl × Cl) : Value := .agg (rcell k.1 k.2).toArray
def vI (n : Int) : Value := .int .i64 n
theorem run_partN {P : Program} {t size o : Nat} {cs us : List Value} {td : TypeDesc} (ht : P.underlying t = some td) (hag : (match td with | .struct _ | .array _ _ => true | _ => false) = true)
    (hs : (P.info? t).map (fun i => i.size) = some size) (hu : (cs.drop o).take size = us) (w : World) : (part t cs.toArray o).run P w = .ok (.agg us.toArray) w := by
  obtain ⟨te, hte, hsz⟩ : ∃ te, P.info? t = some te ∧ te.size = size := by
    cases he : P.info? t with
    | none => rw [he] at hs; cases hs
    | some te => rw [he] at hs; exact ⟨te, rfl, Option.some.inj hs⟩
  have hext : cs.toArray.extract o (o + size) = us.toArray := by
    apply Array.ext'
    rw [Array.toList_extract, List.extract_eq_take_drop, ← hu]
    simp
  simp only [part, isAgg, Sem.run_bind, run_underlying ht, sizeOf, typeInfo, program, Sem.run, hte, hsz]
  cases td <;> simp_all [Sem.run]
theorem eq58 (a b : Cl × Cl) (k : Nat) (w : World) : (Op.equalIn (k + 4) 51 (kR a) (kR b)).run Try.prog w = .ok (decide (a = b)) w := by
  have hfo : Try.prog.fieldsOf 51 = #[{ name := "at", type := 26, offset := 0, embedded := false, tag := "", pkgPath := "shipyard/route", byteOffset := 0 }, { name := "by", type := 26, offset := 3, embedded := false, tag := "", pkgPath := "shipyard/route", byteOffset := 24 }] := by unfold Program.fieldsOf; rw [Try.underlying51]
  unfold kR
  rw [show k + 4 = (k + 3) + 1 from rfl, run_equalIn_struct w (k + 3) 51 _ _ (by rw [hfo]; exact Try.underlying51) stood58, hfo]
  have p1 : ∀ (c d : Cl) (w : World), (part 26 (rcell c d).toArray 0).run Try.prog w = .ok (.agg (ccell c).toArray) w := fun c d w => run_partN Try.underlying26 rfl szTry_26 rfl w
  have p2 : ∀ (c d : Cl) (w : World), (part 26 (rcell c d).toArray 3).run Try.prog w = .ok (.agg (ccell d).toArray) w := fun c d w => run_partN Try.underlying26 rfl szTry_26 rfl w
  have e : decide (a = b) = (decide (a.1 = b.1) && decide (a.2 = b.2)) := by rw [Bool.eq_iff_iff]; simp [Prod.ext_iff]
  rw [e]
  simp only [Op.eqFields, Sem.run_bind, p1, p2, Result.andThen_ok, show k + 3 = (k + 1) + 2 from rfl, show k + 2 = k + 2 from rfl, eq35]
  by_cases h1 : a.1 = b.1
  · by_cases h2 : a.2 = b.2 <;> simp [h1, h2, p1, p2, eq35]
  · simp [h1, p1, p2, eq35]
theorem chk58 (c : Cl × Cl) (b : Bool) (k : Nat) (w : World) : (Instr.checkKey b (k + 3) 51 (kR c)).run Try.prog w = .ok () w := by
  have p1 : (part 26 (rcell c.1 c.2).toArray 0).run Try.prog w = .ok (.agg (ccell c.1).toArray) w := run_partN Try.underlying26 rfl szTry_26 rfl w
  have p2 : (part 26 (rcell c.1 c.2).toArray 3).run Try.prog w = .ok (.agg (ccell c.2).toArray) w := run_partN Try.underlying26 rfl szTry_26 rfl w
  unfold Instr.checkKey kR
  simp [run_underlying Try.underlying51, p1, p2, chk35]
theorem bits58 (c : Cl × Cl) (k : Nat) : Instr.sameBits (k + 1) (kR c) (kR c) = true := by simp [kR, Instr.sameBits, rcell]
theorem klR : KeyV Try.prog 51 kR := ⟨fun x b w => chk58 x b 9997 w, by rw [Try.underlying51], fun x y w => by show (Op.equalIn Op.maxDepth 51 _ _).run Try.prog w = _; exact eq58 x y 9996 w, fun x => bits58 x 9999⟩
theorem zvI (w : World) : (zeroValue 3).run Try.prog w = .ok (vI 0) w := by kernel_rfl

theorem step_any (gf gm : Nat) (g : Gr) (bend : Int) (u v : Cl) (w : World) (hF : Blk w gf 48 (fcell g bend gm)) (hb : 0 ≤ bend ∧ bend ≤ 1000) :
    Calls Try.prog 38 #[.pointer (some ⟨gf, 0, none⟩), .agg (ccell u).toArray, .agg (ccell v).toArray] w fun e w' => e = .returned (.int .i64 (stepP bend u v)) ∧ Ext w w' := by
  refine calls_act Try.func38 rfl Try.ntmps38 rfl rfl ?_
  show Code.wp _ _ _ (act 20 [(0, true, .pointer (some ⟨gf, 0, none⟩)), (1, true, .agg (ccell u).toArray), (2, true, .agg (ccell v).toArray)] _) _
  have hX : Ext w w := Ext.rfl' w
  refine wp_seq ?_
  refine wp_region_lit ?_
  refine s_box rfl ?_
  intro g1 u1 hu1 hB1 hg1 hs1
  replace hB1 : Blk u1 g1 26 (ccell u) := hB1
  have lt_gf_g1 : gf < g1 := by have := hF.lt; omega
  have ge_g1 : w.heap.size ≤ g1 := by have := hX.size; omega
  replace hX := hX.comp hu1
  replace hF := hF.ext hu1
  refine s_box rfl ?_
  intro g2 u2 hu2 hB2 hg2 hs2
  replace hB2 : Blk u2 g2 26 (ccell v) := hB2
  have lt_gf_g2 : gf < g2 := by have := hF.lt; omega
  have lt_g1_g2 : g1 < g2 := by have := hB1.lt; omega
  have ge_g2 : w.heap.size ≤ g2 := by have := hX.size; omega
  replace hX := hX.comp hu2
  replace hF := hF.ext hu2
  replace hB1 := hB1.ext hu2
  refine s_look (look_assign rfl rfl) ?_
  refine s_nil ?_
  refine then_normal ?_
  refine wp_seq ?_
  refine wp_seq ?_
  refine region_s ?_
  refine q_look (look_loadN Try.underlying26 rfl szTry_26 rfl rfl rfl (eqc_n hB1)) ?_
  refine q_look (look_loadN Try.underlying26 rfl szTry_26 rfl rfl rfl (eqc_n hB2)) ?_
  refine q_look (look_eql_flat Try.underlying26 stood35 guard35 rfl rfl rfl rfl (eqC _ _)) ?_
  refine q_look (look_move rfl rfl) ?_
  refine q_lookg rfl rfl rfl (fun hq => look_loadN Try.underlying26 rfl szTry_26 rfl rfl rfl (eqc_n hB1)) ?_
  refine q_lookg rfl rfl rfl (fun hq => look_build (pl := [(0, 1), (1, 1), (2, 1)]) (parts := []) (vs := []) (cells := ccell c0) Try.underlying26 zeTry_26 (by kernel_rfl) trivial rfl (by kernel_rfl)) ?_
  refine q_lookg rfl rfl rfl (fun hq => look_eql_flat Try.underlying26 stood35 guard35 rfl hq rfl hq (eqC _ _)) ?_
  refine q_look (look_or rfl rfl rfl rfl) ?_
  refine q_nil ?_
  rintro _ rfl
  refine then_normal ?_
  refine cond_split rfl (fun hc14 => ?_) (fun hc14 => ?_)
  · have hs : u = v ∨ u = c0 := by simpa using hc14
    refine wp_seq ?_
    refine region_s ?_
    refine q_look (look_assign rfl rfl) ?_
    refine q_nil ?_
    rintro _ rfl
    refine then_normal ?_
    refine wp_ret ?_
    refine then_ret ?_
    exact res1 Try.results38 rfl ⟨ret_int (by unfold stepP; rw [if_pos hs]), hX⟩
  · have hs : ¬ (u = v ∨ u = c0) := by simpa using hc14
    refine wp_skip ?_
    refine then_normal ?_
    refine wp_seq ?_
    refine region_s ?_
    refine q_look (look_move rfl rfl) ?_
    refine q_look (look_nilCheck rfl rfl) ?_
    refine q_look (look_fieldAddr Try.underlying48 rfl (fun _ _ => rfl) rfl rfl) ?_
    refine q_look (look_load1 Try.underlying3 rfl rfl rfl (eqc (hF.cell rfl))) ?_
    refine q_look (look_add rfl rfl rfl rfl (by unfold I64; omega)) ?_
    refine q_look (look_assign rfl rfl) ?_
    refine q_nil ?_
    rintro _ rfl
    refine then_normal ?_
    refine wp_ret ?_
    exact res1 Try.results38 rfl ⟨ret_int (by unfold stepP; rw [if_neg hs]), hX⟩

end Go.Proofs.Ythddekipelbooaa
