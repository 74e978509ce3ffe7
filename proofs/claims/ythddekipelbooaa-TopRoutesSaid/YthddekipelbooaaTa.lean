/- The walks of TopRoutes: vec and pipe. -/
import Derived.Test.YthddekipelbooaaGe
namespace Go.Proofs.Ythddekipelbooaa
open Go Go.RowKit Core
set_option linter.unusedVariables false
set_option linter.unusedSimpArgs false
attribute [local irreducible] wpQuiet wpList wpH wpT Code.wp Calls bodyPost act

theorem enTry_3 : Enters Try.prog 3 := enters_of Try.func3 (by kernel_rfl) rfl
theorem enTry_10 : Enters Try.prog 10 := enters_of Try.func10 (by kernel_rfl) rfl
theorem enTry_11 : Enters Try.prog 11 := enters_of Try.func11 (by kernel_rfl) rfl
theorem enTry_12 : Enters Try.prog 12 := enters_of Try.func12 (by kernel_rfl) rfl
theorem enTry_27 : Enters Try.prog 27 := enters_of Try.func27 (by kernel_rfl) rfl
theorem enTry_28 : Enters Try.prog 28 := enters_of Try.func28 (by kernel_rfl) rfl
theorem enTry_29 : Enters Try.prog 29 := enters_of Try.func29 (by kernel_rfl) rfl
theorem enTry_30 : Enters Try.prog 30 := enters_of Try.func30 (by kernel_rfl) rfl
theorem enTry_31 : Enters Try.prog 31 := enters_of Try.func31 (by kernel_rfl) rfl
theorem enTry_41 : Enters Try.prog 41 := enters_of Try.func41 (by kernel_rfl) rfl
theorem enTry_42 : Enters Try.prog 42 := enters_of Try.func42 (by kernel_rfl) rfl
theorem enTry_43 : Enters Try.prog 43 := enters_of Try.func43 (by kernel_rfl) rfl
theorem enTry_44 : Enters Try.prog 44 := enters_of Try.func44 (by kernel_rfl) rfl
theorem enTry_45 : Enters Try.prog 45 := enters_of Try.func45 (by kernel_rfl) rfl
theorem szTry_27 : (Try.prog.info? 27).map (fun i => i.size) = some 6 := by kernel_rfl
theorem zeTry_27 : (Try.prog.info? 27).map (fun i => i.zero) = some (some (.agg #[.int .i64 0, .int .i64 0, .int .i64 0, .int .i64 0, .int .i64 0, .int .i64 0])) := by kernel_rfl
theorem szTry_36 : (Try.prog.info? 36).map (fun i => i.size) = some 3 := by kernel_rfl
theorem zeTry_36 : (Try.prog.info? 36).map (fun i => i.zero) = some (some (.agg #[.int .i64 0, .int .i64 0, .int .i64 0])) := by kernel_rfl
theorem szTry_96 : (Try.prog.info? 96).map (fun i => i.size) = some 3 := by kernel_rfl
theorem zeTry_96 : (Try.prog.info? 96).map (fun i => i.zero) = some (some (.agg #[.int .i64 0, .int .i64 0, .int .i64 0])) := by kernel_rfl
theorem zsbTry_36 : (Try.prog.info? 36).map (fun i => (i.zero, i.size, i.bytes)) = some (some (.agg #[.int .i64 0, .int .i64 0, .int .i64 0]), 3, 24) := by kernel_rfl
theorem stood36 : Try.prog.stoodInHeld 36 = false := by kernel_rfl
theorem guard36 : Try.prog.eqGuardType Try.prog.depth 36 = false := by kernel_rfl

theorem look_neg {P : Program} {C : World → Prop} {n : Nat} {l : List (Nat × Bool × Value)} {σ : Nat → Value} {d : Option Tmp} {ty : TypeId} {pos : String} {after : Array Edge} {g : Option (Nat × Bool)} {p : Bool} {t : TypeId} {x : Operand} {m : Int} {ds : List Deferred}
    (hx : ev n l x = some (p, .int .i64 m)) (hp : p = true) (hm : I64 (-m)) : Look P C n l σ ⟨d, .unOp .neg t x, ty, pos, after, g⟩ (.int .i64 (-m)) := fun w _ => by
  simp [execOp, eval_ev hx hp, Op.unary, Op.intArith, wrap_I64 hm]
theorem look_index_arr1 {P : Program} {C : World → Prop} {n : Nat} {l : List (Nat × Bool × Value)} {σ : Nat → Value} {d : Option Tmp} {ty : TypeId} {pos : String} {after : Array Edge} {g : Option (Nat × Bool)} {p q : Bool} {t e : TypeId} {td : TypeDesc} {x i : Operand} {len : Nat} {cs : List Value} {k : IntKind} {j : Int} {v : Value} (m : Nat) (ht : P.underlying t = some (.array len e)) (he : P.underlying e = some td) (hag : isFlat td = true)
    (hs : (P.info? e).map (fun i => i.size) = some 1) (hx : ev n l x = some (p, .agg cs.toArray)) (hp : p = true) (hy : ev n l i = some (q, .int k j)) (hq : q = true) (hm : j = (m : Int)) (hlt : m < len) (hv : cs[m]? = some v) :
    Look P C n l σ ⟨d, .index t x i, ty, pos, after, g⟩ v := fun w _ => by
  subst hm
  obtain ⟨te, hte, hsz⟩ : ∃ te, P.info? e = some te ∧ te.size = 1 := by
    cases he : P.info? e with
    | none => rw [he] at hs; cases hs
    | some te => rw [he] at hs; exact ⟨te, rfl, Option.some.inj hs⟩
  have hpart : (part e cs.toArray m).run P w = .ok v w := run_part1 he hag (by simpa using hv) w
  have hsz' : (sizeOf e).run P w = .ok 1 w := by simp [sizeOf, typeInfo, program, Sem.run, hte, hsz]
  simp only [execOp, eval_ev hx hp, eval_ev hy hq, Instr.index, asIntOf, Sem.run_bind, Sem.run_pure, Result.andThen_ok, run_underlying ht]
  rw [if_pos ⟨by omega, by omega⟩]
  simp only [Sem.run_bind, hsz', Result.andThen_ok, Int.toNat_natCast, Nat.mul_one, hpart]
def ngC (c : Cl) : Cl := ⟨-c.x, -c.y, -c.z⟩
def Sm (c : Cl) : Prop := (-1000000 ≤ c.x ∧ c.x ≤ 1000000) ∧ (-1000000 ≤ c.y ∧ c.y ≤ 1000000) ∧ (-1000000 ≤ c.z ∧ c.z ≤ 1000000)
theorem cadd_ng (a b : Cl) : cadd a (ngC b) = csub a b := cl_ext (by simp only [cadd, ngC, csub]; omega) (by simp only [cadd, ngC, csub]; omega) (by simp only [cadd, ngC, csub]; omega)
theorem csub_z (a : Cl) : csub c0 a = ngC a := cl_ext (by simp only [c0, ngC, csub]; omega) (by simp only [c0, ngC, csub]; omega) (by simp only [c0, ngC, csub]; omega)
theorem three {c : Cl} {n : Int} {k : Nat} (hk : k < 3) (hc : (-n ≤ c.x ∧ c.x ≤ n) ∧ (-n ≤ c.y ∧ c.y ≤ n) ∧ (-n ≤ c.z ∧ c.z ≤ n)) : ∃ x : Int, ([.int .i64 c.x, .int .i64 c.y, .int .i64 c.z] : List Value)[k]? = some (.int .i64 x) ∧ -n ≤ x ∧ x ≤ n := by
  have : k = 0 ∨ k = 1 ∨ k = 2 := by omega
  rcases this with e | e | e <;> subst e
  · exact ⟨c.x, rfl, hc.1⟩
  · exact ⟨c.y, rfl, hc.2.1⟩
  · exact ⟨c.z, rfl, hc.2.2⟩
def sgI (n : Int) : Int := min (max n (-1)) 1
def sgC (c : Cl) : Cl := ⟨sgI c.x, sgI c.y, sgI c.z⟩
theorem sg_way {s : Int} {v : Cl} (hs : 1 ≤ s) (hv : v ∈ ways) : sgC (mulC s v) = v := by
  have w := way_one.1 hv
  have K : ∀ p : Int, (p = 0 ∨ p = 1 ∨ p = -1) → sgI (s * p) = p := by
    intro p h
    unfold sgI
    rcases h with h | h | h <;> rw [h] <;> omega
  exact cl_ext (K _ (by omega)) (K _ (by omega)) (K _ (by omega))
theorem way_nrm {v : Cl} (hv : v ∈ ways) : v.x * v.x + v.y * v.y + v.z * v.z = 1 := by
  rw [mem_ways] at hv
  rcases hv with h | h | h | h | h | h <;> subst h <;> rfl
def lenV (d : Cl) : Int := max d.x (-d.x) + max d.y (-d.y) + max d.z (-d.z)
theorem len_mul {s : Int} {v : Cl} (hs : 0 ≤ s) (hv : v ∈ ways) : lenV (mulC s v) = s := by
  have w := way_one.1 hv
  unfold lenV mulC
  simp only
  rcases w with ⟨w1, w2, w | w⟩ | ⟨w1, w2, w | w⟩ | ⟨w1, w2, w | w⟩ <;> rw [w1, w2, w] <;> omega
def legsP : List Cl → List Int
  | x :: y :: r => lenV (csub y x) :: legsP (y :: r)
  | _ => []
theorem legs_two (x y : Cl) (r : List Cl) : legsP (x :: y :: r) = lenV (csub y x) :: legsP (y :: r) := rfl
theorem legs_drop {l : List Cl} {i : Nat} {x y : Cl} (hi : 1 ≤ i) (hx : l[i - 1]? = some x) (hy : l[i]? = some y) : legsP (l.drop (i - 1)) = lenV (csub y x) :: legsP (l.drop i) := by
  have e : i - 1 + 1 = i := by omega
  rw [drop_get hx, e, drop_get hy, legs_two, ← drop_get hy]
theorem legs_end {l : List Cl} {i : Nat} (h : l.length ≤ i) (hi : 1 ≤ i) : legsP (l.drop (i - 1)) = [] := by
  have : (l.drop (i - 1)).length ≤ 1 := by rw [List.length_drop]; omega
  match hd : l.drop (i - 1), this with
  | [], _ => rfl
  | [x], _ => rfl
  | x :: y :: r, h => rw [hd] at this; simp at this
theorem legs_len : ∀ (l : List Cl), (legsP l).length = l.length - 1
  | [] => rfl
  | [x] => rfl
  | x :: y :: r => by rw [legs_two, List.length_cons, legs_len (y :: r)]; simp
/-- A polyline along the axes with true bends, from a direction on. -/
def Good : Cl → List Cl → Prop
  | lst, x :: y :: r => ∃ v s, v ∈ ways ∧ 1 ≤ s ∧ csub y x = mulC (1000 * s) v ∧ v ≠ lst ∧ v ≠ ngC lst ∧ Good v (y :: r)
  | _, _ => True
theorem good_at {lst : Cl} {l : List Cl} {i : Nat} {x y : Cl} (hi : 1 ≤ i) (hx : l[i - 1]? = some x) (hy : l[i]? = some y) (h : Good lst (l.drop (i - 1))) : ∃ v s, v ∈ ways ∧ 1 ≤ s ∧ csub y x = mulC (1000 * s) v ∧ v ≠ lst ∧ v ≠ ngC lst ∧ Good v (l.drop i) := by
  have e : i - 1 + 1 = i := by omega
  rw [drop_get hx, e, drop_get hy] at h
  obtain ⟨v, s, h1, h2, h3, h4, h5, h6⟩ := h
  exact ⟨v, s, h1, h2, h3, h4, h5, by rw [drop_get hy]; exact h6⟩
theorem good_legs : ∀ (l : List Cl) (lst : Cl), Good lst l → ∀ n ∈ legsP l, 1000 ≤ n
  | [], _, _, n, h => by cases h
  | [x], _, _, n, h => by cases h
  | x :: y :: r, lst, hG, n, h => by
    obtain ⟨v, s, h1, h2, h3, _, _, h6⟩ := hG
    rw [legs_two] at h
    rcases List.mem_cons.1 h with e | e
    · rw [e, h3, len_mul (by omega) h1]; omega
    · exact good_legs (y :: r) v h6 n e
theorem far_f {c : Cl} (h : (-524288 ≤ c.x ∧ c.x ≤ 524288) ∧ (-524288 ≤ c.y ∧ c.y ≤ 524288) ∧ (-524288 ≤ c.z ∧ c.z ≤ 524288)) : (decide (524288 < max (max c.x c.y) c.z) || decide (min (min c.x c.y) c.z < -524288)) = false := by
  rw [decide_eq_false (by omega), decide_eq_false (by omega)]; rfl
def Pt (c : Cl) : Prop := (0 ≤ c.x ∧ c.x ≤ 8000) ∧ (0 ≤ c.y ∧ c.y ≤ 8000) ∧ (0 ≤ c.z ∧ c.z ≤ 8000)

theorem within_any (c : Cl) (n : Int) (w : World) (hn : 0 ≤ n ∧ n ≤ 1099511627776) (hc : (-n ≤ c.x ∧ c.x ≤ n) ∧ (-n ≤ c.y ∧ c.y ≤ n) ∧ (-n ≤ c.z ∧ c.z ≤ n)) :
    Calls Try.prog 42 #[.agg (ccell c).toArray, .int .i64 n] w fun e w' => e = .returned (.bool (true)) ∧ Ext w w' := by
  refine calls_act Try.func42 rfl Try.ntmps42 rfl rfl ?_
  show Code.wp _ _ _ (act 27 [(0, true, .agg (ccell c).toArray), (1, true, .int .i64 n)] _) _
  have hX : Ext w w := Ext.rfl' w
  refine wp_seq ?_
  refine wp_region_lit ?_
  refine s_box rfl ?_
  intro g1 u1 hu1 hB1 hg1 hs1
  replace hB1 : Blk u1 g1 36 (ccell c) := hB1
  have ge_g1 : w.heap.size ≤ g1 := by have := hX.size; omega
  replace hX := hX.comp hu1
  refine s_look (look_assign rfl rfl) ?_
  refine s_nil ?_
  refine then_normal ?_
  refine wp_seq ?_
  refine wp_seq ?_
  refine region_s ?_
  refine q_look (look_fieldAddr Try.underlying36 rfl (fun _ _ => rfl) rfl rfl) ?_
  refine q_look (look_load1 Try.underlying3 rfl rfl rfl (eqc (hB1.cell rfl))) ?_
  refine q_look (look_fieldAddr Try.underlying36 rfl (fun _ _ => rfl) rfl rfl) ?_
  refine q_look (look_load1 Try.underlying3 rfl rfl rfl (eqc (hB1.cell rfl))) ?_
  refine q_look (look_fieldAddr Try.underlying36 rfl (fun _ _ => rfl) rfl rfl) ?_
  refine q_look (look_load1 Try.underlying3 rfl rfl rfl (eqc (hB1.cell rfl))) ?_
  refine q_look (look_buildA (parts := [(0, .tmp 8), (1, .tmp 10), (2, .tmp 12)]) (vs := [(0, .int .i64 c.x), (1, .int .i64 c.y), (2, .int .i64 c.z)]) (cells := [.int .i64 c.x, .int .i64 c.y, .int .i64 c.z]) Try.underlying96 zeTry_96 szTry_3 ⟨⟨_, rfl, rfl⟩, ⟨_, rfl, rfl⟩, ⟨_, rfl, rfl⟩, trivial⟩ rfl (by kernel_rfl)) ?_
  refine q_look (look_move rfl rfl) ?_
  refine q_nil ?_
  rintro _ rfl
  refine then_normal ?_
  refine wp_block ?_
  refine loop_act (fun (k : Nat) => [(1, .int .i64 n), (13, .agg ([.int .i64 c.x, .int .i64 c.y, .int .i64 c.z] : List Value).toArray), (14, .int .i64 (k : Int))]) (fun k w' => (Ext w w') ∧ (k ≤ 3)) (fun k => 3 - k) (0) ?_ ?_ ?_
  · exact ⟨rfl, rfl, rfl, trivial⟩
  · exact ⟨hX, Nat.zero_le _⟩
  · rintro k σ wr hF
    obtain ⟨hX, hk⟩ : (Ext w wr) ∧ (k ≤ 3) := hF
    show Code.wp _ _ _ (act 27 [(1, true, .int .i64 n), (13, true, .agg ([.int .i64 c.x, .int .i64 c.y, .int .i64 c.z] : List Value).toArray), (14, true, .int .i64 (k : Int))] _) _
    refine wp_seq ?_
    refine region_s ?_
    refine q_look (look_lss rfl rfl rfl rfl) ?_
    refine q_nil ?_
    rintro _ rfl
    refine then_normal ?_
    refine wp_seq ?_
    refine cond_split rfl (fun hc15 => ?_) (fun hc15 => ?_)
    · have hlt : k < 3 := by have := nn_t hc15; omega
      obtain ⟨x, hx, hxb⟩ := three hlt hc
      refine wp_skip ?_
      refine then_normal ?_
      refine wp_seq ?_
      refine wp_block ?_
      refine wp_seq ?_
      refine region_s ?_
      refine q_look (look_index_arr1 k Try.underlying96 Try.underlying3 rfl szTry_3 rfl rfl rfl rfl rfl hlt hx) ?_
      refine q_look (look_assign rfl rfl) ?_
      refine q_nil ?_
      rintro _ rfl
      refine then_normal ?_
      refine wp_seq ?_
      refine region_s ?_
      refine q_look (look_move rfl rfl) ?_
      refine q_look (look_move rfl rfl) ?_
      refine q_look (look_neg (ds := []) rfl rfl (by unfold I64; omega)) ?_
      refine q_look (look_lss rfl rfl rfl rfl) ?_
      refine q_look (look_move rfl rfl) ?_
      refine q_lookg rfl rfl rfl (fun hq => look_move rfl rfl) ?_
      refine q_lookg rfl rfl rfl (fun hq => look_move rfl rfl) ?_
      refine q_lookg rfl rfl rfl (fun hq => look_gtr rfl hq rfl hq) ?_
      refine q_look (look_or rfl rfl rfl rfl) ?_
      refine q_nil ?_
      rintro _ rfl
      refine then_normal ?_
      refine cond_false rfl (by rw [decide_eq_false (show ¬ x < -n by omega), decide_eq_false (show ¬ n < x by omega)]; rfl) ?_
      refine wp_skip ?_
      refine inB_normal ?_
      refine then_normal ?_
      refine region_s ?_
      refine q_look (look_add rfl rfl rfl rfl (by unfold I64; omega)) ?_
      refine q_look (look_move rfl rfl) ?_
      refine q_nil ?_
      rintro _ rfl
      exact loop_end (k + 1) (by omega) ⟨rfl, rfl, rfl, trivial⟩ ⟨hX, by omega⟩
    · skip
      refine wp_exit ?_
      refine then_exit ?_
      refine then_exit ?_
      refine inB_exit_same ?_
      refine then_normal ?_
      refine wp_seq ?_
      refine region_s ?_
      refine q_look (look_assign rfl rfl) ?_
      refine q_nil ?_
      rintro _ rfl
      refine then_normal ?_
      refine wp_ret ?_
      exact res1 Try.results42 rfl ⟨rfl, hX⟩

theorem vopp_any (c : Cl) (w : World) (hc : Sm c) :
    Calls Try.prog 44 #[.agg (ccell c).toArray] w fun e w' => e = .returned (.agg (ccell (ngC c)).toArray) ∧ Ext w w' := by
  refine calls_act Try.func44 rfl Try.ntmps44 rfl rfl ?_
  show Code.wp _ _ _ (act 13 [(0, true, .agg (ccell c).toArray)] _) _
  have hX : Ext w w := Ext.rfl' w
  have hsm := hc
  unfold Sm at hsm
  refine wp_seq ?_
  refine wp_region_lit ?_
  refine s_box rfl ?_
  intro g1 u1 hu1 hB1 hg1 hs1
  replace hB1 : Blk u1 g1 36 (ccell c) := hB1
  have ge_g1 : w.heap.size ≤ g1 := by have := hX.size; omega
  replace hX := hX.comp hu1
  refine s_alloc zeTry_36 ?_
  intro g2 u2 hu2 hB2 hg2 hs2
  have lt_g1_g2 : g1 < g2 := by have := hB1.lt; omega
  have ge_g2 : w.heap.size ≤ g2 := by have := hX.size; omega
  replace hX := hX.comp hu2
  replace hB1 := hB1.ext hu2
  refine s_nil ?_
  refine then_normal ?_
  refine wp_seq ?_
  refine wp_region_lit ?_
  refine s_look (look_fieldAddr Try.underlying36 rfl (fun _ _ => rfl) rfl rfl) ?_
  refine s_look (look_load1 Try.underlying3 rfl rfl rfl (eqc (hB1.cell rfl))) ?_
  refine s_look (look_neg (ds := []) rfl rfl (by unfold I64; omega)) ?_
  refine s_look (look_fieldAddr Try.underlying36 rfl (fun _ _ => rfl) rfl rfl) ?_
  refine s_look (look_load1 Try.underlying3 rfl rfl rfl (eqc (hB1.cell rfl))) ?_
  refine s_look (look_neg (ds := []) rfl rfl (by unfold I64; omega)) ?_
  refine s_look (look_fieldAddr Try.underlying36 rfl (fun _ _ => rfl) rfl rfl) ?_
  refine s_look (look_load1 Try.underlying3 rfl rfl rfl (eqc (hB1.cell rfl))) ?_
  refine s_look (look_neg (ds := []) rfl rfl (by unfold I64; omega)) ?_
  refine s_look (look_build (pl := [(0, 1), (1, 1), (2, 1)]) (parts := [(0, .tmp 5), (1, .tmp 8), (2, .tmp 11)]) (vs := [(0, .int .i64 (-c.x)), (1, .int .i64 (-c.y)), (2, .int .i64 (-c.z))]) (cells := ccell (ngC c)) Try.underlying36 zeTry_36 (by kernel_rfl) ⟨⟨_, rfl, rfl⟩, ⟨_, rfl, rfl⟩, ⟨_, rfl, rfl⟩, trivial⟩ rfl (by kernel_rfl)) ?_
  refine s_store szTry_36 rfl (by simp [ccell, gcell, itcell, rcell, tcell, icell, Value.cells, Value.oneCell']) rfl rfl hB2 rfl ?_
  intro u3 hk3 hT3
  replace hT3 : Blk u3 g2 36 (ccell (ngC c)) := hT3
  replace hX := hX.kp hk3 (by omega)
  replace hB1 := hB1.kp hk3 (by omega)
  clear hB2
  have hB2 := hT3
  refine s_nil ?_
  refine then_normal ?_
  refine wp_ret ?_
  exact resC Try.results44 Try.underlying36 rfl szTry_36 rfl rfl (fun j v hv => by rw [Nat.zero_add]; exact hB2.cell hv) ⟨rfl, hX⟩

theorem plus_any (a b : Cl) (w : World) (ha : Sm a) (hb : Sm b) :
    Calls Try.prog 43 #[.agg (ccell a).toArray, .agg (ccell b).toArray] w fun e w' => e = .returned (.agg (ccell (cadd a b)).toArray) ∧ Ext w w' := by
  refine calls_act Try.func43 rfl Try.ntmps43 rfl rfl ?_
  show Code.wp _ _ _ (act 21 [(0, true, .agg (ccell a).toArray), (1, true, .agg (ccell b).toArray)] _) _
  have hX : Ext w w := Ext.rfl' w
  have hsm := ha
  unfold Sm at hsm
  have hsm2 := hb
  unfold Sm at hsm2
  refine wp_seq ?_
  refine wp_region_lit ?_
  refine s_box rfl ?_
  intro g1 u1 hu1 hB1 hg1 hs1
  replace hB1 : Blk u1 g1 36 (ccell a) := hB1
  have ge_g1 : w.heap.size ≤ g1 := by have := hX.size; omega
  replace hX := hX.comp hu1
  refine s_box rfl ?_
  intro g2 u2 hu2 hB2 hg2 hs2
  replace hB2 : Blk u2 g2 36 (ccell b) := hB2
  have lt_g1_g2 : g1 < g2 := by have := hB1.lt; omega
  have ge_g2 : w.heap.size ≤ g2 := by have := hX.size; omega
  replace hX := hX.comp hu2
  replace hB1 := hB1.ext hu2
  refine s_alloc zeTry_36 ?_
  intro g3 u3 hu3 hB3 hg3 hs3
  have lt_g1_g3 : g1 < g3 := by have := hB1.lt; omega
  have lt_g2_g3 : g2 < g3 := by have := hB2.lt; omega
  have ge_g3 : w.heap.size ≤ g3 := by have := hX.size; omega
  replace hX := hX.comp hu3
  replace hB1 := hB1.ext hu3
  replace hB2 := hB2.ext hu3
  refine s_nil ?_
  refine then_normal ?_
  refine wp_seq ?_
  refine wp_region_lit ?_
  refine s_look (look_fieldAddr Try.underlying36 rfl (fun _ _ => rfl) rfl rfl) ?_
  refine s_look (look_load1 Try.underlying3 rfl rfl rfl (eqc (hB1.cell rfl))) ?_
  refine s_look (look_fieldAddr Try.underlying36 rfl (fun _ _ => rfl) rfl rfl) ?_
  refine s_look (look_load1 Try.underlying3 rfl rfl rfl (eqc (hB2.cell rfl))) ?_
  refine s_look (look_add rfl rfl rfl rfl (by unfold I64; omega)) ?_
  refine s_look (look_fieldAddr Try.underlying36 rfl (fun _ _ => rfl) rfl rfl) ?_
  refine s_look (look_load1 Try.underlying3 rfl rfl rfl (eqc (hB1.cell rfl))) ?_
  refine s_look (look_fieldAddr Try.underlying36 rfl (fun _ _ => rfl) rfl rfl) ?_
  refine s_look (look_load1 Try.underlying3 rfl rfl rfl (eqc (hB2.cell rfl))) ?_
  refine s_look (look_add rfl rfl rfl rfl (by unfold I64; omega)) ?_
  refine s_look (look_fieldAddr Try.underlying36 rfl (fun _ _ => rfl) rfl rfl) ?_
  refine s_look (look_load1 Try.underlying3 rfl rfl rfl (eqc (hB1.cell rfl))) ?_
  refine s_look (look_fieldAddr Try.underlying36 rfl (fun _ _ => rfl) rfl rfl) ?_
  refine s_look (look_load1 Try.underlying3 rfl rfl rfl (eqc (hB2.cell rfl))) ?_
  refine s_look (look_add rfl rfl rfl rfl (by unfold I64; omega)) ?_
  refine s_look (look_build (pl := [(0, 1), (1, 1), (2, 1)]) (parts := [(0, .tmp 9), (1, .tmp 14), (2, .tmp 19)]) (vs := [(0, .int .i64 (a.x + b.x)), (1, .int .i64 (a.y + b.y)), (2, .int .i64 (a.z + b.z))]) (cells := ccell (cadd a b)) Try.underlying36 zeTry_36 (by kernel_rfl) ⟨⟨_, rfl, rfl⟩, ⟨_, rfl, rfl⟩, ⟨_, rfl, rfl⟩, trivial⟩ rfl (by kernel_rfl)) ?_
  refine s_store szTry_36 rfl (by simp [ccell, gcell, itcell, rcell, tcell, icell, Value.cells, Value.oneCell']) rfl rfl hB3 rfl ?_
  intro u4 hk4 hT4
  replace hT4 : Blk u4 g3 36 (ccell (cadd a b)) := hT4
  replace hX := hX.kp hk4 (by omega)
  replace hB1 := hB1.kp hk4 (by omega)
  replace hB2 := hB2.kp hk4 (by omega)
  clear hB3
  have hB3 := hT4
  refine s_nil ?_
  refine then_normal ?_
  refine wp_ret ?_
  exact resC Try.results43 Try.underlying36 rfl szTry_36 rfl rfl (fun j v hv => by rw [Nat.zero_add]; exact hB3.cell hv) ⟨rfl, hX⟩

theorem sm_ng {c : Cl} (h : Sm c) : Sm (ngC c) := by unfold Sm at *; unfold ngC; simp only; omega
theorem sm_0 : Sm c0 := by unfold Sm c0; simp only; omega
theorem sm_way {v : Cl} (h : v ∈ ways) : Sm v := by have := way_one.1 h; unfold Sm; omega
theorem sm_pt {c : Cl} (h : Pt c) : Sm c := by unfold Pt at h; unfold Sm; omega
theorem sub_any (a b : Cl) (w : World) (ha : Sm a) (hb : Sm b) :
    Calls Try.prog 29 #[.agg (ccell a).toArray, .agg (ccell b).toArray] w fun e w' => e = .returned (.agg (ccell (csub a b)).toArray) ∧ Ext w w' := by
  refine calls_act Try.func29 rfl Try.ntmps29 rfl rfl ?_
  show Code.wp _ _ _ (act 18 [(0, true, .agg (ccell a).toArray), (1, true, .agg (ccell b).toArray)] _) _
  have hX : Ext w w := Ext.rfl' w
  refine wp_seq ?_
  refine wp_region_lit ?_
  refine s_box rfl ?_
  intro g1 u1 hu1 hB1 hg1 hs1
  replace hB1 : Blk u1 g1 36 (ccell a) := hB1
  have ge_g1 : w.heap.size ≤ g1 := by have := hX.size; omega
  replace hX := hX.comp hu1
  refine s_box rfl ?_
  intro g2 u2 hu2 hB2 hg2 hs2
  replace hB2 : Blk u2 g2 36 (ccell b) := hB2
  have lt_g1_g2 : g1 < g2 := by have := hB1.lt; omega
  have ge_g2 : w.heap.size ≤ g2 := by have := hX.size; omega
  replace hX := hX.comp hu2
  replace hB1 := hB1.ext hu2
  refine s_alloc zeTry_36 ?_
  intro g3 u3 hu3 hB3 hg3 hs3
  have lt_g1_g3 : g1 < g3 := by have := hB1.lt; omega
  have lt_g2_g3 : g2 < g3 := by have := hB2.lt; omega
  have ge_g3 : w.heap.size ≤ g3 := by have := hX.size; omega
  replace hX := hX.comp hu3
  replace hB1 := hB1.ext hu3
  replace hB2 := hB2.ext hu3
  refine s_nil ?_
  refine then_normal ?_
  refine wp_seq ?_
  refine wp_seq ?_
  refine region_q ?_
  refine q_look (look_loadN Try.underlying36 rfl szTry_36 rfl rfl rfl (ext_cell_n hB1)) ?_
  refine q_call (vs := [_, _]) enTry_42 ⟨⟨_, rfl, rfl⟩, ⟨_, rfl, rfl⟩, trivial⟩ (fun wc hw => cext hw (within_any a 1099511627776 wc (by omega) (by unfold Sm at ha; omega))) ?_
  refine q_look (look_not rfl rfl) ?_
  refine q_look (look_move rfl rfl) ?_
  refine q_lookg rfl rfl rfl (fun hq => look_loadN Try.underlying36 rfl szTry_36 rfl rfl rfl (ext_cell_n hB2)) ?_
  refine q_callg (vs := [_, _]) rfl rfl rfl enTry_42 (fun hq => ⟨⟨_, rfl, hq⟩, ⟨_, rfl, rfl⟩, trivial⟩) (fun hq wc hw => cext hw (within_any b 1099511627776 wc (by omega) (by unfold Sm at hb; omega))) ?_
  refine q_lookg rfl rfl rfl (fun hq => look_not rfl hq) ?_
  refine q_look (look_or rfl rfl rfl rfl) ?_
  refine q_nil ?_
  intro w1 hw1
  replace hX := hX.comp hw1
  replace hB1 := hB1.ext hw1
  replace hB2 := hB2.ext hw1
  replace hB3 := hB3.ext hw1
  refine then_normal ?_
  refine cond_false rfl rfl ?_
  refine wp_skip ?_
  refine then_normal ?_
  refine wp_seq ?_
  refine region_hl (fun W => Blk W g1 36 (ccell a) ∧ Blk W g2 36 (ccell b)) [4] (tl := [_]) rfl [(0, true), (1, true), (2, false), (3, false)] mixed (by kernel_rfl) rfl (by kernel_rfl) (by repeat (first | exact pk_body | refine pk_then ?_ | refine pk_block ?_))  ?_
  intro u4 hR4
  replace hX := hX.comp hR4
  replace hB1 := hB1.ext hR4
  replace hB2 := hB2.ext hR4
  replace hB3 := hB3.ext hR4
  refine ⟨⟨hB1, hB2⟩, ?_⟩
  refine h_look rfl (look_loadN Try.underlying36 rfl szTry_36 rfl rfl rfl (fun w' hS j v hv => by rw [Nat.zero_add]; exact (hS.1).cell hv)) ?_
  refine h_look rfl (look_loadN Try.underlying36 rfl szTry_36 rfl rfl rfl (fun w' hS j v hv => by rw [Nat.zero_add]; exact (hS.2).cell hv)) ?_
  refine h_seq rfl ?_ ⟨hB1, hB2⟩
  refine s_call (vs := [_]) enTry_44 ⟨⟨_, rfl, rfl⟩, trivial⟩ (vopp_any b _ hb) ?_
  rintro _ u5 ⟨rfl, hc5⟩
  refine ⟨_, rfl, ?_⟩
  replace hX := hX.comp hc5
  replace hB1 := hB1.ext hc5
  replace hB2 := hB2.ext hc5
  replace hB3 := hB3.ext hc5
  refine s_nil ?_
  refine then_normal ?_
  refine ⟨⟨hB1, hB2⟩, ?_⟩
  refine h_seq rfl ?_ ⟨hB1, hB2⟩
  refine s_call (vs := [_, _]) enTry_43 ⟨⟨_, rfl, rfl⟩, ⟨_, rfl, rfl⟩, trivial⟩ (plus_any a (ngC b) _ ha (sm_ng hb)) ?_
  rintro _ u6 ⟨rfl, hc6⟩
  refine ⟨_, rfl, ?_⟩
  replace hX := hX.comp hc6
  replace hB1 := hB1.ext hc6
  replace hB2 := hB2.ext hc6
  replace hB3 := hB3.ext hc6
  refine s_nil ?_
  refine then_normal ?_
  refine ⟨⟨hB1, hB2⟩, ?_⟩
  refine h_nil ?_
  refine then_wpl ?_
  refine s_store szTry_36 rfl (by simp [ccell, gcell, itcell, rcell, tcell, icell, Value.cells, Value.oneCell']) rfl rfl hB3 rfl ?_
  intro u7 hk7 hT7
  replace hT7 : Blk u7 g3 36 (ccell (cadd a (ngC b))) := hT7
  replace hX := hX.kp hk7 (by omega)
  replace hB1 := hB1.kp hk7 (by omega)
  replace hB2 := hB2.kp hk7 (by omega)
  clear hB3
  have hB3 := hT7
  refine s_nil ?_
  rw [cadd_ng] at hB3
  refine then_normal ?_
  refine wp_ret ?_
  exact resC Try.results29 Try.underlying36 rfl szTry_36 rfl rfl (fun j v hv => by rw [Nat.zero_add]; exact hB3.cell hv) ⟨rfl, hX⟩

theorem sign_any (n : Int) (w : World)  :
    Calls Try.prog 45 #[.int .i64 n] w fun e w' => e = .returned (.int .i64 (sgI n)) ∧ Ext w w' := by
  refine calls_act Try.func45 rfl Try.ntmps45 rfl rfl ?_
  show Code.wp _ _ _ (act 6 [(0, true, .int .i64 n)] _) _
  have hX : Ext w w := Ext.rfl' w
  refine wp_seq ?_
  refine region_s ?_
  refine q_look (look_assign rfl rfl) ?_
  refine q_nil ?_
  rintro _ rfl
  refine then_normal ?_
  refine wp_seq ?_
  refine region_s ?_
  refine q_look (look_move rfl rfl) ?_
  refine q_look (look_max2 rfl rfl rfl rfl) ?_
  refine q_look (look_min2 rfl rfl rfl rfl) ?_
  refine q_look (look_assign rfl rfl) ?_
  refine q_nil ?_
  rintro _ rfl
  refine then_normal ?_
  refine wp_ret ?_
  exact res1 Try.results45 rfl ⟨rfl, hX⟩

theorem popp_any (u : Cl) (w : World) (hu : Sm u) :
    Calls Try.prog 31 #[.agg (ccell u).toArray] w fun e w' => e = .returned (.agg (ccell (ngC u)).toArray) ∧ Ext w w' := by
  refine calls_act Try.func31 rfl Try.ntmps31 rfl rfl ?_
  show Code.wp _ _ _ (act 6 [(0, true, .agg (ccell u).toArray)] _) _
  have hX : Ext w w := Ext.rfl' w
  refine wp_seq ?_
  refine wp_region_lit ?_
  refine s_box rfl ?_
  intro g1 u1 hu1 hB1 hg1 hs1
  replace hB1 : Blk u1 g1 36 (ccell u) := hB1
  have ge_g1 : w.heap.size ≤ g1 := by have := hX.size; omega
  replace hX := hX.comp hu1
  refine s_alloc zeTry_36 ?_
  intro g2 u2 hu2 hB2 hg2 hs2
  have lt_g1_g2 : g1 < g2 := by have := hB1.lt; omega
  have ge_g2 : w.heap.size ≤ g2 := by have := hX.size; omega
  replace hX := hX.comp hu2
  replace hB1 := hB1.ext hu2
  refine s_nil ?_
  refine then_normal ?_
  refine wp_seq ?_
  refine wp_region_lit ?_
  refine s_look (look_build (pl := [(0, 1), (1, 1), (2, 1)]) (parts := []) (vs := []) (cells := ccell c0) Try.underlying36 zeTry_36 (by kernel_rfl) trivial rfl (by kernel_rfl)) ?_
  refine s_look (look_loadN Try.underlying36 rfl szTry_36 rfl rfl rfl (eqc_n hB1)) ?_
  refine s_call (vs := [_, _]) enTry_29 ⟨⟨_, rfl, rfl⟩, ⟨_, rfl, rfl⟩, trivial⟩ (sub_any c0 u _ sm_0 hu) ?_
  rintro _ u3 ⟨rfl, hc3⟩
  refine ⟨_, rfl, ?_⟩
  replace hX := hX.comp hc3
  replace hB1 := hB1.ext hc3
  replace hB2 := hB2.ext hc3
  refine s_store szTry_36 rfl (by simp [ccell, gcell, itcell, rcell, tcell, icell, Value.cells, Value.oneCell']) rfl rfl hB2 rfl ?_
  intro u4 hk4 hT4
  replace hT4 : Blk u4 g2 36 (ccell (csub c0 u)) := hT4
  replace hX := hX.kp hk4 (by omega)
  replace hB1 := hB1.kp hk4 (by omega)
  clear hB2
  have hB2 := hT4
  refine s_nil ?_
  rw [csub_z] at hB2
  refine then_normal ?_
  refine wp_ret ?_
  exact resC Try.results31 Try.underlying36 rfl szTry_36 rfl rfl (fun j v hv => by rw [Nat.zero_add]; exact hB2.cell hv) ⟨rfl, hX⟩

theorem direction_any (a b v : Cl) (s : Int) (w : World) (ha : Pt a) (hb : Pt b) (hs : 1 ≤ s) (hv : v ∈ ways) (hd : csub b a = mulC s v) :
    Calls Try.prog 30 #[.agg (ccell a).toArray, .agg (ccell b).toArray] w fun e w' => e = .returned (.tuple #[.agg (ccell v).toArray, .bool true]) ∧ Ext w w' := by
  refine calls_act Try.func30 rfl Try.ntmps30 rfl rfl ?_
  show Code.wp _ _ _ (act 40 [(0, true, .agg (ccell a).toArray), (1, true, .agg (ccell b).toArray)] _) _
  have hX : Ext w w := Ext.rfl' w
  refine wp_seq ?_
  refine wp_region_lit ?_
  refine s_box rfl ?_
  intro g1 u1 hu1 hB1 hg1 hs1
  replace hB1 : Blk u1 g1 36 (ccell a) := hB1
  have ge_g1 : w.heap.size ≤ g1 := by have := hX.size; omega
  replace hX := hX.comp hu1
  refine s_box rfl ?_
  intro g2 u2 hu2 hB2 hg2 hs2
  replace hB2 : Blk u2 g2 36 (ccell b) := hB2
  have lt_g1_g2 : g1 < g2 := by have := hB1.lt; omega
  have ge_g2 : w.heap.size ≤ g2 := by have := hX.size; omega
  replace hX := hX.comp hu2
  replace hB1 := hB1.ext hu2
  refine s_alloc zeTry_36 ?_
  intro g3 u3 hu3 hB3 hg3 hs3
  have lt_g1_g3 : g1 < g3 := by have := hB1.lt; omega
  have lt_g2_g3 : g2 < g3 := by have := hB2.lt; omega
  have ge_g3 : w.heap.size ≤ g3 := by have := hX.size; omega
  replace hX := hX.comp hu3
  replace hB1 := hB1.ext hu3
  replace hB2 := hB2.ext hu3
  refine s_look (look_assign rfl rfl) ?_
  refine s_nil ?_
  refine then_normal ?_
  refine wp_seq ?_
  refine wp_region_lit ?_
  refine s_look (look_loadN Try.underlying36 rfl szTry_36 rfl rfl rfl (eqc_n hB2)) ?_
  refine s_look (look_loadN Try.underlying36 rfl szTry_36 rfl rfl rfl (eqc_n hB1)) ?_
  refine s_call (vs := [_, _]) enTry_29 ⟨⟨_, rfl, rfl⟩, ⟨_, rfl, rfl⟩, trivial⟩ (sub_any b a _ (sm_pt hb) (sm_pt ha)) ?_
  rintro _ u4 ⟨rfl, hc4⟩
  refine ⟨_, rfl, ?_⟩
  replace hX := hX.comp hc4
  replace hB1 := hB1.ext hc4
  replace hB2 := hB2.ext hc4
  replace hB3 := hB3.ext hc4
  refine s_alloc zeTry_36 ?_
  intro g5 u5 hu5 hB5 hg5 hs5
  have lt_g1_g5 : g1 < g5 := by have := hB1.lt; omega
  have lt_g2_g5 : g2 < g5 := by have := hB2.lt; omega
  have lt_g3_g5 : g3 < g5 := by have := hB3.lt; omega
  have ge_g5 : w.heap.size ≤ g5 := by have := hX.size; omega
  replace hX := hX.comp hu5
  replace hB1 := hB1.ext hu5
  replace hB2 := hB2.ext hu5
  replace hB3 := hB3.ext hu5
  refine s_store szTry_36 rfl (by simp [ccell, gcell, itcell, rcell, tcell, icell, Value.cells, Value.oneCell']) rfl rfl hB5 rfl ?_
  intro u6 hk6 hT6
  replace hT6 : Blk u6 g5 36 (ccell (csub b a)) := hT6
  replace hX := hX.kp hk6 (by omega)
  replace hB1 := hB1.kp hk6 (by omega)
  replace hB2 := hB2.kp hk6 (by omega)
  replace hB3 := hB3.kp hk6 (by omega)
  clear hB5
  have hB5 := hT6
  refine s_nil ?_
  rw [hd] at hB5
  refine then_normal ?_
  refine seq_cut (ds := []) (n := 40) (fun (g7 : Nat) => [(4, .pointer (some ⟨g3, 0, none⟩)), (7, .pointer (some ⟨g7, 0, none⟩))]) (fun g7 w' => (Ext w w') ∧ (Blk w' g3 36 (ccell c0)) ∧ (Blk w' g7 36 (ccell v)) ∧ (g3 < g7)) ?_ ?_
  · refine region_t (fun W => Blk W g5 36 (ccell (mulC s v))) (.eager 0 (.eager 1 (.eager 3 (.eager 4 (.eager 6 (.eager 7 (.fork 2 10 (.fork 5 10 (.fork 8 10 (.eager 9 (.alone 10 (.alone 11 .nil))) (.alone 8 (.eager 9 (.alone 11 .nil)))) (.alone 5 (.alone 8 (.eager 9 (.alone 11 .nil))))) (.alone 2 (.alone 5 (.alone 8 (.eager 9 (.alone 11 .nil)))))))))))) mixed (by kernel_rfl) rfl (by kernel_rfl) (by repeat (first | exact pk_body | refine pk_then ?_ | refine pk_block ?_))  ?_
    intro u7 hR7
    replace hX := hX.comp hR7
    replace hB1 := hB1.ext hR7
    replace hB2 := hB2.ext hR7
    replace hB3 := hB3.ext hR7
    replace hB5 := hB5.ext hR7
    refine ⟨hB5, ?_⟩
    refine t_look rfl (look_fieldAddr Try.underlying36 rfl (fun _ _ => rfl) rfl rfl) ?_
    refine t_look rfl (look_load1 Try.underlying3 rfl rfl rfl (fun w' hS => (hS).cell rfl)) ?_
    refine t_look rfl (look_fieldAddr Try.underlying36 rfl (fun _ _ => rfl) rfl rfl) ?_
    refine t_look rfl (look_load1 Try.underlying3 rfl rfl rfl (fun w' hS => (hS).cell rfl)) ?_
    refine t_look rfl (look_fieldAddr Try.underlying36 rfl (fun _ _ => rfl) rfl rfl) ?_
    refine t_look rfl (look_load1 Try.underlying3 rfl rfl rfl (fun w' hS => (hS).cell rfl)) ?_
    refine t_fork rfl rfl ?_ ?_
    · refine s_call (vs := [_]) enTry_45 ⟨⟨_, rfl, rfl⟩, trivial⟩ (sign_any (mulC s v).x _) ?_
      rintro _ u8 ⟨rfl, hc8⟩
      refine ⟨_, rfl, ?_⟩
      replace hX := hX.comp hc8
      replace hB1 := hB1.ext hc8
      replace hB2 := hB2.ext hc8
      replace hB3 := hB3.ext hc8
      replace hB5 := hB5.ext hc8
      refine s_nil ?_
      refine then_normal ?_
      refine ⟨hB5, ?_⟩
      refine t_fork rfl rfl ?_ ?_
      · refine s_call (vs := [_]) enTry_45 ⟨⟨_, rfl, rfl⟩, trivial⟩ (sign_any (mulC s v).y _) ?_
        rintro _ u9 ⟨rfl, hc9⟩
        refine ⟨_, rfl, ?_⟩
        replace hX := hX.comp hc9
        replace hB1 := hB1.ext hc9
        replace hB2 := hB2.ext hc9
        replace hB3 := hB3.ext hc9
        replace hB5 := hB5.ext hc9
        refine s_nil ?_
        refine then_normal ?_
        refine ⟨hB5, ?_⟩
        refine t_fork rfl rfl ?_ ?_
        · refine s_call (vs := [_]) enTry_45 ⟨⟨_, rfl, rfl⟩, trivial⟩ (sign_any (mulC s v).z _) ?_
          rintro _ u10 ⟨rfl, hc10⟩
          refine ⟨_, rfl, ?_⟩
          replace hX := hX.comp hc10
          replace hB1 := hB1.ext hc10
          replace hB2 := hB2.ext hc10
          replace hB3 := hB3.ext hc10
          replace hB5 := hB5.ext hc10
          refine s_nil ?_
          refine then_normal ?_
          refine ⟨hB5, ?_⟩
          refine t_look rfl (look_build (pl := [(0, 1), (1, 1), (2, 1)]) (parts := [(0, .tmp 13), (1, .tmp 16), (2, .tmp 19)]) (vs := [(0, .int .i64 (sgI (mulC s v).x)), (1, .int .i64 (sgI (mulC s v).y)), (2, .int .i64 (sgI (mulC s v).z))]) (cells := ccell (sgC (mulC s v))) Try.underlying36 zeTry_36 (by kernel_rfl) ⟨⟨_, rfl, rfl⟩, ⟨_, rfl, rfl⟩, ⟨_, rfl, rfl⟩, trivial⟩ rfl (by kernel_rfl)) ?_
          refine t_seq rfl ?_
          refine s_alloc zeTry_36 ?_
          intro g11 u11 hu11 hB11 hg11 hs11
          have lt_g1_g11 : g1 < g11 := by have := hB1.lt; omega
          have lt_g2_g11 : g2 < g11 := by have := hB2.lt; omega
          have lt_g3_g11 : g3 < g11 := by have := hB3.lt; omega
          have lt_g5_g11 : g5 < g11 := by have := hB5.lt; omega
          have ge_g11 : w.heap.size ≤ g11 := by have := hX.size; omega
          replace hX := hX.comp hu11
          replace hB1 := hB1.ext hu11
          replace hB2 := hB2.ext hu11
          replace hB3 := hB3.ext hu11
          replace hB5 := hB5.ext hu11
          refine s_nil ?_
          refine then_normal ?_
          refine ⟨hB5, ?_⟩
          refine t_seq rfl ?_
          refine s_store szTry_36 rfl (by simp [ccell, gcell, itcell, rcell, tcell, icell, Value.cells, Value.oneCell']) rfl rfl hB11 rfl ?_
          intro u12 hk12 hT12
          replace hT12 : Blk u12 g11 36 (ccell (sgC (mulC s v))) := hT12
          replace hX := hX.kp hk12 (by omega)
          replace hB1 := hB1.kp hk12 (by omega)
          replace hB2 := hB2.kp hk12 (by omega)
          replace hB3 := hB3.kp hk12 (by omega)
          replace hB5 := hB5.kp hk12 (by omega)
          clear hB11
          have hB11 := hT12
          refine s_nil ?_
          refine then_normal ?_
          refine ⟨hB5, ?_⟩
          refine t_nil ?_
          exact cut_end g11 ⟨rfl, rfl, trivial⟩ ⟨hX, hB3, (sg_way hs hv ▸ hB11), (by omega)⟩
        · refine s_alloc zeTry_36 ?_
          intro g13 u13 hu13 hB13 hg13 hs13
          have lt_g1_g13 : g1 < g13 := by have := hB1.lt; omega
          have lt_g2_g13 : g2 < g13 := by have := hB2.lt; omega
          have lt_g3_g13 : g3 < g13 := by have := hB3.lt; omega
          have lt_g5_g13 : g5 < g13 := by have := hB5.lt; omega
          have ge_g13 : w.heap.size ≤ g13 := by have := hX.size; omega
          replace hX := hX.comp hu13
          replace hB1 := hB1.ext hu13
          replace hB2 := hB2.ext hu13
          replace hB3 := hB3.ext hu13
          replace hB5 := hB5.ext hu13
          refine s_nil ?_
          refine then_normal ?_
          refine ⟨hB5, ?_⟩
          refine t_seq rfl ?_
          refine s_call (vs := [_]) enTry_45 ⟨⟨_, rfl, rfl⟩, trivial⟩ (sign_any (mulC s v).z _) ?_
          rintro _ u14 ⟨rfl, hc14⟩
          refine ⟨_, rfl, ?_⟩
          replace hX := hX.comp hc14
          replace hB1 := hB1.ext hc14
          replace hB2 := hB2.ext hc14
          replace hB3 := hB3.ext hc14
          replace hB5 := hB5.ext hc14
          replace hB13 := hB13.ext hc14
          refine s_nil ?_
          refine then_normal ?_
          refine ⟨hB5, ?_⟩
          refine t_look rfl (look_build (pl := [(0, 1), (1, 1), (2, 1)]) (parts := [(0, .tmp 13), (1, .tmp 16), (2, .tmp 19)]) (vs := [(0, .int .i64 (sgI (mulC s v).x)), (1, .int .i64 (sgI (mulC s v).y)), (2, .int .i64 (sgI (mulC s v).z))]) (cells := ccell (sgC (mulC s v))) Try.underlying36 zeTry_36 (by kernel_rfl) ⟨⟨_, rfl, rfl⟩, ⟨_, rfl, rfl⟩, ⟨_, rfl, rfl⟩, trivial⟩ rfl (by kernel_rfl)) ?_
          refine t_seq rfl ?_
          refine s_store szTry_36 rfl (by simp [ccell, gcell, itcell, rcell, tcell, icell, Value.cells, Value.oneCell']) rfl rfl hB13 rfl ?_
          intro u15 hk15 hT15
          replace hT15 : Blk u15 g13 36 (ccell (sgC (mulC s v))) := hT15
          replace hX := hX.kp hk15 (by omega)
          replace hB1 := hB1.kp hk15 (by omega)
          replace hB2 := hB2.kp hk15 (by omega)
          replace hB3 := hB3.kp hk15 (by omega)
          replace hB5 := hB5.kp hk15 (by omega)
          clear hB13
          have hB13 := hT15
          refine s_nil ?_
          refine then_normal ?_
          refine ⟨hB5, ?_⟩
          refine t_nil ?_
          exact cut_end g13 ⟨rfl, rfl, trivial⟩ ⟨hX, hB3, (sg_way hs hv ▸ hB13), (by omega)⟩
      · refine s_alloc zeTry_36 ?_
        intro g16 u16 hu16 hB16 hg16 hs16
        have lt_g1_g16 : g1 < g16 := by have := hB1.lt; omega
        have lt_g2_g16 : g2 < g16 := by have := hB2.lt; omega
        have lt_g3_g16 : g3 < g16 := by have := hB3.lt; omega
        have lt_g5_g16 : g5 < g16 := by have := hB5.lt; omega
        have ge_g16 : w.heap.size ≤ g16 := by have := hX.size; omega
        replace hX := hX.comp hu16
        replace hB1 := hB1.ext hu16
        replace hB2 := hB2.ext hu16
        replace hB3 := hB3.ext hu16
        replace hB5 := hB5.ext hu16
        refine s_nil ?_
        refine then_normal ?_
        refine ⟨hB5, ?_⟩
        refine t_seq rfl ?_
        refine s_call (vs := [_]) enTry_45 ⟨⟨_, rfl, rfl⟩, trivial⟩ (sign_any (mulC s v).y _) ?_
        rintro _ u17 ⟨rfl, hc17⟩
        refine ⟨_, rfl, ?_⟩
        replace hX := hX.comp hc17
        replace hB1 := hB1.ext hc17
        replace hB2 := hB2.ext hc17
        replace hB3 := hB3.ext hc17
        replace hB5 := hB5.ext hc17
        replace hB16 := hB16.ext hc17
        refine s_nil ?_
        refine then_normal ?_
        refine ⟨hB5, ?_⟩
        refine t_seq rfl ?_
        refine s_call (vs := [_]) enTry_45 ⟨⟨_, rfl, rfl⟩, trivial⟩ (sign_any (mulC s v).z _) ?_
        rintro _ u18 ⟨rfl, hc18⟩
        refine ⟨_, rfl, ?_⟩
        replace hX := hX.comp hc18
        replace hB1 := hB1.ext hc18
        replace hB2 := hB2.ext hc18
        replace hB3 := hB3.ext hc18
        replace hB5 := hB5.ext hc18
        replace hB16 := hB16.ext hc18
        refine s_nil ?_
        refine then_normal ?_
        refine ⟨hB5, ?_⟩
        refine t_look rfl (look_build (pl := [(0, 1), (1, 1), (2, 1)]) (parts := [(0, .tmp 13), (1, .tmp 16), (2, .tmp 19)]) (vs := [(0, .int .i64 (sgI (mulC s v).x)), (1, .int .i64 (sgI (mulC s v).y)), (2, .int .i64 (sgI (mulC s v).z))]) (cells := ccell (sgC (mulC s v))) Try.underlying36 zeTry_36 (by kernel_rfl) ⟨⟨_, rfl, rfl⟩, ⟨_, rfl, rfl⟩, ⟨_, rfl, rfl⟩, trivial⟩ rfl (by kernel_rfl)) ?_
        refine t_seq rfl ?_
        refine s_store szTry_36 rfl (by simp [ccell, gcell, itcell, rcell, tcell, icell, Value.cells, Value.oneCell']) rfl rfl hB16 rfl ?_
        intro u19 hk19 hT19
        replace hT19 : Blk u19 g16 36 (ccell (sgC (mulC s v))) := hT19
        replace hX := hX.kp hk19 (by omega)
        replace hB1 := hB1.kp hk19 (by omega)
        replace hB2 := hB2.kp hk19 (by omega)
        replace hB3 := hB3.kp hk19 (by omega)
        replace hB5 := hB5.kp hk19 (by omega)
        clear hB16
        have hB16 := hT19
        refine s_nil ?_
        refine then_normal ?_
        refine ⟨hB5, ?_⟩
        refine t_nil ?_
        exact cut_end g16 ⟨rfl, rfl, trivial⟩ ⟨hX, hB3, (sg_way hs hv ▸ hB16), (by omega)⟩
    · refine s_alloc zeTry_36 ?_
      intro g20 u20 hu20 hB20 hg20 hs20
      have lt_g1_g20 : g1 < g20 := by have := hB1.lt; omega
      have lt_g2_g20 : g2 < g20 := by have := hB2.lt; omega
      have lt_g3_g20 : g3 < g20 := by have := hB3.lt; omega
      have lt_g5_g20 : g5 < g20 := by have := hB5.lt; omega
      have ge_g20 : w.heap.size ≤ g20 := by have := hX.size; omega
      replace hX := hX.comp hu20
      replace hB1 := hB1.ext hu20
      replace hB2 := hB2.ext hu20
      replace hB3 := hB3.ext hu20
      replace hB5 := hB5.ext hu20
      refine s_nil ?_
      refine then_normal ?_
      refine ⟨hB5, ?_⟩
      refine t_seq rfl ?_
      refine s_call (vs := [_]) enTry_45 ⟨⟨_, rfl, rfl⟩, trivial⟩ (sign_any (mulC s v).x _) ?_
      rintro _ u21 ⟨rfl, hc21⟩
      refine ⟨_, rfl, ?_⟩
      replace hX := hX.comp hc21
      replace hB1 := hB1.ext hc21
      replace hB2 := hB2.ext hc21
      replace hB3 := hB3.ext hc21
      replace hB5 := hB5.ext hc21
      replace hB20 := hB20.ext hc21
      refine s_nil ?_
      refine then_normal ?_
      refine ⟨hB5, ?_⟩
      refine t_seq rfl ?_
      refine s_call (vs := [_]) enTry_45 ⟨⟨_, rfl, rfl⟩, trivial⟩ (sign_any (mulC s v).y _) ?_
      rintro _ u22 ⟨rfl, hc22⟩
      refine ⟨_, rfl, ?_⟩
      replace hX := hX.comp hc22
      replace hB1 := hB1.ext hc22
      replace hB2 := hB2.ext hc22
      replace hB3 := hB3.ext hc22
      replace hB5 := hB5.ext hc22
      replace hB20 := hB20.ext hc22
      refine s_nil ?_
      refine then_normal ?_
      refine ⟨hB5, ?_⟩
      refine t_seq rfl ?_
      refine s_call (vs := [_]) enTry_45 ⟨⟨_, rfl, rfl⟩, trivial⟩ (sign_any (mulC s v).z _) ?_
      rintro _ u23 ⟨rfl, hc23⟩
      refine ⟨_, rfl, ?_⟩
      replace hX := hX.comp hc23
      replace hB1 := hB1.ext hc23
      replace hB2 := hB2.ext hc23
      replace hB3 := hB3.ext hc23
      replace hB5 := hB5.ext hc23
      replace hB20 := hB20.ext hc23
      refine s_nil ?_
      refine then_normal ?_
      refine ⟨hB5, ?_⟩
      refine t_look rfl (look_build (pl := [(0, 1), (1, 1), (2, 1)]) (parts := [(0, .tmp 13), (1, .tmp 16), (2, .tmp 19)]) (vs := [(0, .int .i64 (sgI (mulC s v).x)), (1, .int .i64 (sgI (mulC s v).y)), (2, .int .i64 (sgI (mulC s v).z))]) (cells := ccell (sgC (mulC s v))) Try.underlying36 zeTry_36 (by kernel_rfl) ⟨⟨_, rfl, rfl⟩, ⟨_, rfl, rfl⟩, ⟨_, rfl, rfl⟩, trivial⟩ rfl (by kernel_rfl)) ?_
      refine t_seq rfl ?_
      refine s_store szTry_36 rfl (by simp [ccell, gcell, itcell, rcell, tcell, icell, Value.cells, Value.oneCell']) rfl rfl hB20 rfl ?_
      intro u24 hk24 hT24
      replace hT24 : Blk u24 g20 36 (ccell (sgC (mulC s v))) := hT24
      replace hX := hX.kp hk24 (by omega)
      replace hB1 := hB1.kp hk24 (by omega)
      replace hB2 := hB2.kp hk24 (by omega)
      replace hB3 := hB3.kp hk24 (by omega)
      replace hB5 := hB5.kp hk24 (by omega)
      clear hB20
      have hB20 := hT24
      refine s_nil ?_
      refine then_normal ?_
      refine ⟨hB5, ?_⟩
      refine t_nil ?_
      exact cut_end g20 ⟨rfl, rfl, trivial⟩ ⟨hX, hB3, (sg_way hs hv ▸ hB20), (by omega)⟩
  · rintro g7 σ wr hF
    obtain ⟨hX, hB3, hB7, hne⟩ : (Ext w wr) ∧ (Blk wr g3 36 (ccell c0)) ∧ (Blk wr g7 36 (ccell v)) ∧ (g3 < g7) := hF
    show Code.wp _ _ _ (act 40 [(4, true, .pointer (some ⟨g3, 0, none⟩)), (7, true, .pointer (some ⟨g7, 0, none⟩))] _) _
    refine wp_seq ?_
    have hw1 := way_one.1 hv
    have hxx : v.x * v.x = 0 ∨ v.x * v.x = 1 := by rcases hw1 with h | h | h <;> obtain ⟨h1, h2, h3⟩ := h <;> first | (rw [h1]; simp) | (rcases h3 with h3 | h3 <;> rw [h3] <;> simp)
    have hyy : v.y * v.y = 0 ∨ v.y * v.y = 1 := by rcases hw1 with h | h | h <;> obtain ⟨h1, h2, h3⟩ := h <;> first | (rw [h2]; simp) | (rw [h1]; simp) | (rcases h3 with h3 | h3 <;> rw [h3] <;> simp)
    have hzz : v.z * v.z = 0 ∨ v.z * v.z = 1 := by rcases hw1 with h | h | h <;> obtain ⟨h1, h2, h3⟩ := h <;> first | (rw [h2]; simp) | (rcases h3 with h3 | h3 <;> rw [h3] <;> simp)
    refine region_h (fun W => Blk W g7 36 (ccell v)) [(0, true), (1, true), (2, true), (3, true), (4, true), (5, true), (6, true), (7, true), (8, true), (9, true), (10, true), (11, true), (12, true), (13, true), (14, true), (15, true), (16, true), (17, true), (18, true), (19, false), (20, true)] mixed (by kernel_rfl) rfl (by kernel_rfl) (by repeat (first | exact pk_body | refine pk_then ?_ | refine pk_block ?_))  ?_
    intro u25 hR25
    replace hX := hX.comp hR25
    replace hB3 := hB3.ext hR25
    replace hB7 := hB7.ext hR25
    refine ⟨hB7, ?_⟩
    refine h_look rfl (look_loadN Try.underlying36 rfl szTry_36 rfl rfl rfl (fun w' hS j v hv => by rw [Nat.zero_add]; exact (hS).cell hv)) ?_
    refine h_look rfl (look_fieldAddr Try.underlying36 rfl (fun _ _ => rfl) rfl rfl) ?_
    refine h_look rfl (look_load1 Try.underlying3 rfl rfl rfl (fun w' hS => (hS).cell rfl)) ?_
    refine h_look rfl (look_fieldAddr Try.underlying36 rfl (fun _ _ => rfl) rfl rfl) ?_
    refine h_look rfl (look_load1 Try.underlying3 rfl rfl rfl (fun w' hS => (hS).cell rfl)) ?_
    refine h_look rfl (look_mul rfl rfl rfl rfl (by unfold I64; omega)) ?_
    refine h_look rfl (look_fieldAddr Try.underlying36 rfl (fun _ _ => rfl) rfl rfl) ?_
    refine h_look rfl (look_load1 Try.underlying3 rfl rfl rfl (fun w' hS => (hS).cell rfl)) ?_
    refine h_look rfl (look_fieldAddr Try.underlying36 rfl (fun _ _ => rfl) rfl rfl) ?_
    refine h_look rfl (look_load1 Try.underlying3 rfl rfl rfl (fun w' hS => (hS).cell rfl)) ?_
    refine h_look rfl (look_mul rfl rfl rfl rfl (by unfold I64; omega)) ?_
    refine h_look rfl (look_add rfl rfl rfl rfl (by unfold I64; omega)) ?_
    refine h_look rfl (look_fieldAddr Try.underlying36 rfl (fun _ _ => rfl) rfl rfl) ?_
    refine h_look rfl (look_load1 Try.underlying3 rfl rfl rfl (fun w' hS => (hS).cell rfl)) ?_
    refine h_look rfl (look_fieldAddr Try.underlying36 rfl (fun _ _ => rfl) rfl rfl) ?_
    refine h_look rfl (look_load1 Try.underlying3 rfl rfl rfl (fun w' hS => (hS).cell rfl)) ?_
    refine h_look rfl (look_mul rfl rfl rfl rfl (by unfold I64; omega)) ?_
    refine h_look rfl (look_add rfl rfl rfl rfl (by unfold I64; omega)) ?_
    refine h_look rfl (Look.as (look_eql rfl rfl rfl rfl) (v' := .bool true) (by rw [decide_eq_true (way_nrm hv)])) ?_
    refine h_seq rfl ?_ hB7
    refine s_store szTry_36 rfl (by simp [ccell, gcell, itcell, rcell, tcell, icell, Value.cells, Value.oneCell']) rfl rfl hB3 rfl ?_
    intro u26 hk26 hT26
    replace hT26 : Blk u26 g3 36 (ccell v) := hT26
    replace hX := hX.kp hk26 (by omega)
    replace hB7 := hB7.kp hk26 (by omega)
    clear hB3
    have hB3 := hT26
    refine s_nil ?_
    refine then_normal ?_
    refine ⟨hB7, ?_⟩
    refine h_look rfl (look_assign rfl rfl) ?_
    refine h_nil ?_
    refine then_normal ?_
    refine wp_ret ?_
    exact resCT Try.results30 Try.underlying36 rfl szTry_36 rfl rfl (fun j v hv => by rw [Nat.zero_add]; exact hB3.cell hv) rfl ⟨rfl, hX⟩

theorem far_any (c : Cl) (w : World) (hc : Pt c) :
    Calls Try.prog 28 #[.agg (ccell c).toArray] w fun e w' => e = .returned (.bool (false)) ∧ Ext w w' := by
  refine calls_act Try.func28 rfl Try.ntmps28 rfl rfl ?_
  show Code.wp _ _ _ (act 21 [(0, true, .agg (ccell c).toArray)] _) _
  have hX : Ext w w := Ext.rfl' w
  refine wp_seq ?_
  refine wp_region_lit ?_
  refine s_box rfl ?_
  intro g1 u1 hu1 hB1 hg1 hs1
  replace hB1 : Blk u1 g1 36 (ccell c) := hB1
  have ge_g1 : w.heap.size ≤ g1 := by have := hX.size; omega
  replace hX := hX.comp hu1
  refine s_look (look_assign rfl rfl) ?_
  refine s_nil ?_
  refine then_normal ?_
  refine wp_seq ?_
  refine region_s ?_
  refine q_look (look_fieldAddr Try.underlying36 rfl (fun _ _ => rfl) rfl rfl) ?_
  refine q_look (look_load1 Try.underlying3 rfl rfl rfl (eqc (hB1.cell rfl))) ?_
  refine q_look (look_fieldAddr Try.underlying36 rfl (fun _ _ => rfl) rfl rfl) ?_
  refine q_look (look_load1 Try.underlying3 rfl rfl rfl (eqc (hB1.cell rfl))) ?_
  refine q_look (look_fieldAddr Try.underlying36 rfl (fun _ _ => rfl) rfl rfl) ?_
  refine q_look (look_load1 Try.underlying3 rfl rfl rfl (eqc (hB1.cell rfl))) ?_
  refine q_look (look_max3 rfl rfl rfl rfl rfl rfl) ?_
  refine q_look (look_gtr rfl rfl rfl rfl) ?_
  refine q_look (look_move rfl rfl) ?_
  refine q_lookg rfl rfl rfl (fun hq => look_fieldAddr Try.underlying36 rfl (fun _ _ => rfl) rfl rfl) ?_
  refine q_lookg rfl rfl rfl (fun hq => look_load1 Try.underlying3 rfl rfl hq (eqc (hB1.cell rfl))) ?_
  refine q_lookg rfl rfl rfl (fun hq => look_fieldAddr Try.underlying36 rfl (fun _ _ => rfl) rfl rfl) ?_
  refine q_lookg rfl rfl rfl (fun hq => look_load1 Try.underlying3 rfl rfl hq (eqc (hB1.cell rfl))) ?_
  refine q_lookg rfl rfl rfl (fun hq => look_fieldAddr Try.underlying36 rfl (fun _ _ => rfl) rfl rfl) ?_
  refine q_lookg rfl rfl rfl (fun hq => look_load1 Try.underlying3 rfl rfl hq (eqc (hB1.cell rfl))) ?_
  refine q_lookg rfl rfl rfl (fun hq => look_min3 rfl hq rfl hq rfl hq) ?_
  refine q_lookg rfl rfl rfl (fun hq => look_lss rfl hq rfl rfl) ?_
  refine q_look (look_or rfl rfl rfl rfl) ?_
  refine q_look (look_assign rfl rfl) ?_
  refine q_nil ?_
  rintro _ rfl
  refine then_normal ?_
  refine wp_ret ?_
  exact res1 Try.results28 rfl ⟨ret_bool (far_f (by unfold Pt at hc; omega)), hX⟩

theorem index_far (l : List Cl) (A : Option Addr) (c : Nat) (w : World) (hA : Sl ccell 3 w A l) (hla : l.length ≤ 1000) (hp : ∀ c ∈ l, Pt c) :
    Calls Try.prog 41 #[.slice A l.length c, .func (.func 28) #[] #[]] w fun e w' => e = .returned (.int .i64 (-1)) ∧ Ext w w' := by
  refine calls_act Try.func41 rfl Try.ntmps41 rfl rfl ?_
  show Code.wp _ _ _ (act 19 [(0, true, .slice A l.length c), (1, true, .func (.func 28) #[] #[])] _) _
  have hX : Ext w w := Ext.rfl' w
  refine wp_seq ?_
  refine region_s ?_
  refine q_look (look_assign rfl rfl) ?_
  refine q_nil ?_
  rintro _ rfl
  refine then_normal ?_
  refine wp_seq ?_
  refine wp_seq ?_
  refine region_s ?_
  refine q_look (look_move rfl rfl) ?_
  refine q_look (look_len_slice Try.underlying35 rfl rfl) ?_
  refine q_look (look_move rfl rfl) ?_
  refine q_nil ?_
  rintro _ rfl
  refine then_normal ?_
  refine wp_block ?_
  refine loop_act (fun (k : Nat) => [(0, .slice A l.length c), (1, .func (.func 28) #[] #[]), (7, .int .i64 (l.length : Int)), (8, .int .i64 (k : Int))]) (fun k w' => (Ext w w') ∧ (k ≤ l.length)) (fun k => l.length - k) (0) ?_ ?_ ?_
  · exact ⟨rfl, rfl, rfl, rfl, trivial⟩
  · exact ⟨hX, Nat.zero_le _⟩
  · rintro k σ wr hF
    obtain ⟨hX, hk⟩ : (Ext w wr) ∧ (k ≤ l.length) := hF
    show Code.wp _ _ _ (act 19 [(0, true, .slice A l.length c), (1, true, .func (.func 28) #[] #[]), (7, true, .int .i64 (l.length : Int)), (8, true, .int .i64 (k : Int))] _) _
    refine wp_seq ?_
    refine region_s ?_
    refine q_look (look_lss rfl rfl rfl rfl) ?_
    refine q_nil ?_
    rintro _ rfl
    refine then_normal ?_
    refine wp_seq ?_
    refine cond_split rfl (fun hc9 => ?_) (fun hc9 => ?_)
    · have hlt : k < l.length := by have := nn_t hc9; omega
      obtain ⟨x, hx⟩ := get_lt hlt
      obtain ⟨b1, o1, rfl, hr1⟩ := (hA.ext hX).at_ hlt
      refine wp_skip ?_
      refine then_normal ?_
      refine wp_seq ?_
      refine wp_block ?_
      refine wp_seq ?_
      refine region_s ?_
      refine q_look (look_move rfl rfl) ?_
      refine q_look (look_assign rfl rfl) ?_
      refine q_nil ?_
      rintro _ rfl
      refine then_normal ?_
      refine wp_seq ?_
      refine region_q ?_
      refine q_look (look_move rfl rfl) ?_
      refine q_look (look_move rfl rfl) ?_
      refine q_look (look_move rfl rfl) ?_
      refine q_look (look_indexAddr _ Try.underlying35 szTry_36 rfl rfl rfl rfl rfl (by omega)) ?_
      refine q_look (look_loadN Try.underlying36 rfl szTry_36 rfl rfl rfl (cs := ccell x) (extn (hr1 k x hx))) ?_
      refine q_callv (cap := []) (vs := [_]) (f := 28) enTry_28 rfl ⟨⟨_, rfl, rfl⟩, trivial⟩ (fun wc hw => cext hw (far_any x wc (hp x (mem_get hx)))) ?_
      refine q_nil ?_
      intro w1 hw1
      replace hX := hX.comp hw1
      refine then_normal ?_
      refine cond_false rfl rfl ?_
      refine wp_skip ?_
      refine inB_normal ?_
      refine then_normal ?_
      refine region_s ?_
      refine q_look (look_add rfl rfl rfl rfl (by unfold I64; omega)) ?_
      refine q_look (look_move rfl rfl) ?_
      refine q_nil ?_
      rintro _ rfl
      exact loop_end (k + 1) (by omega) ⟨rfl, rfl, rfl, rfl, trivial⟩ ⟨hX, by omega⟩
    · skip
      refine wp_exit ?_
      refine then_exit ?_
      refine then_exit ?_
      refine inB_exit_same ?_
      refine then_normal ?_
      refine wp_seq ?_
      refine region_s ?_
      refine q_look (look_assign rfl rfl) ?_
      refine q_nil ?_
      rintro _ rfl
      refine then_normal ?_
      refine wp_ret ?_
      exact res1 Try.results41 rfl ⟨rfl, hX⟩

theorem contains_far (l : List Cl) (A : Option Addr) (c : Nat) (w : World) (hA : Sl ccell 3 w A l) (hla : l.length ≤ 1000) (hp : ∀ c ∈ l, Pt c) :
    Calls Try.prog 27 #[.slice A l.length c, .func (.func 28) #[] #[]] w fun e w' => e = .returned (.bool (false)) ∧ Ext w w' := by
  refine calls_act Try.func27 rfl Try.ntmps27 rfl rfl ?_
  show Code.wp _ _ _ (act 9 [(0, true, .slice A l.length c), (1, true, .func (.func 28) #[] #[])] _) _
  have hX : Ext w w := Ext.rfl' w
  refine wp_seq ?_
  refine region_s ?_
  refine q_look (look_assign rfl rfl) ?_
  refine q_nil ?_
  rintro _ rfl
  refine then_normal ?_
  refine wp_seq ?_
  refine region_q ?_
  refine q_look (look_move rfl rfl) ?_
  refine q_look (look_move rfl rfl) ?_
  refine q_call (vs := [_, _]) enTry_41 ⟨⟨_, rfl, rfl⟩, ⟨_, rfl, rfl⟩, trivial⟩ (fun wc hw => cext hw (index_far l A c wc (hA.ext (hX.comp hw)) hla hp)) ?_
  refine q_look (look_geq rfl rfl rfl rfl) ?_
  refine q_look (look_assign rfl rfl) ?_
  refine q_nil ?_
  intro w1 hw1
  replace hX := hX.comp hw1
  refine then_normal ?_
  refine wp_ret ?_
  exact res1 Try.results27 rfl ⟨ret_bool rfl, hX⟩

theorem bends_any (l : List Cl) (A : Option Addr) (c : Nat) (w : World) (hla : l.length ≤ 1000) :
    Calls Try.prog 12 #[.slice A l.length c] w fun e w' => e = .returned (.int .i64 (max ((l.length : Int) - 2) 0)) ∧ Ext w w' := by
  refine calls_act Try.func12 rfl Try.ntmps12 rfl rfl ?_
  show Code.wp _ _ _ (act 7 [(0, true, .slice A l.length c)] _) _
  have hX : Ext w w := Ext.rfl' w
  refine wp_seq ?_
  refine region_s ?_
  refine q_look (look_assign rfl rfl) ?_
  refine q_nil ?_
  rintro _ rfl
  refine then_normal ?_
  refine wp_seq ?_
  refine region_s ?_
  refine q_look (look_move rfl rfl) ?_
  refine q_look (look_len_slice Try.underlying35 rfl rfl) ?_
  refine q_look (look_sub rfl rfl rfl rfl (by unfold I64; omega)) ?_
  refine q_look (look_max2 rfl rfl rfl rfl) ?_
  refine q_look (look_assign rfl rfl) ?_
  refine q_nil ?_
  rintro _ rfl
  refine then_normal ?_
  refine wp_ret ?_
  exact res1 Try.results12 rfl ⟨rfl, hX⟩

theorem legs_any (l : List Cl) (A : Option Addr) (c : Nat) (w : World) (hA : Sl ccell 3 w A l) (hla : l.length ≤ 1000) (hp : ∀ c ∈ l, Pt c) :
    Calls Try.prog 10 #[.slice A l.length c] w fun e w' => ∃ v, e = .returned v ∧ Ext w w' ∧ Core.Own icell 3 1 w.heap.size w' v (legsP l) := by
  refine calls_act Try.func10 rfl Try.ntmps10 rfl rfl ?_
  show Code.wp _ _ _ (act 47 [(0, true, .slice A l.length c)] _) _
  have hX : Ext w w := Ext.rfl' w
  refine wp_seq ?_
  refine region_s ?_
  refine q_look (look_assign rfl rfl) ?_
  refine q_nil ?_
  rintro _ rfl
  refine then_normal ?_
  refine wp_seq ?_
  refine wp_seq ?_
  refine region_q ?_
  refine q_look (look_move rfl rfl) ?_
  refine q_call (vs := [_, _]) enTry_27 ⟨⟨_, rfl, rfl⟩, ⟨_, rfl, rfl⟩, trivial⟩ (fun wc hw => cext hw (contains_far l A c wc (hA.ext (hX.comp hw)) hla hp)) ?_
  refine q_nil ?_
  intro w1 hw1
  replace hX := hX.comp hw1
  refine then_normal ?_
  refine cond_false rfl rfl ?_
  refine wp_skip ?_
  refine then_normal ?_
  refine wp_seq ?_
  refine wp_seq ?_
  refine region_s ?_
  refine q_look (look_assign rfl rfl) ?_
  refine q_nil ?_
  rintro _ rfl
  have hO := (Own.nil icell 3 1 w.heap.size w).ext hX
  refine then_normal ?_
  refine wp_block ?_
  refine loop_act (fun (ls : Nat × Value × List Int) => [(0, .slice A l.length c), (2, ls.2.1), (3, .int .i64 (ls.1 : Int))]) (fun ls w' => (Ext w w') ∧ (Core.Own icell 3 1 w.heap.size w' ls.2.1 ls.2.2) ∧ (1 ≤ ls.1) ∧ (ls.2.2 ++ legsP (l.drop (ls.1 - 1)) = legsP l) ∧ (ls.2.2.length ≤ ls.1)) (fun ls => l.length - ls.1) ((1, .slice none 0 0, [])) ?_ ?_ ?_
  · exact ⟨rfl, rfl, rfl, trivial⟩
  · exact ⟨hX, hO, Nat.le_refl _, rfl, Nat.zero_le _⟩
  · rintro ⟨i, ov, ol⟩ σ wr hF
    obtain ⟨hX, hO, hi, hf, hol⟩ : (Ext w wr) ∧ (Core.Own icell 3 1 w.heap.size wr ov ol) ∧ (1 ≤ i) ∧ (ol ++ legsP (l.drop (i - 1)) = legsP l) ∧ (ol.length ≤ i) := hF
    show Code.wp _ _ _ (act 47 [(0, true, .slice A l.length c), (2, true, ov), (3, true, .int .i64 (i : Int))] _) _
    refine wp_seq ?_
    refine wp_seq ?_
    refine region_s ?_
    refine q_look (look_move rfl rfl) ?_
    refine q_look (look_move rfl rfl) ?_
    refine q_look (look_len_slice Try.underlying35 rfl rfl) ?_
    refine q_look (look_lss rfl rfl rfl rfl) ?_
    refine q_nil ?_
    rintro _ rfl
    refine then_normal ?_
    refine cond_split rfl (fun hc10 => ?_) (fun hc10 => ?_)
    · have hlt : i < l.length := by have := nn_t hc10; omega
      obtain ⟨y, hyy⟩ := get_lt hlt
      obtain ⟨x, hxx⟩ := get_lt (show i - 1 < l.length by omega)
      have hpy := hp y (mem_get hyy)
      have hpx := hp x (mem_get hxx)
      have hpy2 := hpy
      have hpx2 := hpx
      unfold Pt at hpy2 hpx2
      obtain ⟨b1, o1, rfl, hr1⟩ := (hA.ext hX).at_ hlt
      refine wp_skip ?_
      refine then_normal ?_
      refine wp_seq ?_
      refine wp_block ?_
      refine seq_cut (ds := []) (n := 47) (fun (g4 : Nat) => [(0, .slice (some ⟨b1, o1, none⟩) l.length c), (2, ov), (3, .int .i64 (i : Int)), (4, .pointer (some ⟨g4, 0, none⟩))]) (fun g4 w' => (Ext w w') ∧ (Core.Own icell 3 1 w.heap.size w' ov ol) ∧ (Blk w' g4 36 (ccell (csub y x))) ∧ (Value.ownBlock ov ≠ some g4)) ?_ ?_
      · refine region_t (fun W => Ext w W) (.eager 0 (.eager 1 (.eager 2 (.eager 3 (.eager 4 (.eager 5 (.eager 6 (.eager 7 (.eager 8 (.fork 9 10 (.alone 10 (.alone 11 .nil)) (.alone 9 (.alone 11 .nil)))))))))))) mixed (by kernel_rfl) rfl (by kernel_rfl) (by repeat (first | exact pk_body | refine pk_then ?_ | refine pk_block ?_))  ?_
        intro u1 hR1
        replace hX := hX.comp hR1
        replace hO := hO.ext hR1
        refine ⟨hX, ?_⟩
        refine t_look rfl (look_move rfl rfl) ?_
        refine t_look rfl (look_move rfl rfl) ?_
        refine t_look rfl (look_indexAddr _ Try.underlying35 szTry_36 rfl rfl rfl rfl rfl (by omega)) ?_
        refine t_look rfl (look_loadN Try.underlying36 rfl szTry_36 rfl rfl rfl (cs := ccell y) (fun w' hS => ((hA.ext hS).rd i y hyy))) ?_
        refine t_look rfl (look_move rfl rfl) ?_
        refine t_look rfl (look_move rfl rfl) ?_
        refine t_look rfl (look_sub rfl rfl rfl rfl (by unfold I64; omega)) ?_
        refine t_look rfl (look_indexAddr (i - 1) Try.underlying35 szTry_36 rfl rfl rfl rfl (by omega) (by omega)) ?_
        refine t_look rfl (look_loadN Try.underlying36 rfl szTry_36 rfl rfl rfl (cs := ccell x) (fun w' hS => ((hA.ext hS).rd (i - 1) x hxx))) ?_
        refine t_fork rfl rfl ?_ ?_
        · refine s_call (vs := [_, _]) enTry_29 ⟨⟨_, rfl, rfl⟩, ⟨_, rfl, rfl⟩, trivial⟩ (sub_any y x _ (sm_pt hpy) (sm_pt hpx)) ?_
          rintro _ u2 ⟨rfl, hc2⟩
          refine ⟨_, rfl, ?_⟩
          replace hX := hX.comp hc2
          replace hO := hO.ext hc2
          refine s_nil ?_
          refine then_normal ?_
          refine ⟨hX, ?_⟩
          refine t_seq rfl ?_
          refine s_alloc zeTry_36 ?_
          intro g3 u3 hu3 hB3 hg3 hs3
          have ne_hO_g3 : (Value.ownBlock (ov)) ≠ some g3 := hO.ne_new (by omega)
          have ge_g3 : w.heap.size ≤ g3 := by have := hX.size; omega
          replace hX := hX.comp hu3
          replace hO := hO.ext hu3
          refine s_nil ?_
          refine then_normal ?_
          refine ⟨hX, ?_⟩
          refine t_seq rfl ?_
          refine s_store szTry_36 rfl (by simp [ccell, gcell, itcell, rcell, tcell, icell, Value.cells, Value.oneCell']) rfl rfl hB3 rfl ?_
          intro u4 hk4 hT4
          replace hT4 : Blk u4 g3 36 (ccell (csub y x)) := hT4
          replace hX := hX.kp hk4 (by omega)
          replace hO := hO.kp hk4 ne_hO_g3
          clear hB3
          have hB3 := hT4
          refine s_nil ?_
          refine then_normal ?_
          refine ⟨hX, ?_⟩
          refine t_nil ?_
          exact cut_end g3 ⟨rfl, rfl, rfl, rfl, trivial⟩ ⟨hX, hO, hB3, ne_hO_g3⟩
        · refine s_alloc zeTry_36 ?_
          intro g5 u5 hu5 hB5 hg5 hs5
          have ne_hO_g5 : (Value.ownBlock (ov)) ≠ some g5 := hO.ne_new (by omega)
          have ge_g5 : w.heap.size ≤ g5 := by have := hX.size; omega
          replace hX := hX.comp hu5
          replace hO := hO.ext hu5
          refine s_nil ?_
          refine then_normal ?_
          refine ⟨hX, ?_⟩
          refine t_seq rfl ?_
          refine s_call (vs := [_, _]) enTry_29 ⟨⟨_, rfl, rfl⟩, ⟨_, rfl, rfl⟩, trivial⟩ (sub_any y x _ (sm_pt hpy) (sm_pt hpx)) ?_
          rintro _ u6 ⟨rfl, hc6⟩
          refine ⟨_, rfl, ?_⟩
          replace hX := hX.comp hc6
          replace hB5 := hB5.ext hc6
          replace hO := hO.ext hc6
          refine s_nil ?_
          refine then_normal ?_
          refine ⟨hX, ?_⟩
          refine t_seq rfl ?_
          refine s_store szTry_36 rfl (by simp [ccell, gcell, itcell, rcell, tcell, icell, Value.cells, Value.oneCell']) rfl rfl hB5 rfl ?_
          intro u7 hk7 hT7
          replace hT7 : Blk u7 g5 36 (ccell (csub y x)) := hT7
          replace hX := hX.kp hk7 (by omega)
          replace hO := hO.kp hk7 ne_hO_g5
          clear hB5
          have hB5 := hT7
          refine s_nil ?_
          refine then_normal ?_
          refine ⟨hX, ?_⟩
          refine t_nil ?_
          exact cut_end g5 ⟨rfl, rfl, rfl, rfl, trivial⟩ ⟨hX, hO, hB5, ne_hO_g5⟩
      · rintro g4 σ wr hF
        obtain ⟨hX, hO, hB4, ne_hO_g4⟩ : (Ext w wr) ∧ (Core.Own icell 3 1 w.heap.size wr ov ol) ∧ (Blk wr g4 36 (ccell (csub y x))) ∧ (Value.ownBlock ov ≠ some g4) := hF
        show Code.wp _ _ _ (act 47 [(0, true, .slice (some ⟨b1, o1, none⟩) l.length c), (2, true, ov), (3, true, .int .i64 (i : Int)), (4, true, .pointer (some ⟨g4, 0, none⟩))] _) _
        refine wp_region_lit ?_
        refine s_look (look_move rfl rfl) ?_
        refine s_look (look_fieldAddr Try.underlying36 rfl (fun _ _ => rfl) rfl rfl) ?_
        refine s_look (look_load1 Try.underlying3 rfl rfl rfl (eqc (hB4.cell rfl))) ?_
        refine s_look (look_fieldAddr Try.underlying36 rfl (fun _ _ => rfl) rfl rfl) ?_
        refine s_look (look_load1 Try.underlying3 rfl rfl rfl (eqc (hB4.cell rfl))) ?_
        refine s_look (look_neg (ds := []) rfl rfl (by simp only [csub]; unfold I64; omega)) ?_
        refine s_look (look_max2 rfl rfl rfl rfl) ?_
        refine s_look (look_fieldAddr Try.underlying36 rfl (fun _ _ => rfl) rfl rfl) ?_
        refine s_look (look_load1 Try.underlying3 rfl rfl rfl (eqc (hB4.cell rfl))) ?_
        refine s_look (look_fieldAddr Try.underlying36 rfl (fun _ _ => rfl) rfl rfl) ?_
        refine s_look (look_load1 Try.underlying3 rfl rfl rfl (eqc (hB4.cell rfl))) ?_
        refine s_look (look_neg (ds := []) rfl rfl (by simp only [csub]; unfold I64; omega)) ?_
        refine s_look (look_max2 rfl rfl rfl rfl) ?_
        refine s_look (look_add rfl rfl rfl rfl (by simp only [csub]; unfold I64; omega)) ?_
        refine s_look (look_fieldAddr Try.underlying36 rfl (fun _ _ => rfl) rfl rfl) ?_
        refine s_look (look_load1 Try.underlying3 rfl rfl rfl (eqc (hB4.cell rfl))) ?_
        refine s_look (look_fieldAddr Try.underlying36 rfl (fun _ _ => rfl) rfl rfl) ?_
        refine s_look (look_load1 Try.underlying3 rfl rfl rfl (eqc (hB4.cell rfl))) ?_
        refine s_look (look_neg (ds := []) rfl rfl (by simp only [csub]; unfold I64; omega)) ?_
        refine s_look (look_max2 rfl rfl rfl rfl) ?_
        refine s_look (Look.as (look_add rfl rfl rfl rfl (by simp only [csub]; unfold I64; omega)) (v' := .int .i64 (lenV (csub y x))) rfl) ?_
        refine s_buildSlice (parts := [(0, .tmp 43)]) (vs := [(0, .int .i64 (lenV (csub y x)))]) (cells := icell (lenV (csub y x))) Try.underlying37 szTry_3 zeTry_3 rfl rfl ⟨⟨_, rfl, rfl⟩, trivial⟩ rfl (by kernel_rfl) ?_
        intro g8 u8 hu8 hB8 hg8 hs8
        have lt_g4_g8 : g4 < g8 := by have := hB4.lt; omega
        have ne_hO_g8 : (Value.ownBlock (ov)) ≠ some g8 := hO.ne_new (by omega)
        have ge_g8 : w.heap.size ≤ g8 := by have := hX.size; omega
        replace hX := hX.comp hu8
        replace hB4 := hB4.ext hu8
        replace hO := hO.ext hu8
        have hsz9 := hX.size
        refine s_appendL (ce := icell) (news := [lenV (csub y x)]) Try.underlying37 zsbTry_3 rfl rfl rfl hO rfl (Blk.src (x := lenV (csub y x)) rfl (by simp [icell, Value.oneCell']) hB8) (by have := maxLen_is; simp only [List.length_cons, List.length_nil]; omega) (by simp only [List.length_cons, List.length_nil]; omega) (by omega) ?_
        intro v9 u9 hN9 hgr9 hat9
        replace hX := hX.grow hO (Nat.le_refl _) hgr9
        have hn_hB4 := hB4.grown hgr9 ne_hO_g4
        replace ne_hO_g4 := ne_app ne_hO_g4 hB4.lt hat9
        clear hB4
        have hB4 := hn_hB4
        clear hn_hB4
        clear hO
        have hO := hN9
        refine s_look (look_assign rfl rfl) ?_
        refine s_nil ?_
        refine inB_normal ?_
        refine then_normal ?_
        refine region_s ?_
        refine q_look (look_move rfl rfl) ?_
        refine q_look (look_add rfl rfl rfl rfl (by unfold I64; omega)) ?_
        refine q_look (look_assign rfl rfl) ?_
        refine q_nil ?_
        rintro _ rfl
        exact loop_end ((i + 1, v9, (ol ++ [lenV (csub y x)]))) (by simp only []; omega) ⟨rfl, rfl, rfl, trivial⟩ ⟨hX, hO, by show 1 ≤ i + 1; omega, by rw [← hf, legs_drop hi hxx hyy, List.append_assoc]; rfl, by show (ol ++ [_]).length ≤ i + 1; rw [List.length_append, List.length_singleton]; omega⟩
    · rw [legs_end (by have := nn_f hc10; omega) hi, List.append_nil] at hf
      refine wp_exit ?_
      refine then_exit ?_
      refine then_exit ?_
      refine inB_exit_same ?_
      refine then_normal ?_
      refine wp_seq ?_
      refine region_s ?_
      refine q_look (look_move rfl rfl) ?_
      refine q_look (look_assign rfl rfl) ?_
      refine q_nil ?_
      rintro _ rfl
      refine then_normal ?_
      refine wp_ret ?_
      exact res1 Try.results10 rfl ⟨_, rfl, hX, hO.as hf⟩

theorem pcheck_any (l : List Cl) (A : Option Addr) (c : Nat) (w : World) (hA : Sl ccell 3 w A l) (hla : l.length ≤ 1000) (hp : ∀ c ∈ l, Pt c) (h2 : 2 ≤ l.length) (h32 : l.length ≤ 32) (hG : Good c0 l) :
    Calls Try.prog 11 #[.slice A l.length c, .int .i64 100] w fun e w' => e = .returned (.int .i64 (0)) ∧ Ext w w' := by
  refine calls_act Try.func11 rfl Try.ntmps11 rfl rfl ?_
  show Code.wp _ _ _ (act 91 [(0, true, .slice A l.length c), (1, true, .int .i64 100)] _) _
  have hX : Ext w w := Ext.rfl' w
  refine wp_seq ?_
  refine region_s ?_
  refine q_look (look_assign rfl rfl) ?_
  refine q_nil ?_
  rintro _ rfl
  refine then_normal ?_
  refine wp_seq ?_
  refine wp_block ?_
  refine wp_seq ?_
  refine region_s ?_
  refine q_look (look_move rfl rfl) ?_
  refine q_look (look_len_slice Try.underlying35 rfl rfl) ?_
  refine q_look (look_lss rfl rfl rfl rfl) ?_
  refine q_look (look_assign rfl rfl) ?_
  refine q_nil ?_
  rintro _ rfl
  refine then_normal ?_
  refine cond_false rfl (by rw [decide_eq_false (by omega)]) ?_
  refine wp_seq ?_
  refine region_s ?_
  refine q_look (look_move rfl rfl) ?_
  refine q_look (look_len_slice Try.underlying35 rfl rfl) ?_
  refine q_look (look_gtr rfl rfl rfl rfl) ?_
  refine q_look (look_assign rfl rfl) ?_
  refine q_nil ?_
  rintro _ rfl
  refine then_normal ?_
  refine cond_false rfl (by rw [decide_eq_false (by omega)]) ?_
  refine wp_seq ?_
  refine region_q ?_
  refine q_look (look_move rfl rfl) ?_
  refine q_call (vs := [_, _]) enTry_27 ⟨⟨_, rfl, rfl⟩, ⟨_, rfl, rfl⟩, trivial⟩ (fun wc hw => cext hw (contains_far l A c wc (hA.ext (hX.comp hw)) hla hp)) ?_
  refine q_look (look_move rfl rfl) ?_
  refine q_lookg rfl rfl rfl (fun hq => look_move rfl rfl) ?_
  refine q_lookg rfl rfl rfl (fun hq => look_lss rfl hq rfl rfl) ?_
  refine q_look (look_or rfl rfl rfl rfl) ?_
  refine q_look (look_move rfl rfl) ?_
  refine q_lookg rfl rfl rfl (fun hq => look_move rfl rfl) ?_
  refine q_lookg rfl rfl rfl (fun hq => look_gtr rfl hq rfl rfl) ?_
  refine q_look (look_or rfl rfl rfl rfl) ?_
  refine q_look (look_assign rfl rfl) ?_
  refine q_nil ?_
  intro w1 hw1
  replace hX := hX.comp hw1
  refine then_normal ?_
  refine cond_false rfl (by rfl) ?_
  refine wp_skip ?_
  refine inB_normal ?_
  refine then_normal ?_
  refine wp_seq ?_
  refine wp_region_lit ?_
  refine s_alloc zeTry_36 ?_
  intro g1 u1 hu1 hB1 hg1 hs1
  have ge_g1 : w.heap.size ≤ g1 := by have := hX.size; omega
  replace hX := hX.comp hu1
  refine s_nil ?_
  refine then_normal ?_
  refine wp_seq ?_
  refine wp_seq ?_
  refine region_s ?_
  refine q_look (look_assign rfl rfl) ?_
  refine q_nil ?_
  rintro _ rfl
  refine then_normal ?_
  refine wp_block ?_
  refine loop_act (fun (ls : Nat × Cl) => [(0, .slice A l.length c), (1, .int .i64 100), (5, .pointer (some ⟨g1, 0, none⟩)), (6, .int .i64 (ls.1 : Int))]) (fun ls w' => (Ext w w') ∧ (Blk w' g1 36 (ccell ls.2)) ∧ (1 ≤ ls.1) ∧ (Good ls.2 (l.drop (ls.1 - 1))) ∧ (Sm ls.2)) (fun ls => l.length - ls.1) ((1, c0)) ?_ ?_ ?_
  · exact ⟨rfl, rfl, rfl, rfl, trivial⟩
  · exact ⟨hX, hB1, Nat.le_refl _, hG, sm_0⟩
  · rintro ⟨i, lst⟩ σ wr hF
    obtain ⟨hX, hB1, hi, hGd, hsl⟩ : (Ext w wr) ∧ (Blk wr g1 36 (ccell lst)) ∧ (1 ≤ i) ∧ (Good lst (l.drop (i - 1))) ∧ (Sm lst) := hF
    show Code.wp _ _ _ (act 91 [(0, true, .slice A l.length c), (1, true, .int .i64 100), (5, true, .pointer (some ⟨g1, 0, none⟩)), (6, true, .int .i64 (i : Int))] _) _
    refine wp_seq ?_
    refine wp_seq ?_
    refine region_s ?_
    refine q_look (look_move rfl rfl) ?_
    refine q_look (look_move rfl rfl) ?_
    refine q_look (look_len_slice Try.underlying35 rfl rfl) ?_
    refine q_look (look_lss rfl rfl rfl rfl) ?_
    refine q_nil ?_
    rintro _ rfl
    refine then_normal ?_
    refine cond_split rfl (fun hc35 => ?_) (fun hc35 => ?_)
    · have hlt : i < l.length := by have := nn_t hc35; omega
      obtain ⟨y, hyy⟩ := get_lt hlt
      obtain ⟨x, hxx⟩ := get_lt (show i - 1 < l.length by omega)
      have hpy := hp y (mem_get hyy)
      have hpx := hp x (mem_get hxx)
      obtain ⟨v, s, hv1, hv2, hv3, hv4, hv5, hv6⟩ := good_at hi hxx hyy hGd
      obtain ⟨b1, o1, rfl, hr1⟩ := (hA.ext hX).at_ hlt
      refine wp_skip ?_
      refine then_normal ?_
      refine wp_seq ?_
      refine wp_block ?_
      refine seq_cut (ds := []) (n := 91) (fun (g7 : Nat) => [(0, .slice (some ⟨b1, o1, none⟩) l.length c), (1, .int .i64 100), (5, .pointer (some ⟨g1, 0, none⟩)), (6, .int .i64 (i : Int)), (7, .pointer (some ⟨g7, 0, none⟩)), (8, .bool true)]) (fun g7 w' => (Ext w w') ∧ (Blk w' g1 36 (ccell lst)) ∧ (Blk w' g7 36 (ccell v)) ∧ (g1 < g7)) ?_ ?_
      · refine region_t (fun W => Ext w W) (.eager 0 (.eager 1 (.eager 2 (.eager 3 (.eager 4 (.eager 5 (.eager 6 (.eager 7 (.eager 8 (.fork 9 13 (.eager 10 (.eager 11 (.eager 12 (.alone 13 (.alone 14 (.eager 15 .nil)))))) (.alone 9 (.eager 10 (.eager 11 (.eager 12 (.alone 14 (.eager 15 .nil)))))))))))))))) mixed (by kernel_rfl) rfl (by kernel_rfl) (by repeat (first | exact pk_body | refine pk_then ?_ | refine pk_block ?_))  ?_
        intro u2 hR2
        replace hX := hX.comp hR2
        replace hB1 := hB1.ext hR2
        refine ⟨hX, ?_⟩
        refine t_look rfl (look_move rfl rfl) ?_
        refine t_look rfl (look_move rfl rfl) ?_
        refine t_look rfl (look_sub rfl rfl rfl rfl (by unfold I64; omega)) ?_
        refine t_look rfl (look_indexAddr (i - 1) Try.underlying35 szTry_36 rfl rfl rfl rfl (by omega) (by omega)) ?_
        refine t_look rfl (look_loadN Try.underlying36 rfl szTry_36 rfl rfl rfl (cs := ccell x) (fun w' hS => ((hA.ext hS).rd (i - 1) x hxx))) ?_
        refine t_look rfl (look_move rfl rfl) ?_
        refine t_look rfl (look_move rfl rfl) ?_
        refine t_look rfl (look_indexAddr _ Try.underlying35 szTry_36 rfl rfl rfl rfl rfl (by omega)) ?_
        refine t_look rfl (look_loadN Try.underlying36 rfl szTry_36 rfl rfl rfl (cs := ccell y) (fun w' hS => ((hA.ext hS).rd i y hyy))) ?_
        refine t_fork rfl rfl ?_ ?_
        · refine s_call (vs := [_, _]) enTry_30 ⟨⟨_, rfl, rfl⟩, ⟨_, rfl, rfl⟩, trivial⟩ (direction_any x y v (1000 * s) _ hpx hpy (by omega) hv1 hv3) ?_
          rintro _ u3 ⟨rfl, hc3⟩
          refine ⟨_, rfl, ?_⟩
          replace hX := hX.comp hc3
          replace hB1 := hB1.ext hc3
          refine s_nil ?_
          refine then_normal ?_
          refine ⟨hX, ?_⟩
          refine t_look rfl (look_move rfl rfl) ?_
          refine t_look rfl (look_extract rfl rfl rfl) ?_
          refine t_look rfl (look_extract rfl rfl rfl) ?_
          refine t_seq rfl ?_
          refine s_alloc zeTry_36 ?_
          intro g4 u4 hu4 hB4 hg4 hs4
          have lt_g1_g4 : g1 < g4 := by have := hB1.lt; omega
          have ge_g4 : w.heap.size ≤ g4 := by have := hX.size; omega
          replace hX := hX.comp hu4
          replace hB1 := hB1.ext hu4
          refine s_nil ?_
          refine then_normal ?_
          refine ⟨hX, ?_⟩
          refine t_seq rfl ?_
          refine s_store szTry_36 rfl (by simp [ccell, gcell, itcell, rcell, tcell, icell, Value.cells, Value.oneCell']) rfl rfl hB4 rfl ?_
          intro u5 hk5 hT5
          replace hT5 : Blk u5 g4 36 (ccell v) := hT5
          replace hX := hX.kp hk5 (by omega)
          replace hB1 := hB1.kp hk5 (by omega)
          clear hB4
          have hB4 := hT5
          refine s_nil ?_
          refine then_normal ?_
          refine ⟨hX, ?_⟩
          refine t_look rfl (look_assign rfl rfl) ?_
          refine t_nil ?_
          exact cut_end g4 ⟨rfl, rfl, rfl, rfl, rfl, rfl, trivial⟩ ⟨hX, hB1, hB4, (by omega)⟩
        · refine s_alloc zeTry_36 ?_
          intro g6 u6 hu6 hB6 hg6 hs6
          have lt_g1_g6 : g1 < g6 := by have := hB1.lt; omega
          have ge_g6 : w.heap.size ≤ g6 := by have := hX.size; omega
          replace hX := hX.comp hu6
          replace hB1 := hB1.ext hu6
          refine s_nil ?_
          refine then_normal ?_
          refine ⟨hX, ?_⟩
          refine t_seq rfl ?_
          refine s_call (vs := [_, _]) enTry_30 ⟨⟨_, rfl, rfl⟩, ⟨_, rfl, rfl⟩, trivial⟩ (direction_any x y v (1000 * s) _ hpx hpy (by omega) hv1 hv3) ?_
          rintro _ u7 ⟨rfl, hc7⟩
          refine ⟨_, rfl, ?_⟩
          replace hX := hX.comp hc7
          replace hB1 := hB1.ext hc7
          replace hB6 := hB6.ext hc7
          refine s_nil ?_
          refine then_normal ?_
          refine ⟨hX, ?_⟩
          refine t_look rfl (look_move rfl rfl) ?_
          refine t_look rfl (look_extract rfl rfl rfl) ?_
          refine t_look rfl (look_extract rfl rfl rfl) ?_
          refine t_seq rfl ?_
          refine s_store szTry_36 rfl (by simp [ccell, gcell, itcell, rcell, tcell, icell, Value.cells, Value.oneCell']) rfl rfl hB6 rfl ?_
          intro u8 hk8 hT8
          replace hT8 : Blk u8 g6 36 (ccell v) := hT8
          replace hX := hX.kp hk8 (by omega)
          replace hB1 := hB1.kp hk8 (by omega)
          clear hB6
          have hB6 := hT8
          refine s_nil ?_
          refine then_normal ?_
          refine ⟨hX, ?_⟩
          refine t_look rfl (look_assign rfl rfl) ?_
          refine t_nil ?_
          exact cut_end g6 ⟨rfl, rfl, rfl, rfl, rfl, rfl, trivial⟩ ⟨hX, hB1, hB6, (by omega)⟩
      · rintro g7 σ wr hF
        obtain ⟨hX, hB1, hB7, h57⟩ : (Ext w wr) ∧ (Blk wr g1 36 (ccell lst)) ∧ (Blk wr g7 36 (ccell v)) ∧ (g1 < g7) := hF
        show Code.wp _ _ _ (act 91 [(0, true, .slice (some ⟨b1, o1, none⟩) l.length c), (1, true, .int .i64 100), (5, true, .pointer (some ⟨g1, 0, none⟩)), (6, true, .int .i64 (i : Int)), (7, true, .pointer (some ⟨g7, 0, none⟩)), (8, true, .bool true)] _) _
        refine wp_seq ?_
        refine wp_seq ?_
        refine region_qd mixed (by kernel_rfl) ?_
        refine q_look (look_move rfl rfl) ?_
        refine q_look (look_not rfl rfl) ?_
        refine q_look (look_move rfl rfl) ?_
        refine q_lookg rfl rfl rfl (fun hq => look_loadN Try.underlying36 rfl szTry_36 rfl rfl rfl (ext_cell_n hB7)) ?_
        refine q_lookg rfl rfl rfl (fun hq => look_loadN Try.underlying36 rfl szTry_36 rfl rfl rfl (ext_cell_n hB1)) ?_
        refine q_lookg rfl rfl rfl (fun hq => look_eql_flat Try.underlying36 stood36 guard36 rfl hq rfl hq (eqC _ _)) ?_
        refine q_look (look_or rfl rfl rfl rfl) ?_
        refine q_look (look_move rfl rfl) ?_
        refine q_lookg rfl rfl rfl (fun hq => look_loadN Try.underlying36 rfl szTry_36 rfl rfl rfl (ext_cell_n hB7)) ?_
        refine q_lookg rfl rfl rfl (fun hq => look_loadN Try.underlying36 rfl szTry_36 rfl rfl rfl (ext_cell_n hB1)) ?_
        refine q_callg (vs := [_]) rfl rfl rfl enTry_31 (fun hq => ⟨⟨_, rfl, hq⟩, trivial⟩) (fun hq wc hw => cext hw (popp_any lst wc hsl)) ?_
        refine q_lookg rfl rfl rfl (fun hq => look_eql_flat Try.underlying36 stood36 guard36 rfl hq rfl hq (eqC _ _)) ?_
        refine q_look (look_or rfl rfl rfl rfl) ?_
        refine q_nil ?_
        intro w2 hw2
        replace hX := hX.comp hw2
        replace hB1 := hB1.ext hw2
        replace hB7 := hB7.ext hw2
        refine then_normal ?_
        refine cond_false rfl (by rw [decide_eq_false hv4, decide_eq_false hv5]; rfl) ?_
        refine wp_skip ?_
        refine then_normal ?_
        refine wp_region_lit ?_
        refine s_look (look_loadN Try.underlying36 rfl szTry_36 rfl rfl rfl (eqc_n hB7)) ?_
        refine s_store szTry_36 rfl (by simp [ccell, gcell, itcell, rcell, tcell, icell, Value.cells, Value.oneCell']) rfl rfl hB1 rfl ?_
        intro u9 hk9 hT9
        replace hT9 : Blk u9 g1 36 (ccell v) := hT9
        replace hX := hX.kp hk9 (by omega)
        replace hB7 := hB7.kp hk9 (by omega)
        clear hB1
        have hB1 := hT9
        refine s_nil ?_
        refine inB_normal ?_
        refine then_normal ?_
        refine region_s ?_
        refine q_look (look_move rfl rfl) ?_
        refine q_look (look_add rfl rfl rfl rfl (by unfold I64; omega)) ?_
        refine q_look (look_assign rfl rfl) ?_
        refine q_nil ?_
        rintro _ rfl
        exact loop_end ((i + 1, v)) (by simp only []; omega) ⟨rfl, rfl, rfl, rfl, trivial⟩ ⟨hX, hB1, by show 1 ≤ i + 1; omega, hv6, sm_way hv1⟩
    · skip
      refine wp_exit ?_
      refine then_exit ?_
      refine then_exit ?_
      refine inB_exit_same ?_
      refine then_normal ?_
      refine wp_seq ?_
      refine wp_region_lit ?_
      refine s_look (look_move rfl rfl) ?_
      refine s_call (vs := [_]) enTry_10 ⟨⟨_, rfl, rfl⟩, trivial⟩ (legs_any l A c _ (hA.ext hX) hla hp) ?_
      rintro _ u10 ⟨v10, rfl, hc10, hL⟩
      refine ⟨_, rfl, ?_⟩
      have ne_hL_g1 : Value.ownBlock v10 ≠ some g1 := hL.ne_old hB1.lt
      replace hL := hL.weak hX.size
      replace hX := hX.comp hc10
      replace hB1 := hB1.ext hc10
      obtain ⟨AL, cL, rfl, _⟩ := hL.sl hce_i
      have hll := legs_len l
      refine s_look (look_assign rfl rfl) ?_
      refine s_nil ?_
      refine then_normal ?_
      refine wp_seq ?_
      refine wp_seq ?_
      refine region_s ?_
      refine q_look (look_move rfl rfl) ?_
      refine q_look (look_len_slice Try.underlying37 rfl rfl) ?_
      refine q_look (look_move rfl rfl) ?_
      refine q_nil ?_
      rintro _ rfl
      refine then_normal ?_
      refine wp_block ?_
      refine loop_act (fun (k : Nat) => [(1, .int .i64 100), (9, .slice AL (legsP l).length cL), (67, .slice AL (legsP l).length cL), (68, .int .i64 ((legsP l).length : Int)), (69, .int .i64 (k : Int))]) (fun k w' => (Ext w w') ∧ (Core.Own icell 3 1 w.heap.size w' (.slice AL (legsP l).length cL) (legsP l)) ∧ (k ≤ (legsP l).length)) (fun k => (legsP l).length - k) (0) ?_ ?_ ?_
      · exact ⟨rfl, rfl, rfl, rfl, rfl, trivial⟩
      · exact ⟨hX, hL, Nat.zero_le _⟩
      · rintro k σ wr hF
        obtain ⟨hX, hL, hk⟩ : (Ext w wr) ∧ (Core.Own icell 3 1 w.heap.size wr (.slice AL (legsP l).length cL) (legsP l)) ∧ (k ≤ (legsP l).length) := hF
        show Code.wp _ _ _ (act 91 [(1, true, .int .i64 100), (9, true, .slice AL (legsP l).length cL), (67, true, .slice AL (legsP l).length cL), (68, true, .int .i64 ((legsP l).length : Int)), (69, true, .int .i64 (k : Int))] _) _
        refine wp_seq ?_
        refine region_s ?_
        refine q_look (look_lss rfl rfl rfl rfl) ?_
        refine q_nil ?_
        rintro _ rfl
        refine then_normal ?_
        refine wp_seq ?_
        refine cond_split rfl (fun hc70 => ?_) (fun hc70 => ?_)
        · have hlt : k < (legsP l).length := by have := nn_t hc70; omega
          obtain ⟨n, hn⟩ := get_lt hlt
          have hn2 := good_legs l c0 hG n (mem_get hn)
          obtain ⟨b4, o4, rfl, hr4⟩ := (hL.slOf hce_i).1.at_ hlt
          refine wp_skip ?_
          refine then_normal ?_
          refine wp_seq ?_
          refine wp_block ?_
          refine wp_seq ?_
          refine region_s ?_
          refine q_look (look_move rfl rfl) ?_
          refine q_look (look_indexAddr _ Try.underlying37 szTry_3 rfl rfl rfl rfl rfl (by omega)) ?_
          refine q_look (look_load1 Try.underlying3 rfl rfl rfl (eqc ((hr4 k n hn) 0 _ rfl))) ?_
          refine q_look (look_assign rfl rfl) ?_
          refine q_look (look_assign rfl rfl) ?_
          refine q_nil ?_
          rintro _ rfl
          refine then_normal ?_
          refine wp_seq ?_
          refine region_s ?_
          refine q_look (look_assign rfl rfl) ?_
          refine q_nil ?_
          rintro _ rfl
          refine then_normal ?_
          refine wp_seq ?_
          refine wp_seq ?_
          refine region_s ?_
          refine q_look (look_move rfl rfl) ?_
          refine q_look (look_eql rfl rfl rfl rfl) ?_
          refine q_nil ?_
          rintro _ rfl
          refine then_normal ?_
          refine cond_split rfl (fun hc75 => ?_) (fun hc75 => ?_)
          · skip
            refine region_s ?_
            refine q_look (look_move rfl rfl) ?_
            refine q_look (look_sub rfl rfl rfl rfl (by unfold I64; omega)) ?_
            refine q_look (look_assign rfl rfl) ?_
            refine q_nil ?_
            rintro _ rfl
            refine then_normal ?_
            refine wp_seq ?_
            refine wp_seq ?_
            refine region_s ?_
            refine q_look (look_move rfl rfl) ?_
            refine q_look (look_move rfl rfl) ?_
            refine q_look (look_len_slice Try.underlying37 rfl rfl) ?_
            refine q_look (look_sub rfl rfl rfl rfl (by unfold I64; omega)) ?_
            refine q_look (look_eql rfl rfl rfl rfl) ?_
            refine q_nil ?_
            rintro _ rfl
            refine then_normal ?_
            refine cond_split rfl (fun hc82 => ?_) (fun hc82 => ?_)
            · skip
              refine region_s ?_
              refine q_look (look_move rfl rfl) ?_
              refine q_look (look_sub rfl rfl rfl rfl (by unfold I64; omega)) ?_
              refine q_look (look_assign rfl rfl) ?_
              refine q_nil ?_
              rintro _ rfl
              refine then_normal ?_
              refine wp_seq ?_
              refine region_s ?_
              refine q_look (look_move rfl rfl) ?_
              refine q_look (look_move rfl rfl) ?_
              refine q_look (look_move rfl rfl) ?_
              refine q_look (look_mul rfl rfl rfl rfl (by unfold I64; omega)) ?_
              refine q_look (look_lss rfl rfl rfl rfl) ?_
              refine q_nil ?_
              rintro _ rfl
              refine then_normal ?_
              refine cond_false rfl (by rw [decide_eq_false (by omega)]) ?_
              refine wp_skip ?_
              refine inB_normal ?_
              refine then_normal ?_
              refine region_s ?_
              refine q_look (look_add rfl rfl rfl rfl (by unfold I64; omega)) ?_
              refine q_look (look_move rfl rfl) ?_
              refine q_nil ?_
              rintro _ rfl
              exact loop_end (k + 1) (by omega) ⟨rfl, rfl, rfl, rfl, rfl, trivial⟩ ⟨hX, hL, by omega⟩
            · skip
              refine wp_skip ?_
              refine then_normal ?_
              refine wp_seq ?_
              refine region_s ?_
              refine q_look (look_move rfl rfl) ?_
              refine q_look (look_move rfl rfl) ?_
              refine q_look (look_move rfl rfl) ?_
              refine q_look (look_mul rfl rfl rfl rfl (by unfold I64; omega)) ?_
              refine q_look (look_lss rfl rfl rfl rfl) ?_
              refine q_nil ?_
              rintro _ rfl
              refine then_normal ?_
              refine cond_false rfl (by rw [decide_eq_false (by omega)]) ?_
              refine wp_skip ?_
              refine inB_normal ?_
              refine then_normal ?_
              refine region_s ?_
              refine q_look (look_add rfl rfl rfl rfl (by unfold I64; omega)) ?_
              refine q_look (look_move rfl rfl) ?_
              refine q_nil ?_
              rintro _ rfl
              exact loop_end (k + 1) (by omega) ⟨rfl, rfl, rfl, rfl, rfl, trivial⟩ ⟨hX, hL, by omega⟩
          · skip
            refine wp_skip ?_
            refine then_normal ?_
            refine wp_seq ?_
            refine wp_seq ?_
            refine region_s ?_
            refine q_look (look_move rfl rfl) ?_
            refine q_look (look_move rfl rfl) ?_
            refine q_look (look_len_slice Try.underlying37 rfl rfl) ?_
            refine q_look (look_sub rfl rfl rfl rfl (by unfold I64; omega)) ?_
            refine q_look (look_eql rfl rfl rfl rfl) ?_
            refine q_nil ?_
            rintro _ rfl
            refine then_normal ?_
            refine cond_split rfl (fun hc82 => ?_) (fun hc82 => ?_)
            · skip
              refine region_s ?_
              refine q_look (look_move rfl rfl) ?_
              refine q_look (look_sub rfl rfl rfl rfl (by unfold I64; omega)) ?_
              refine q_look (look_assign rfl rfl) ?_
              refine q_nil ?_
              rintro _ rfl
              refine then_normal ?_
              refine wp_seq ?_
              refine region_s ?_
              refine q_look (look_move rfl rfl) ?_
              refine q_look (look_move rfl rfl) ?_
              refine q_look (look_move rfl rfl) ?_
              refine q_look (look_mul rfl rfl rfl rfl (by unfold I64; omega)) ?_
              refine q_look (look_lss rfl rfl rfl rfl) ?_
              refine q_nil ?_
              rintro _ rfl
              refine then_normal ?_
              refine cond_false rfl (by rw [decide_eq_false (by omega)]) ?_
              refine wp_skip ?_
              refine inB_normal ?_
              refine then_normal ?_
              refine region_s ?_
              refine q_look (look_add rfl rfl rfl rfl (by unfold I64; omega)) ?_
              refine q_look (look_move rfl rfl) ?_
              refine q_nil ?_
              rintro _ rfl
              exact loop_end (k + 1) (by omega) ⟨rfl, rfl, rfl, rfl, rfl, trivial⟩ ⟨hX, hL, by omega⟩
            · skip
              refine wp_skip ?_
              refine then_normal ?_
              refine wp_seq ?_
              refine region_s ?_
              refine q_look (look_move rfl rfl) ?_
              refine q_look (look_move rfl rfl) ?_
              refine q_look (look_move rfl rfl) ?_
              refine q_look (look_mul rfl rfl rfl rfl (by unfold I64; omega)) ?_
              refine q_look (look_lss rfl rfl rfl rfl) ?_
              refine q_nil ?_
              rintro _ rfl
              refine then_normal ?_
              refine cond_false rfl (by rw [decide_eq_false (by omega)]) ?_
              refine wp_skip ?_
              refine inB_normal ?_
              refine then_normal ?_
              refine region_s ?_
              refine q_look (look_add rfl rfl rfl rfl (by unfold I64; omega)) ?_
              refine q_look (look_move rfl rfl) ?_
              refine q_nil ?_
              rintro _ rfl
              exact loop_end (k + 1) (by omega) ⟨rfl, rfl, rfl, rfl, rfl, trivial⟩ ⟨hX, hL, by omega⟩
        · skip
          refine wp_exit ?_
          refine then_exit ?_
          refine then_exit ?_
          refine inB_exit_same ?_
          refine then_normal ?_
          refine wp_seq ?_
          refine region_s ?_
          refine q_look (look_assign rfl rfl) ?_
          refine q_nil ?_
          rintro _ rfl
          refine then_normal ?_
          refine wp_ret ?_
          exact res1 Try.results11 rfl ⟨rfl, hX⟩

end Go.Proofs.Ythddekipelbooaa
