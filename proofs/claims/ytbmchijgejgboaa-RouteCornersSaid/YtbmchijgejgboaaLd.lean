/- The walks of chapter 44 (route): the law RouteTurns. -/
import Derived.Test.YtbmchijgejgboaaLc
namespace Go.Proofs.Ytbmchijgejgboaa
open Go Go.RowKit Core
set_option linter.unusedVariables false
set_option linter.unusedSimpArgs false
attribute [local irreducible] wpQuiet wpList wpH wpT Code.wp Calls bodyPost act


theorem look_neg {P : Program} {C : World → Prop} {n : Nat} {l : List (Nat × Bool × Value)} {σ : Nat → Value} {d : Option Tmp} {ty : TypeId} {pos : String} {after : Array Edge} {g : Option (Nat × Bool)} {p : Bool} {t : TypeId} {x : Operand} {m : Int} {ds : List Deferred}
    (hx : ev n l x = some (p, .int .i64 m)) (hp : p = true) (hm : I64 (-m)) : Look P C n l σ ⟨d, .unOp .neg t x, ty, pos, after, g⟩ (.int .i64 (-m)) := fun w _ => by
  simp [execOp, eval_ev hx hp, Op.unary, Op.intArith, wrap_I64 hm]
theorem back_f {n m e f : Int} (h1 : n = m) (h2 : e = f) : (!decide (n = m) || !decide (e = f)) = false := by rw [decide_eq_true h1, decide_eq_true h2]; rfl
theorem far_f {n far x bend : Int} (h1 : far ≤ n) (h2 : x = 0 → bend = 0 → n = far) : (decide (n < far) || ((decide (x = 0) && decide (bend = 0)) && !decide (n = far))) = false := by
  rw [decide_eq_false (show ¬ n < far by omega), Bool.false_or]
  by_cases h3 : x = 0
  · by_cases h4 : bend = 0
    · rw [decide_eq_true (h2 h3 h4)]; simp
    · rw [decide_eq_false h4]; simp
  · rw [decide_eq_false h3]; rfl
theorem bend_f {bend e k n : Int} (h : bend < 1000 → e = 0 ∧ n ≤ k) : (decide (bend < 1000) && (!decide (e = 0) || decide (k < n))) = false := by
  by_cases h1 : bend < 1000
  · obtain ⟨h2, h3⟩ := h h1
    rw [decide_eq_true h2, decide_eq_false (show ¬ k < n by omega)]; simp
  · rw [decide_eq_false h1]; rfl
theorem turn_t {h k n : Int} {c a b : Cl} (h1 : ¬ h = 0 ∨ n ≤ k) (h2 : h = 0 ∨ h = 8 ∨ (h = 18 ∧ (c = a ∨ c = b))) : ((!decide (h = 0) || decide (n ≤ k)) && ((decide (h = 0) || decide (h = 8)) || (decide (h = 18) && (decide (c = a) || decide (c = b))))) = true := by
  have e1 : (!decide (h = 0) || decide (n ≤ k)) = true := by
    rcases h1 with h1 | h1
    · rw [decide_eq_false h1]; rfl
    · rw [decide_eq_true h1, Bool.or_true]
  rw [e1]
  rcases h2 with h2 | h2 | ⟨h2, h3 | h3⟩
  · rw [decide_eq_true h2]; rfl
  · rw [decide_eq_true h2]; simp
  · rw [decide_eq_true h2, decide_eq_true h3]; simp
  · rw [decide_eq_true h2, decide_eq_true h3]; simp
theorem dn_in {g : Gr} {c : Cl} (h : (decide (c ∈ g.bl) || !inB g c) = false) : inB g c = true := nt_f (or_f h).2
def mG (g : Gr) (A : Option Addr) (ol : List Cl) (cp : Nat) : Gr := ⟨g.nx, g.ny, g.nz, A, ol, cp⟩
theorem not_bef {c y : Cl} {dn : Bool} (h : (!dn && befB c y) = false) (hne : dn = false → c ≠ y) : dn = false → Lt y c := fun e => by
  subst e
  have h1 : befB c y = false := h
  rcases Lt.tri c y with t | t | t
  · rw [befB_iff.2 t] at h1; cases h1
  · exact (hne rfl t).elim
  · exact t
theorem dn_ne {g : Gr} {c y : Cl} {k : Nat} {dn : Bool} {ol : List Cl} (h : Ins g c (decide (c ∈ g.bl) || !inB g c) k dn ol) (hy : g.bl[k]? = some y) : dn = false → c ≠ y := fun e h1 => by
  have h2 := (or_f (h.no e).1).1
  exact of_decide_eq_false h2 (h1 ▸ mem_get hy)
theorem put_t {c y : Cl} {dn : Bool} (h : (!dn && befB c y) = true) : dn = false ∧ Lt c y := by
  cases dn with
  | true => cases h
  | false => exact ⟨rfl, befB_iff.1 h⟩


theorem bl_small {g : Gr} (hs : szA g = true) (h : ∀ c ∈ g.bl, inB g c = true) (ha : Asc g.bl) : g.bl.length ≤ 13824 := by
  have h1 := asc_pair ha
  have h3 : (g.bl.map fun c => (c.x * 24 + c.y) * 24 + c.z).Nodup := by
    unfold List.Nodup
    rw [List.pairwise_map]
    refine List.Pairwise.imp_of_mem (fun {p q} hp hq hne e => ?_) h1
    have := inB_24 hs (h p hp); have := inB_24 hs (h q hq)
    unfold Lt at hne
    omega
  have h4 := nodup_len (n := 13824) h3 (fun k hk => by
    obtain ⟨y, hy, rfl⟩ := List.mem_map.1 hk
    have := inB_24 hs (h y hy)
    omega)
  rw [List.length_map] at h4
  exact h4

theorem turns_law (g : Gr) (t : It) (c : Cl) (w : World) (hG : GOk w g) :
    Calls Try.prog 7 #[.agg (gcell g).toArray, .agg (itcell t).toArray, .agg (ccell c).toArray] w fun e w' => e = .returned (.bool (true)) ∧ Ext w w' := by
  refine calls_act Try.func7 rfl Try.ntmps7 rfl rfl ?_
  show Code.wp _ _ _ (act 257 [(0, true, .agg (gcell g).toArray), (1, true, .agg (itcell t).toArray), (2, true, .agg (ccell c).toArray)] _) _
  have hX : Ext w w := Ext.rfl' w
  refine wp_seq ?_
  refine wp_region_lit ?_
  refine s_box rfl ?_
  intro g1 u1 hu1 hB1 hg1 hs1
  replace hB1 : Blk u1 g1 24 (gcell g) := hB1
  have ge_g1 : w.heap.size ≤ g1 := by have := hX.size; omega
  replace hX := hX.comp hu1
  refine s_box rfl ?_
  intro g2 u2 hu2 hB2 hg2 hs2
  replace hB2 : Blk u2 g2 37 (itcell t) := hB2
  have lt_g1_g2 : g1 < g2 := by have := hB1.lt; omega
  have ge_g2 : w.heap.size ≤ g2 := by have := hX.size; omega
  replace hX := hX.comp hu2
  replace hB1 := hB1.ext hu2
  refine s_box rfl ?_
  intro g3 u3 hu3 hB3 hg3 hs3
  replace hB3 : Blk u3 g3 35 (ccell c) := hB3
  have lt_g1_g3 : g1 < g3 := by have := hB1.lt; omega
  have lt_g2_g3 : g2 < g3 := by have := hB2.lt; omega
  have ge_g3 : w.heap.size ≤ g3 := by have := hX.size; omega
  replace hX := hX.comp hu3
  replace hB1 := hB1.ext hu3
  replace hB2 := hB2.ext hu3
  refine s_look (look_assign rfl rfl) ?_
  refine s_nil ?_
  refine then_normal ?_
  refine wp_seq ?_
  refine wp_seq ?_
  refine region_q ?_
  refine q_look (look_loadN Try.underlying24 rfl szTry_24 rfl rfl rfl (ext_cell_n hB1)) ?_
  refine q_call (vs := [_]) enTry_20 ⟨⟨_, rfl, rfl⟩, trivial⟩ (fun wc hw => cext hw (small_any g wc (hG.ext (hX.comp hw)))) ?_
  refine q_look (look_not rfl rfl) ?_
  refine q_look (look_move rfl rfl) ?_
  refine q_lookg rfl rfl rfl (fun hq => look_loadN Try.underlying24 rfl szTry_24 rfl rfl rfl (ext_cell_n hB1)) ?_
  refine q_callg (vs := [_]) rfl rfl rfl enTry_12 (fun hq => ⟨⟨_, rfl, hq⟩, trivial⟩) (fun hq wc hw => cext hw (refcheckgrid_any g wc (hG.ext (hX.comp hw)))) ?_
  refine q_lookg rfl rfl rfl (fun hq => look_neq rfl hq rfl rfl) ?_
  refine q_look (look_or rfl rfl rfl rfl) ?_
  refine q_nil ?_
  intro w1 hw1
  replace hX := hX.comp hw1
  replace hB1 := hB1.ext hw1
  replace hB2 := hB2.ext hw1
  replace hB3 := hB3.ext hw1
  refine then_normal ?_
  refine cond_split rfl (fun hc33 => ?_) (fun hc33 => ?_)
  · skip
    refine wp_seq ?_
    refine region_q ?_
    refine q_call (vs := []) enTry_10 trivial (fun wc hw => cext hw (awake_any wc)) ?_
    refine q_look (look_assign rfl rfl) ?_
    refine q_nil ?_
    intro w2 hw2
    replace hX := hX.comp hw2
    replace hB1 := hB1.ext hw2
    replace hB2 := hB2.ext hw2
    replace hB3 := hB3.ext hw2
    refine then_normal ?_
    refine wp_ret ?_
    refine then_ret ?_
    exact res1 Try.results7 rfl ⟨ret_bool (by first | rfl | (rw [hfin]; rfl)), hX⟩
  · have h0 := big_f2 hc33
    have hs := (chk_ok h0).1
    have hs2 := (chk_ok h0).2.2
    refine wp_skip ?_
    refine then_normal ?_
    refine wp_seq ?_
    refine wp_region_lit ?_
    refine s_look (look_loadN Try.underlying24 rfl szTry_24 rfl rfl rfl (eqc_n hB1)) ?_
    refine s_look (look_fieldAddr Try.underlying37 rfl (fun _ _ => rfl) rfl rfl) ?_
    refine s_look (look_loadN Try.underlying35 rfl szTry_35 rfl rfl rfl (cs := ccell t.at_) (eqn (Blk.sub hB2 rfl))) ?_
    refine s_look (look_fieldAddr Try.underlying37 rfl (fun _ _ => rfl) rfl rfl) ?_
    refine s_look (look_loadN Try.underlying35 rfl szTry_35 rfl rfl rfl (cs := ccell t.by_) (eqn (Blk.sub hB2 rfl))) ?_
    refine s_look (look_fieldAddr Try.underlying37 rfl (fun _ _ => rfl) rfl rfl) ?_
    refine s_look (look_load1 Try.underlying3 rfl rfl rfl (eqc (hB2.cell rfl))) ?_
    refine s_call (vs := [_, _, _, _]) enTry_21 ⟨⟨_, rfl, rfl⟩, ⟨_, rfl, rfl⟩, ⟨_, rfl, rfl⟩, ⟨_, rfl, rfl⟩, trivial⟩ (path_any g t.at_ t.by_ t.left _ (hG.ext hX)) ?_
    rintro _ u4 ⟨v4, pshP, cohP, erhP, rfl, hc4, hP, pShP⟩
    refine ⟨_, rfl, ?_⟩
    have ne_hP_g1 : Value.ownBlock v4 ≠ some g1 := hP.ne_old hB1.lt
    have ne_hP_g2 : Value.ownBlock v4 ≠ some g2 := hP.ne_old hB2.lt
    have ne_hP_g3 : Value.ownBlock v4 ≠ some g3 := hP.ne_old hB3.lt
    replace hP := hP.weak hX.size
    replace hX := hX.comp hc4
    replace hB1 := hB1.ext hc4
    replace hB2 := hB2.ext hc4
    replace hB3 := hB3.ext hc4
    obtain ⟨AhP, chP, rfl, _⟩ := hP.sl hce_c
    refine s_look (look_move rfl rfl) ?_
    refine s_look (look_extract rfl rfl rfl) ?_
    refine s_look (look_extract rfl rfl rfl) ?_
    refine s_look (look_extract rfl rfl rfl) ?_
    refine s_look (look_assign rfl rfl) ?_
    refine s_look (look_assign rfl rfl) ?_
    refine s_look (look_assign rfl rfl) ?_
    refine s_nil ?_
    refine then_normal ?_
    refine wp_seq ?_
    refine wp_region_lit ?_
    refine s_look (look_loadN Try.underlying24 rfl szTry_24 rfl rfl rfl (eqc_n hB1)) ?_
    refine s_look (look_fieldAddr Try.underlying37 rfl (fun _ _ => rfl) rfl rfl) ?_
    refine s_look (look_loadN Try.underlying35 rfl szTry_35 rfl rfl rfl (cs := ccell t.by_) (eqn (Blk.sub hB2 rfl))) ?_
    refine s_look (look_fieldAddr Try.underlying37 rfl (fun _ _ => rfl) rfl rfl) ?_
    refine s_look (look_loadN Try.underlying35 rfl szTry_35 rfl rfl rfl (cs := ccell t.at_) (eqn (Blk.sub hB2 rfl))) ?_
    refine s_look (look_fieldAddr Try.underlying37 rfl (fun _ _ => rfl) rfl rfl) ?_
    refine s_look (look_load1 Try.underlying3 rfl rfl rfl (eqc (hB2.cell rfl))) ?_
    refine s_call (vs := [_, _, _, _]) enTry_21 ⟨⟨_, rfl, rfl⟩, ⟨_, rfl, rfl⟩, ⟨_, rfl, rfl⟩, ⟨_, rfl, rfl⟩, trivial⟩ (path_any g t.by_ t.at_ t.left _ (hG.ext hX)) ?_
    rintro _ u5 ⟨v5, pshQ, cohQ, erhQ, rfl, hc5, hQ, pShQ⟩
    refine ⟨_, rfl, ?_⟩
    have dis_hP_hQ := Own.dis_new hP hQ
    have ne_hQ_g1 : Value.ownBlock v5 ≠ some g1 := hQ.ne_old hB1.lt
    have ne_hQ_g2 : Value.ownBlock v5 ≠ some g2 := hQ.ne_old hB2.lt
    have ne_hQ_g3 : Value.ownBlock v5 ≠ some g3 := hQ.ne_old hB3.lt
    replace hQ := hQ.weak hX.size
    replace hX := hX.comp hc5
    replace hB1 := hB1.ext hc5
    replace hB2 := hB2.ext hc5
    replace hB3 := hB3.ext hc5
    replace hP := hP.ext hc5
    obtain ⟨AhQ, chQ, rfl, _⟩ := hQ.sl hce_c
    refine s_look (look_move rfl rfl) ?_
    refine s_look (look_extract rfl rfl rfl) ?_
    refine s_look (look_extract rfl rfl rfl) ?_
    refine s_look (look_extract rfl rfl rfl) ?_
    refine s_look (look_assign rfl rfl) ?_
    refine s_look (look_assign rfl rfl) ?_
    refine s_look (look_assign rfl rfl) ?_
    refine s_nil ?_
    obtain ⟨q1, q2⟩ := paths_back pShP pShQ
    refine then_normal ?_
    refine wp_seq ?_
    refine wp_seq ?_
    refine region_s ?_
    refine q_look (look_move rfl rfl) ?_
    refine q_look (look_move rfl rfl) ?_
    refine q_look (look_neq rfl rfl rfl rfl) ?_
    refine q_look (look_move rfl rfl) ?_
    refine q_lookg rfl rfl rfl (fun hq => look_move rfl rfl) ?_
    refine q_lookg rfl rfl rfl (fun hq => look_move rfl rfl) ?_
    refine q_lookg rfl rfl rfl (fun hq => look_neq rfl hq rfl hq) ?_
    refine q_look (look_or rfl rfl rfl rfl) ?_
    refine q_nil ?_
    rintro _ rfl
    refine then_normal ?_
    refine cond_false rfl (by rw [back_f q1 q2]) ?_
    refine wp_skip ?_
    refine then_normal ?_
    refine wp_seq ?_
    refine wp_seq ?_
    refine region_s ?_
    refine q_look (look_move rfl rfl) ?_
    refine q_look (look_neq rfl rfl rfl rfl) ?_
    refine q_nil ?_
    rintro _ rfl
    refine then_normal ?_
    refine cond_split rfl (fun hc68 => ?_) (fun hc68 => ?_)
    · have he := nd_t hc68
      have hz : cohP = 0 := by rcases pShP.good with ⟨h, _⟩ | ⟨_, _, h, _⟩; exact (he h).elim; exact h
      have hfin : decide (cohP = 0) = true := decide_eq_true hz
      refine wp_seq ?_
      refine region_q ?_
      refine q_look (look_move rfl rfl) ?_
      refine q_look (look_eql rfl rfl rfl rfl) ?_
      refine q_look (look_move rfl rfl) ?_
      refine q_callg (vs := []) rfl rfl rfl enTry_10 (fun hq => trivial) (fun hq wc hw => cext hw (awake_any wc)) ?_
      refine q_look (look_and rfl rfl rfl rfl) ?_
      refine q_look (look_assign rfl rfl) ?_
      refine q_nil ?_
      intro w3 hw3
      replace hX := hX.comp hw3
      replace hB1 := hB1.ext hw3
      replace hB2 := hB2.ext hw3
      replace hB3 := hB3.ext hw3
      replace hP := hP.ext hw3
      replace hQ := hQ.ext hw3
      refine then_normal ?_
      refine wp_ret ?_
      refine then_ret ?_
      exact res1 Try.results7 rfl ⟨ret_bool (by first | rfl | (rw [hfin]; rfl)), hX⟩
    · have he := nd_f hc68
      obtain ⟨_, hfa, hfb, hbd, r, rfl, hGd, hco⟩ := good1 pShP he
      have ga := inB_24 hs hfa.1
      have gb := inB_24 hs hfb.1
      obtain ⟨f1, f2⟩ := far_ok hbd.1 hfa hfb hGd
      rw [← hco] at f1 f2
      refine wp_skip ?_
      refine then_normal ?_
      refine wp_seq ?_
      refine region_qd mixed (by kernel_rfl) ?_
      refine q_look (look_fieldAddr Try.underlying37 rfl (fun _ _ => rfl) rfl rfl) ?_
      refine q_look (look_fieldAddr Try.underlying35 rfl (fun _ _ => rfl) rfl rfl) ?_
      refine q_look (look_load1 Try.underlying3 rfl rfl rfl (ext_cell (hB2.cell rfl))) ?_
      refine q_look (look_fieldAddr Try.underlying37 rfl (fun _ _ => rfl) rfl rfl) ?_
      refine q_look (look_fieldAddr Try.underlying35 rfl (fun _ _ => rfl) rfl rfl) ?_
      refine q_look (look_load1 Try.underlying3 rfl rfl rfl (ext_cell (hB2.cell rfl))) ?_
      refine q_look (look_sub rfl rfl rfl rfl (by have := hG.len; have := maxLen_is; unfold I64; omega)) ?_
      refine q_look (look_fieldAddr Try.underlying37 rfl (fun _ _ => rfl) rfl rfl) ?_
      refine q_look (look_fieldAddr Try.underlying35 rfl (fun _ _ => rfl) rfl rfl) ?_
      refine q_look (look_load1 Try.underlying3 rfl rfl rfl (ext_cell (hB2.cell rfl))) ?_
      refine q_look (look_fieldAddr Try.underlying37 rfl (fun _ _ => rfl) rfl rfl) ?_
      refine q_look (look_fieldAddr Try.underlying35 rfl (fun _ _ => rfl) rfl rfl) ?_
      refine q_look (look_load1 Try.underlying3 rfl rfl rfl (ext_cell (hB2.cell rfl))) ?_
      refine q_look (look_sub rfl rfl rfl rfl (by have := hG.len; have := maxLen_is; unfold I64; omega)) ?_
      refine q_look (look_fieldAddr Try.underlying37 rfl (fun _ _ => rfl) rfl rfl) ?_
      refine q_look (look_fieldAddr Try.underlying35 rfl (fun _ _ => rfl) rfl rfl) ?_
      refine q_look (look_load1 Try.underlying3 rfl rfl rfl (ext_cell (hB2.cell rfl))) ?_
      refine q_look (look_fieldAddr Try.underlying37 rfl (fun _ _ => rfl) rfl rfl) ?_
      refine q_look (look_fieldAddr Try.underlying35 rfl (fun _ _ => rfl) rfl rfl) ?_
      refine q_look (look_load1 Try.underlying3 rfl rfl rfl (ext_cell (hB2.cell rfl))) ?_
      refine q_look (look_sub rfl rfl rfl rfl (by have := hG.len; have := maxLen_is; unfold I64; omega)) ?_
      refine q_look (look_assign rfl rfl) ?_
      refine q_look (look_assign rfl rfl) ?_
      refine q_look (look_assign rfl rfl) ?_
      refine q_nil ?_
      intro w4 hw4
      replace hX := hX.comp hw4
      replace hB1 := hB1.ext hw4
      replace hB2 := hB2.ext hw4
      replace hB3 := hB3.ext hw4
      replace hP := hP.ext hw4
      replace hQ := hQ.ext hw4
      refine then_normal ?_
      refine wp_seq ?_
      refine region_s ?_
      refine q_look (look_move rfl rfl) ?_
      refine q_look (look_move rfl rfl) ?_
      refine q_look (look_neg (ds := []) rfl rfl (by unfold I64; omega)) ?_
      refine q_look (look_max2 rfl rfl rfl rfl) ?_
      refine q_look (look_move rfl rfl) ?_
      refine q_look (look_move rfl rfl) ?_
      refine q_look (look_neg (ds := []) rfl rfl (by unfold I64; omega)) ?_
      refine q_look (look_max2 rfl rfl rfl rfl) ?_
      refine q_look (look_add rfl rfl rfl rfl (by unfold I64; omega)) ?_
      refine q_look (look_move rfl rfl) ?_
      refine q_look (look_move rfl rfl) ?_
      refine q_look (look_neg (ds := []) rfl rfl (by unfold I64; omega)) ?_
      refine q_look (look_max2 rfl rfl rfl rfl) ?_
      refine q_look (look_add rfl rfl rfl rfl (by unfold I64; omega)) ?_
      refine q_look (Look.as (look_assign rfl rfl) (v' := .int .i64 (farC t.at_ t.by_)) rfl) ?_
      refine q_nil ?_
      rintro _ rfl
      refine then_normal ?_
      refine wp_seq ?_
      refine wp_seq ?_
      refine region_s ?_
      refine q_look (look_move rfl rfl) ?_
      refine q_look (look_move rfl rfl) ?_
      refine q_look (look_lss rfl rfl rfl rfl) ?_
      refine q_look (look_move rfl rfl) ?_
      refine q_lookg rfl rfl rfl (fun hq => look_fieldAddr Try.underlying24 rfl (fun _ _ => rfl) rfl rfl) ?_
      refine q_lookg rfl rfl rfl (fun hq => look_load1 Try.underlying22 rfl rfl hq (eqc (hB1.cell rfl))) ?_
      refine q_lookg rfl rfl rfl (fun hq => look_len_slice Try.underlying22 rfl hq) ?_
      refine q_lookg rfl rfl rfl (fun hq => look_eql rfl hq rfl rfl) ?_
      refine q_lookg rfl rfl rfl (fun hq => look_move rfl hq) ?_
      refine q_lookg rfl rfl rfl (fun hq => look_fieldAddr Try.underlying37 rfl (fun _ _ => rfl) rfl rfl) ?_
      refine q_lookg rfl rfl rfl (fun hq => look_load1 Try.underlying3 rfl rfl hq (eqc (hB2.cell rfl))) ?_
      refine q_lookg rfl rfl rfl (fun hq => look_eql rfl hq rfl rfl) ?_
      refine q_lookg rfl rfl rfl (fun hq => look_and rfl hq rfl hq) ?_
      refine q_lookg rfl rfl rfl (fun hq => look_move rfl hq) ?_
      refine q_lookg rfl rfl rfl (fun hq => look_move rfl rfl) ?_
      refine q_lookg rfl rfl rfl (fun hq => look_move rfl rfl) ?_
      refine q_lookg rfl rfl rfl (fun hq => look_neq rfl hq rfl hq) ?_
      refine q_lookg rfl rfl rfl (fun hq => look_and rfl hq rfl hq) ?_
      refine q_look (look_or rfl rfl rfl rfl) ?_
      refine q_nil ?_
      rintro _ rfl
      refine then_normal ?_
      refine cond_false rfl (by rw [far_f f1 (fun e1 e2 => f2 (List.eq_nil_of_length_eq_zero (by omega)) e2)]) ?_
      refine wp_skip ?_
      refine then_normal ?_
      refine wp_seq ?_
      refine wp_seq ?_
      refine wp_region_lit ?_
      refine s_look (look_loadN Try.underlying24 rfl szTry_24 rfl rfl rfl (eqc_n hB1)) ?_
      refine s_look (look_fieldAddr Try.underlying37 rfl (fun _ _ => rfl) rfl rfl) ?_
      refine s_look (look_loadN Try.underlying35 rfl szTry_35 rfl rfl rfl (cs := ccell t.at_) (eqn (Blk.sub hB2 rfl))) ?_
      refine s_look (look_fieldAddr Try.underlying37 rfl (fun _ _ => rfl) rfl rfl) ?_
      refine s_look (look_loadN Try.underlying35 rfl szTry_35 rfl rfl rfl (cs := ccell t.by_) (eqn (Blk.sub hB2 rfl))) ?_
      refine s_look (look_fieldAddr Try.underlying37 rfl (fun _ _ => rfl) rfl rfl) ?_
      refine s_look (look_load1 Try.underlying3 rfl rfl rfl (eqc (hB2.cell rfl))) ?_
      refine s_look (look_add rfl rfl rfl rfl (by have := hG.len; have := maxLen_is; unfold I64; omega)) ?_
      refine s_call (vs := [_, _, _, _]) enTry_21 ⟨⟨_, rfl, rfl⟩, ⟨_, rfl, rfl⟩, ⟨_, rfl, rfl⟩, ⟨_, rfl, rfl⟩, trivial⟩ (path_any g t.at_ t.by_ (t.left + 1) _ (hG.ext hX)) ?_
      rintro _ u6 ⟨v6, pshR, cohR, erhR, rfl, hc6, hR, pShR⟩
      refine ⟨_, rfl, ?_⟩
      have dis_hP_hR := Own.dis_new hP hR
      have dis_hQ_hR := Own.dis_new hQ hR
      have ne_hR_g1 : Value.ownBlock v6 ≠ some g1 := hR.ne_old hB1.lt
      have ne_hR_g2 : Value.ownBlock v6 ≠ some g2 := hR.ne_old hB2.lt
      have ne_hR_g3 : Value.ownBlock v6 ≠ some g3 := hR.ne_old hB3.lt
      replace hR := hR.weak hX.size
      replace hX := hX.comp hc6
      replace hB1 := hB1.ext hc6
      replace hB2 := hB2.ext hc6
      replace hB3 := hB3.ext hc6
      replace hP := hP.ext hc6
      replace hQ := hQ.ext hc6
      obtain ⟨AhR, chR, rfl, _⟩ := hR.sl hce_c
      refine s_look (look_move rfl rfl) ?_
      refine s_look (look_extract rfl rfl rfl) ?_
      refine s_look (look_extract rfl rfl rfl) ?_
      refine s_look (look_extract rfl rfl rfl) ?_
      refine s_look (look_assign rfl rfl) ?_
      refine s_look (look_assign rfl rfl) ?_
      refine s_look (look_assign rfl rfl) ?_
      refine s_nil ?_
      refine then_normal ?_
      refine wp_seq ?_
      have hbe := fun h9 => bend_ok h0 hfa hfb hbd.1 h9 hGd pShR
      rw [← hco] at hbe
      refine region_s ?_
      refine q_look (look_fieldAddr Try.underlying37 rfl (fun _ _ => rfl) rfl rfl) ?_
      refine q_look (look_load1 Try.underlying3 rfl rfl rfl (eqc (hB2.cell rfl))) ?_
      refine q_look (look_lss rfl rfl rfl rfl) ?_
      refine q_look (look_move rfl rfl) ?_
      refine q_lookg rfl rfl rfl (fun hq => look_move rfl rfl) ?_
      refine q_lookg rfl rfl rfl (fun hq => look_neq rfl hq rfl rfl) ?_
      refine q_lookg rfl rfl rfl (fun hq => look_move rfl hq) ?_
      refine q_lookg rfl rfl rfl (fun hq => look_move rfl rfl) ?_
      refine q_lookg rfl rfl rfl (fun hq => look_move rfl rfl) ?_
      refine q_lookg rfl rfl rfl (fun hq => look_lss rfl hq rfl hq) ?_
      refine q_lookg rfl rfl rfl (fun hq => look_or rfl hq rfl hq) ?_
      refine q_look (look_and rfl rfl rfl rfl) ?_
      refine q_nil ?_
      rintro _ rfl
      refine then_normal ?_
      refine cond_false rfl (by rw [bend_f hbe]) ?_
      refine wp_skip ?_
      refine then_normal ?_
      refine wp_seq ?_
      refine wp_region_lit ?_
      refine s_look (look_fieldAddr Try.underlying24 rfl (fun _ _ => rfl) rfl rfl) ?_
      refine s_look (look_load1 Try.underlying3 rfl rfl rfl (eqc (hB1.cell rfl))) ?_
      refine s_look (look_fieldAddr Try.underlying24 rfl (fun _ _ => rfl) rfl rfl) ?_
      refine s_look (look_load1 Try.underlying3 rfl rfl rfl (eqc (hB1.cell rfl))) ?_
      refine s_look (look_fieldAddr Try.underlying24 rfl (fun _ _ => rfl) rfl rfl) ?_
      refine s_look (look_load1 Try.underlying3 rfl rfl rfl (eqc (hB1.cell rfl))) ?_
      refine s_look (look_build (pl := [(0, 1), (1, 1), (2, 1), (3, 1)]) (parts := [(0, .tmp 154), (1, .tmp 156), (2, .tmp 158)]) (vs := [(0, .int .i64 g.nx), (1, .int .i64 g.ny), (2, .int .i64 g.nz)]) (cells := gcell (mG g none [] 0)) Try.underlying24 zeTry_24 (by kernel_rfl) ⟨⟨_, rfl, rfl⟩, ⟨_, rfl, rfl⟩, ⟨_, rfl, rfl⟩, trivial⟩ rfl (by kernel_rfl)) ?_
      refine s_alloc zeTry_24 ?_
      intro g7 u7 hu7 hB7 hg7 hs7
      have lt_g1_g7 : g1 < g7 := by have := hB1.lt; omega
      have lt_g2_g7 : g2 < g7 := by have := hB2.lt; omega
      have lt_g3_g7 : g3 < g7 := by have := hB3.lt; omega
      have ne_hP_g7 : (Value.ownBlock (.slice AhP (t.at_ :: r).length chP)) ≠ some g7 := hP.ne_new (by omega)
      have ne_hQ_g7 : (Value.ownBlock (.slice AhQ pshQ.length chQ)) ≠ some g7 := hQ.ne_new (by omega)
      have ne_hR_g7 : (Value.ownBlock (.slice AhR pshR.length chR)) ≠ some g7 := hR.ne_new (by omega)
      have ge_g7 : w.heap.size ≤ g7 := by have := hX.size; omega
      replace hX := hX.comp hu7
      replace hB1 := hB1.ext hu7
      replace hB2 := hB2.ext hu7
      replace hB3 := hB3.ext hu7
      replace hP := hP.ext hu7
      replace hQ := hQ.ext hu7
      replace hR := hR.ext hu7
      refine s_store szTry_24 rfl (by simp [ccell, gcell, itcell, rcell, Value.cells, Value.oneCell']) rfl rfl hB7 rfl ?_
      intro u8 hk8 hT8
      replace hT8 : Blk u8 g7 24 (gcell (mG g none [] 0)) := hT8
      replace hX := hX.kp hk8 (by omega)
      replace hB1 := hB1.kp hk8 (by omega)
      replace hB2 := hB2.kp hk8 (by omega)
      replace hB3 := hB3.kp hk8 (by omega)
      replace hP := hP.kp hk8 ne_hP_g7
      replace hQ := hQ.kp hk8 ne_hQ_g7
      replace hR := hR.kp hk8 ne_hR_g7
      clear hB7
      have hB7 := hT8
      refine s_nil ?_
      have hM := (Own.nil ccell 35 3 w.heap.size w).ext hX
      have ne_hM_g1 : Value.ownBlock (.slice none 0 0) ≠ some g1 := by simp [Value.ownBlock]
      have ne_hM_g2 : Value.ownBlock (.slice none 0 0) ≠ some g2 := by simp [Value.ownBlock]
      have ne_hM_g3 : Value.ownBlock (.slice none 0 0) ≠ some g3 := by simp [Value.ownBlock]
      have ne_hM_g7 : Value.ownBlock (.slice none 0 0) ≠ some g7 := by simp [Value.ownBlock]
      refine then_normal ?_
      refine wp_seq ?_
      refine region_q ?_
      refine q_look (look_loadN Try.underlying24 rfl szTry_24 rfl rfl rfl (ext_cell_n hB1)) ?_
      refine q_look (look_loadN Try.underlying35 rfl szTry_35 rfl rfl rfl (ext_cell_n hB3)) ?_
      refine q_call (vs := [_, _]) enTry_24 ⟨⟨_, rfl, rfl⟩, ⟨_, rfl, rfl⟩, trivial⟩ (fun wc hw => cext hw (refblocked_any g c wc (hG.ext (hX.comp hw)))) ?_
      refine q_look (look_move rfl rfl) ?_
      refine q_lookg rfl rfl rfl (fun hq => look_loadN Try.underlying24 rfl szTry_24 rfl rfl rfl (ext_cell_n hB1)) ?_
      refine q_lookg rfl rfl rfl (fun hq => look_loadN Try.underlying35 rfl szTry_35 rfl rfl rfl (ext_cell_n hB3)) ?_
      refine q_callg (vs := [_, _]) rfl rfl rfl enTry_25 (fun hq => ⟨⟨_, rfl, hq⟩, ⟨_, rfl, hq⟩, trivial⟩) (fun hq wc hw => cext hw (refin_any g c wc)) ?_
      refine q_lookg rfl rfl rfl (fun hq => look_not rfl hq) ?_
      refine q_look (look_or rfl rfl rfl rfl) ?_
      refine q_look (look_assign rfl rfl) ?_
      refine q_nil ?_
      intro w5 hw5
      replace hX := hX.comp hw5
      replace hB1 := hB1.ext hw5
      replace hB2 := hB2.ext hw5
      replace hB3 := hB3.ext hw5
      replace hB7 := hB7.ext hw5
      replace hM := hM.ext hw5
      refine then_normal ?_
      refine wp_seq ?_
      refine wp_seq ?_
      refine region_s ?_
      refine q_look (look_assign rfl rfl) ?_
      refine q_nil ?_
      rintro _ rfl
      refine then_normal ?_
      refine wp_block ?_
      refine loop_act (fun (ls : Nat × Bool × List Cl × Option Addr × Nat) => [(3, .pointer (some ⟨g1, 0, none⟩)), (4, .pointer (some ⟨g2, 0, none⟩)), (5, .pointer (some ⟨g3, 0, none⟩)), (8, .int .i64 cohP), (20, .pointer (some ⟨g7, 0, none⟩)), (21, .bool ls.2.1), (22, .int .i64 (ls.1 : Int))]) (fun ls w' => (Ext w w') ∧ (Blk w' g1 24 (gcell g)) ∧ (Blk w' g2 37 (itcell t)) ∧ (Blk w' g3 35 (ccell c)) ∧ (Blk w' g7 24 (gcell (mG g ls.2.2.2.1 ls.2.2.1 ls.2.2.2.2))) ∧ (Core.Own ccell 35 3 w.heap.size w' (.slice ls.2.2.2.1 ls.2.2.1.length ls.2.2.2.2) ls.2.2.1) ∧ (Value.ownBlock (.slice ls.2.2.2.1 ls.2.2.1.length ls.2.2.2.2) ≠ some g1) ∧ (Value.ownBlock (.slice ls.2.2.2.1 ls.2.2.1.length ls.2.2.2.2) ≠ some g2) ∧ (Value.ownBlock (.slice ls.2.2.2.1 ls.2.2.1.length ls.2.2.2.2) ≠ some g3) ∧ (Value.ownBlock (.slice ls.2.2.2.1 ls.2.2.1.length ls.2.2.2.2) ≠ some g7) ∧ (ls.1 ≤ g.bl.length) ∧ (Ins g c (decide (c ∈ g.bl) || !inB g c) ls.1 ls.2.1 ls.2.2.1)) (fun ls => g.bl.length - ls.1) ((0, (decide (c ∈ g.bl) || !inB g c), [], none, 0)) ?_ ?_ ?_
      · exact ⟨rfl, rfl, rfl, rfl, rfl, rfl, rfl, trivial⟩
      · exact ⟨hX, hB1, hB2, hB3, hB7, hM, ne_hM_g1, ne_hM_g2, ne_hM_g3, ne_hM_g7, Nat.zero_le _, Ins.start _ _ _⟩
      · rintro ⟨k, dn, ol, A4, c4⟩ σ wr hF
        obtain ⟨hX, hB1, hB2, hB3, hB7, hM, ne_hM_g1, ne_hM_g2, ne_hM_g3, ne_hM_g7, hk, hI⟩ : (Ext w wr) ∧ (Blk wr g1 24 (gcell g)) ∧ (Blk wr g2 37 (itcell t)) ∧ (Blk wr g3 35 (ccell c)) ∧ (Blk wr g7 24 (gcell (mG g A4 ol c4))) ∧ (Core.Own ccell 35 3 w.heap.size wr (.slice A4 ol.length c4) ol) ∧ (Value.ownBlock (.slice A4 ol.length c4) ≠ some g1) ∧ (Value.ownBlock (.slice A4 ol.length c4) ≠ some g2) ∧ (Value.ownBlock (.slice A4 ol.length c4) ≠ some g3) ∧ (Value.ownBlock (.slice A4 ol.length c4) ≠ some g7) ∧ (k ≤ g.bl.length) ∧ (Ins g c (decide (c ∈ g.bl) || !inB g c) k dn ol) := hF
        show Code.wp _ _ _ (act 257 [(3, true, .pointer (some ⟨g1, 0, none⟩)), (4, true, .pointer (some ⟨g2, 0, none⟩)), (5, true, .pointer (some ⟨g3, 0, none⟩)), (8, true, .int .i64 cohP), (20, true, .pointer (some ⟨g7, 0, none⟩)), (21, true, .bool dn), (22, true, .int .i64 (k : Int))] _) _
        refine wp_seq ?_
        refine wp_seq ?_
        refine region_s ?_
        refine q_look (look_move rfl rfl) ?_
        refine q_look (look_fieldAddr Try.underlying24 rfl (fun _ _ => rfl) rfl rfl) ?_
        refine q_look (look_load1 Try.underlying22 rfl rfl rfl (eqc (hB1.cell rfl))) ?_
        refine q_look (look_len_slice Try.underlying22 rfl rfl) ?_
        refine q_look (look_lss rfl rfl rfl rfl) ?_
        refine q_nil ?_
        rintro _ rfl
        refine then_normal ?_
        refine cond_split rfl (fun hc173 => ?_) (fun hc173 => ?_)
        · have hlt : k < g.bl.length := by have := nn_t hc173; omega
          obtain ⟨y, hy⟩ := get_lt hlt
          obtain ⟨b1, o1, hA1, hr1⟩ := (hG.sl.ext hX).at_ hlt
          have hbl3 := bl_small hs (chk_ok h0).2.1 hs2
          have hIl := hI.len
          refine wp_skip ?_
          refine then_normal ?_
          refine wp_seq ?_
          refine wp_block ?_
          refine wp_seq ?_
          refine wp_seq ?_
          refine region_qd mixed (by kernel_rfl) ?_
          refine q_look (look_move rfl rfl) ?_
          refine q_look (look_not rfl rfl) ?_
          refine q_look (look_move rfl rfl) ?_
          refine q_lookg rfl rfl rfl (fun hq => look_loadN Try.underlying35 rfl szTry_35 rfl rfl rfl (ext_cell_n hB3)) ?_
          refine q_lookg rfl rfl rfl (fun hq => look_fieldAddr Try.underlying24 rfl (fun _ _ => rfl) rfl rfl) ?_
          refine q_lookg rfl rfl rfl (fun hq => Look.as (look_load1 Try.underlying22 rfl rfl hq (ext_cell (hB1.cell rfl))) (v' := .slice (some ⟨b1, o1, none⟩) g.bl.length g.cap) (by rw [hA1])) ?_
          refine q_lookg rfl rfl rfl (fun hq => look_move rfl rfl) ?_
          refine q_lookg rfl rfl rfl (fun hq => look_indexAddr _ Try.underlying22 szTry_35 rfl hq rfl hq rfl (by omega)) ?_
          refine q_lookg rfl rfl rfl (fun hq => look_loadN Try.underlying35 rfl szTry_35 rfl rfl hq (cs := ccell y) (extn (hr1 k y hy))) ?_
          refine q_callg (vs := [_, _]) rfl rfl rfl enTry_23 (fun hq => ⟨⟨_, rfl, hq⟩, ⟨_, rfl, hq⟩, trivial⟩) (fun hq wc hw => cext hw (before_any c y wc)) ?_
          refine q_look (look_and rfl rfl rfl rfl) ?_
          refine q_nil ?_
          intro w6 hw6
          replace hX := hX.comp hw6
          replace hB1 := hB1.ext hw6
          replace hB2 := hB2.ext hw6
          replace hB3 := hB3.ext hw6
          replace hB7 := hB7.ext hw6
          replace hM := hM.ext hw6
          refine then_normal ?_
          refine cond_split rfl (fun hc186 => ?_) (fun hc186 => ?_)
          · obtain ⟨rfl, hcy⟩ := put_t hc186
            have hI2 := hI.put hs2 hy hcy
            refine wp_seq ?_
            refine wp_region_lit ?_
            refine s_look (look_fieldAddr Try.underlying24 rfl (fun _ _ => rfl) rfl rfl) ?_
            refine s_look (look_load1 Try.underlying22 rfl rfl rfl (eqc (hB7.cell rfl))) ?_
            refine s_look (look_loadN Try.underlying35 rfl szTry_35 rfl rfl rfl (eqc_n hB3)) ?_
            refine s_buildSlice (parts := [(0, .tmp 189)]) (vs := [(0, .agg (ccell c).toArray)]) (cells := ccell c) Try.underlying22 szTry_35 zeTry_35 rfl rfl ⟨⟨_, rfl, rfl⟩, trivial⟩ rfl (by kernel_rfl) ?_
            intro g9 u9 hu9 hB9 hg9 hs9
            have lt_g1_g9 : g1 < g9 := by have := hB1.lt; omega
            have lt_g2_g9 : g2 < g9 := by have := hB2.lt; omega
            have lt_g3_g9 : g3 < g9 := by have := hB3.lt; omega
            have lt_g7_g9 : g7 < g9 := by have := hB7.lt; omega
            have ne_hM_g9 : (Value.ownBlock (.slice A4 ol.length c4)) ≠ some g9 := hM.ne_new (by omega)
            have ge_g9 : w.heap.size ≤ g9 := by have := hX.size; omega
            replace hX := hX.comp hu9
            replace hB1 := hB1.ext hu9
            replace hB2 := hB2.ext hu9
            replace hB3 := hB3.ext hu9
            replace hB7 := hB7.ext hu9
            replace hM := hM.ext hu9
            have hsz10 := hX.size
            refine s_appendL (ce := ccell) (news := [c]) Try.underlying22 zsbTry_35 rfl rfl rfl hM rfl (Blk.src (x := c) rfl (by simp [ccell, Value.oneCell']) hB9) (by have := maxLen_is; simp only [List.length_append, List.length_cons, List.length_nil]; omega) (by simp only [List.length_append, List.length_cons, List.length_nil]; omega) (by omega) ?_
            intro v10 u10 hN10 hgr10 hat10
            replace hX := hX.grow hM (Nat.le_refl _) hgr10
            have hn_hB1 := hB1.grown hgr10 ne_hM_g1
            have hn_hB2 := hB2.grown hgr10 ne_hM_g2
            have hn_hB3 := hB3.grown hgr10 ne_hM_g3
            have hn_hB7 := hB7.grown hgr10 ne_hM_g7
            replace ne_hM_g1 := ne_app ne_hM_g1 hB1.lt hat10
            replace ne_hM_g2 := ne_app ne_hM_g2 hB2.lt hat10
            replace ne_hM_g3 := ne_app ne_hM_g3 hB3.lt hat10
            replace ne_hM_g7 := ne_app ne_hM_g7 hB7.lt hat10
            clear hB1
            have hB1 := hn_hB1
            clear hn_hB1
            clear hB2
            have hB2 := hn_hB2
            clear hn_hB2
            clear hB3
            have hB3 := hn_hB3
            clear hn_hB3
            clear hB7
            have hB7 := hn_hB7
            clear hn_hB7
            clear hM
            have hM := hN10
            obtain ⟨A5, c5, rfl, _⟩ := hM.sl hce_c
            refine s_look (look_fieldAddr Try.underlying24 rfl (fun _ _ => rfl) rfl rfl) ?_
            refine s_store1 szTry_22 rfl rfl rfl rfl hB7 rfl ?_
            intro u11 hk11 hT11
            replace hT11 : Blk u11 g7 24 (gcell (mG g A5 (ol ++ [c]) c5)) := hT11
            replace hX := hX.kp hk11 (by omega)
            replace hB1 := hB1.kp hk11 (by omega)
            replace hB2 := hB2.kp hk11 (by omega)
            replace hB3 := hB3.kp hk11 (by omega)
            replace hM := hM.kp hk11 ne_hM_g7
            clear hB7
            have hB7 := hT11
            refine s_nil ?_
            refine then_normal ?_
            refine region_s ?_
            refine q_look (look_assign rfl rfl) ?_
            refine q_nil ?_
            rintro _ rfl
            refine then_normal ?_
            have hYs : Sl ccell 3 _ (some ⟨b1, o1, none⟩) g.bl := hA1 ▸ (hG.sl.ext hX)
            refine region_hl (fun W => Ext w W ∧ Blk W g1 24 (gcell g) ∧ Blk W g2 37 (itcell t) ∧ Blk W g3 35 (ccell c) ∧ Blk W g7 24 (gcell (mG g A5 (ol ++ [c]) c5)) ∧ Core.Own ccell 35 3 w.heap.size W (.slice A5 ((ol ++ [c])).length c5) ((ol ++ [c])) ∧ Sl ccell 3 W (some ⟨b1, o1, none⟩) g.bl) [8, 9, 10] (tl := [_, _, _]) rfl [(0, true), (1, true), (2, true), (3, true), (4, true), (5, true), (6, true), (7, false)] mixed (by kernel_rfl) rfl (by kernel_rfl) (by repeat (first | exact pk_body | refine pk_then ?_ | refine pk_block ?_))  ?_
            intro u12 hR12
            replace hX := hX.comp hR12
            replace hB1 := hB1.ext hR12
            replace hB2 := hB2.ext hR12
            replace hB3 := hB3.ext hR12
            replace hB7 := hB7.ext hR12
            replace hM := hM.ext hR12
            replace hYs := hYs.ext hR12
            refine ⟨⟨hX, hB1, hB2, hB3, hB7, hM, hYs⟩, ?_⟩
            refine h_look rfl (look_fieldAddr Try.underlying24 rfl (fun _ _ => rfl) rfl rfl) ?_
            refine h_look rfl (look_load1 Try.underlying22 rfl rfl rfl (fun w' hS => (hS.2.2.2.2.1).cell rfl)) ?_
            refine h_look rfl (look_fieldAddr Try.underlying24 rfl (fun _ _ => rfl) rfl rfl) ?_
            refine h_look rfl (Look.as (look_load1 Try.underlying22 rfl rfl rfl (fun w' hS => (hS.2.1).cell rfl)) (v' := .slice (some ⟨b1, o1, none⟩) g.bl.length g.cap) (by rw [hA1])) ?_
            refine h_look rfl (look_move rfl rfl) ?_
            refine h_look rfl (look_indexAddr k Try.underlying22 szTry_35 rfl rfl rfl rfl rfl (by omega)) ?_
            refine h_look rfl (look_loadN Try.underlying35 rfl szTry_35 rfl rfl rfl (cs := ccell y) (fun w' hS => (hS.2.2.2.2.2.2.rd k y hy))) ?_
            refine h_seq rfl ?_ ⟨hX, hB1, hB2, hB3, hB7, hM, hYs⟩
            refine s_buildSlice (parts := [(0, .tmp 199)]) (vs := [(0, .agg (ccell y).toArray)]) (cells := ccell y) Try.underlying22 szTry_35 zeTry_35 rfl rfl ⟨⟨_, rfl, rfl⟩, trivial⟩ rfl (by kernel_rfl) ?_
            intro g13 u13 hu13 hB13 hg13 hs13
            have lt_g1_g13 : g1 < g13 := by have := hB1.lt; omega
            have lt_g2_g13 : g2 < g13 := by have := hB2.lt; omega
            have lt_g3_g13 : g3 < g13 := by have := hB3.lt; omega
            have lt_g7_g13 : g7 < g13 := by have := hB7.lt; omega
            have ne_hM_g13 : (Value.ownBlock (.slice A5 ((ol ++ [c])).length c5)) ≠ some g13 := hM.ne_new (by omega)
            have ge_g13 : w.heap.size ≤ g13 := by have := hX.size; omega
            replace hX := hX.comp hu13
            replace hB1 := hB1.ext hu13
            replace hB2 := hB2.ext hu13
            replace hB3 := hB3.ext hu13
            replace hB7 := hB7.ext hu13
            replace hM := hM.ext hu13
            replace hYs := hYs.ext hu13
            refine s_nil ?_
            refine then_normal ?_
            refine ⟨⟨hX, hB1, hB2, hB3, hB7, hM, hYs⟩, ?_⟩
            refine h_nil ?_
            refine then_wpl ?_
            have hsz14 := hX.size
            refine s_appendL (ce := ccell) (news := [y]) Try.underlying22 zsbTry_35 rfl rfl rfl hM rfl (Blk.src (x := y) rfl (by simp [ccell, Value.oneCell']) hB13) (by have := maxLen_is; simp only [List.length_append, List.length_cons, List.length_nil]; omega) (by simp only [List.length_append, List.length_cons, List.length_nil]; omega) (by omega) ?_
            intro v14 u14 hN14 hgr14 hat14
            replace hX := hX.grow hM (Nat.le_refl _) hgr14
            have hn_hB1 := hB1.grown hgr14 ne_hM_g1
            have hn_hB2 := hB2.grown hgr14 ne_hM_g2
            have hn_hB3 := hB3.grown hgr14 ne_hM_g3
            have hn_hB7 := hB7.grown hgr14 ne_hM_g7
            replace ne_hM_g1 := ne_app ne_hM_g1 hB1.lt hat14
            replace ne_hM_g2 := ne_app ne_hM_g2 hB2.lt hat14
            replace ne_hM_g3 := ne_app ne_hM_g3 hB3.lt hat14
            replace ne_hM_g7 := ne_app ne_hM_g7 hB7.lt hat14
            clear hB1
            have hB1 := hn_hB1
            clear hn_hB1
            clear hB2
            have hB2 := hn_hB2
            clear hn_hB2
            clear hB3
            have hB3 := hn_hB3
            clear hn_hB3
            clear hB7
            have hB7 := hn_hB7
            clear hn_hB7
            clear hM
            have hM := hN14
            obtain ⟨A6, c6, rfl, _⟩ := hM.sl hce_c
            refine s_look (look_fieldAddr Try.underlying24 rfl (fun _ _ => rfl) rfl rfl) ?_
            refine s_store1 szTry_22 rfl rfl rfl rfl hB7 rfl ?_
            intro u15 hk15 hT15
            replace hT15 : Blk u15 g7 24 (gcell (mG g A6 (((ol ++ [c]) ++ [y])) c6)) := hT15
            replace hX := hX.kp hk15 (by omega)
            replace hB1 := hB1.kp hk15 (by omega)
            replace hB2 := hB2.kp hk15 (by omega)
            replace hB3 := hB3.kp hk15 (by omega)
            replace hM := hM.kp hk15 ne_hM_g7
            clear hB7
            have hB7 := hT15
            refine s_nil ?_
            refine inB_normal ?_
            refine then_normal ?_
            refine region_s ?_
            refine q_look (look_move rfl rfl) ?_
            refine q_look (look_add rfl rfl rfl rfl (by have := hG.len; have := maxLen_is; unfold I64; omega)) ?_
            refine q_look (look_assign rfl rfl) ?_
            refine q_nil ?_
            rintro _ rfl
            exact loop_end ((k + 1, true, ol ++ [c] ++ [y], A6, c6)) (by simp only []; omega) ⟨rfl, rfl, rfl, rfl, rfl, rfl, rfl, trivial⟩ ⟨hX, hB1, hB2, hB3, hB7, hM, ne_hM_g1, ne_hM_g2, ne_hM_g3, ne_hM_g7, by show k + 1 ≤ g.bl.length; omega, (hI2.next hs2 hy (fun e => by cases e))⟩
          · skip
            refine wp_skip ?_
            refine then_normal ?_
            have hYs : Sl ccell 3 _ (some ⟨b1, o1, none⟩) g.bl := hA1 ▸ (hG.sl.ext hX)
            refine region_hl (fun W => Ext w W ∧ Blk W g1 24 (gcell g) ∧ Blk W g2 37 (itcell t) ∧ Blk W g3 35 (ccell c) ∧ Blk W g7 24 (gcell (mG g A4 ol c4)) ∧ Core.Own ccell 35 3 w.heap.size W (.slice A4 ol.length c4) (ol) ∧ Sl ccell 3 W (some ⟨b1, o1, none⟩) g.bl) [8, 9, 10] (tl := [_, _, _]) rfl [(0, true), (1, true), (2, true), (3, true), (4, true), (5, true), (6, true), (7, false)] mixed (by kernel_rfl) rfl (by kernel_rfl) (by repeat (first | exact pk_body | refine pk_then ?_ | refine pk_block ?_))  ?_
            intro u16 hR16
            replace hX := hX.comp hR16
            replace hB1 := hB1.ext hR16
            replace hB2 := hB2.ext hR16
            replace hB3 := hB3.ext hR16
            replace hB7 := hB7.ext hR16
            replace hM := hM.ext hR16
            replace hYs := hYs.ext hR16
            refine ⟨⟨hX, hB1, hB2, hB3, hB7, hM, hYs⟩, ?_⟩
            refine h_look rfl (look_fieldAddr Try.underlying24 rfl (fun _ _ => rfl) rfl rfl) ?_
            refine h_look rfl (look_load1 Try.underlying22 rfl rfl rfl (fun w' hS => (hS.2.2.2.2.1).cell rfl)) ?_
            refine h_look rfl (look_fieldAddr Try.underlying24 rfl (fun _ _ => rfl) rfl rfl) ?_
            refine h_look rfl (Look.as (look_load1 Try.underlying22 rfl rfl rfl (fun w' hS => (hS.2.1).cell rfl)) (v' := .slice (some ⟨b1, o1, none⟩) g.bl.length g.cap) (by rw [hA1])) ?_
            refine h_look rfl (look_move rfl rfl) ?_
            refine h_look rfl (look_indexAddr k Try.underlying22 szTry_35 rfl rfl rfl rfl rfl (by omega)) ?_
            refine h_look rfl (look_loadN Try.underlying35 rfl szTry_35 rfl rfl rfl (cs := ccell y) (fun w' hS => (hS.2.2.2.2.2.2.rd k y hy))) ?_
            refine h_seq rfl ?_ ⟨hX, hB1, hB2, hB3, hB7, hM, hYs⟩
            refine s_buildSlice (parts := [(0, .tmp 199)]) (vs := [(0, .agg (ccell y).toArray)]) (cells := ccell y) Try.underlying22 szTry_35 zeTry_35 rfl rfl ⟨⟨_, rfl, rfl⟩, trivial⟩ rfl (by kernel_rfl) ?_
            intro g17 u17 hu17 hB17 hg17 hs17
            have lt_g1_g17 : g1 < g17 := by have := hB1.lt; omega
            have lt_g2_g17 : g2 < g17 := by have := hB2.lt; omega
            have lt_g3_g17 : g3 < g17 := by have := hB3.lt; omega
            have lt_g7_g17 : g7 < g17 := by have := hB7.lt; omega
            have ne_hM_g17 : (Value.ownBlock (.slice A4 ol.length c4)) ≠ some g17 := hM.ne_new (by omega)
            have ge_g17 : w.heap.size ≤ g17 := by have := hX.size; omega
            replace hX := hX.comp hu17
            replace hB1 := hB1.ext hu17
            replace hB2 := hB2.ext hu17
            replace hB3 := hB3.ext hu17
            replace hB7 := hB7.ext hu17
            replace hM := hM.ext hu17
            replace hYs := hYs.ext hu17
            refine s_nil ?_
            refine then_normal ?_
            refine ⟨⟨hX, hB1, hB2, hB3, hB7, hM, hYs⟩, ?_⟩
            refine h_nil ?_
            refine then_wpl ?_
            have hsz18 := hX.size
            refine s_appendL (ce := ccell) (news := [y]) Try.underlying22 zsbTry_35 rfl rfl rfl hM rfl (Blk.src (x := y) rfl (by simp [ccell, Value.oneCell']) hB17) (by have := maxLen_is; simp only [List.length_append, List.length_cons, List.length_nil]; omega) (by simp only [List.length_append, List.length_cons, List.length_nil]; omega) (by omega) ?_
            intro v18 u18 hN18 hgr18 hat18
            replace hX := hX.grow hM (Nat.le_refl _) hgr18
            have hn_hB1 := hB1.grown hgr18 ne_hM_g1
            have hn_hB2 := hB2.grown hgr18 ne_hM_g2
            have hn_hB3 := hB3.grown hgr18 ne_hM_g3
            have hn_hB7 := hB7.grown hgr18 ne_hM_g7
            replace ne_hM_g1 := ne_app ne_hM_g1 hB1.lt hat18
            replace ne_hM_g2 := ne_app ne_hM_g2 hB2.lt hat18
            replace ne_hM_g3 := ne_app ne_hM_g3 hB3.lt hat18
            replace ne_hM_g7 := ne_app ne_hM_g7 hB7.lt hat18
            clear hB1
            have hB1 := hn_hB1
            clear hn_hB1
            clear hB2
            have hB2 := hn_hB2
            clear hn_hB2
            clear hB3
            have hB3 := hn_hB3
            clear hn_hB3
            clear hB7
            have hB7 := hn_hB7
            clear hn_hB7
            clear hM
            have hM := hN18
            obtain ⟨A6, c6, rfl, _⟩ := hM.sl hce_c
            refine s_look (look_fieldAddr Try.underlying24 rfl (fun _ _ => rfl) rfl rfl) ?_
            refine s_store1 szTry_22 rfl rfl rfl rfl hB7 rfl ?_
            intro u19 hk19 hT19
            replace hT19 : Blk u19 g7 24 (gcell (mG g A6 ((ol ++ [y])) c6)) := hT19
            replace hX := hX.kp hk19 (by omega)
            replace hB1 := hB1.kp hk19 (by omega)
            replace hB2 := hB2.kp hk19 (by omega)
            replace hB3 := hB3.kp hk19 (by omega)
            replace hM := hM.kp hk19 ne_hM_g7
            clear hB7
            have hB7 := hT19
            refine s_nil ?_
            refine inB_normal ?_
            refine then_normal ?_
            refine region_s ?_
            refine q_look (look_move rfl rfl) ?_
            refine q_look (look_add rfl rfl rfl rfl (by have := hG.len; have := maxLen_is; unfold I64; omega)) ?_
            refine q_look (look_assign rfl rfl) ?_
            refine q_nil ?_
            rintro _ rfl
            exact loop_end ((k + 1, dn, ol ++ [y], A6, c6)) (by simp only []; omega) ⟨rfl, rfl, rfl, rfl, rfl, rfl, rfl, trivial⟩ ⟨hX, hB1, hB2, hB3, hB7, hM, ne_hM_g1, ne_hM_g2, ne_hM_g3, ne_hM_g7, by show k + 1 ≤ g.bl.length; omega, hI.next hs2 hy (not_bef hc186 (dn_ne hI hy))⟩
        · have hge : ¬ k < g.bl.length := by have := nn_f hc173; omega
          have hbl3 := bl_small hs (chk_ok h0).2.1 hs2
          have hIl := hI.len
          have hId := hI.done hge
          refine wp_exit ?_
          refine then_exit ?_
          refine then_exit ?_
          refine inB_exit_same ?_
          refine then_normal ?_
          refine wp_seq ?_
          refine wp_seq ?_
          refine region_s ?_
          refine q_look (look_move rfl rfl) ?_
          refine q_look (look_not rfl rfl) ?_
          refine q_nil ?_
          rintro _ rfl
          refine then_normal ?_
          refine cond_split rfl (fun hc204 => ?_) (fun hc204 => ?_)
          · obtain rfl : dn = false := by cases dn with | true => cases hc204 | false => rfl
            obtain ⟨m1, m2, m3⟩ := hId.2 rfl
            refine wp_region_lit ?_
            refine s_look (look_fieldAddr Try.underlying24 rfl (fun _ _ => rfl) rfl rfl) ?_
            refine s_look (look_load1 Try.underlying22 rfl rfl rfl (eqc (hB7.cell rfl))) ?_
            refine s_look (look_loadN Try.underlying35 rfl szTry_35 rfl rfl rfl (eqc_n hB3)) ?_
            refine s_buildSlice (parts := [(0, .tmp 207)]) (vs := [(0, .agg (ccell c).toArray)]) (cells := ccell c) Try.underlying22 szTry_35 zeTry_35 rfl rfl ⟨⟨_, rfl, rfl⟩, trivial⟩ rfl (by kernel_rfl) ?_
            intro g20 u20 hu20 hB20 hg20 hs20
            have lt_g1_g20 : g1 < g20 := by have := hB1.lt; omega
            have lt_g2_g20 : g2 < g20 := by have := hB2.lt; omega
            have lt_g3_g20 : g3 < g20 := by have := hB3.lt; omega
            have lt_g7_g20 : g7 < g20 := by have := hB7.lt; omega
            have ne_hM_g20 : (Value.ownBlock (.slice A4 ol.length c4)) ≠ some g20 := hM.ne_new (by omega)
            have ge_g20 : w.heap.size ≤ g20 := by have := hX.size; omega
            replace hX := hX.comp hu20
            replace hB1 := hB1.ext hu20
            replace hB2 := hB2.ext hu20
            replace hB3 := hB3.ext hu20
            replace hB7 := hB7.ext hu20
            replace hM := hM.ext hu20
            have hsz21 := hX.size
            refine s_appendL (ce := ccell) (news := [c]) Try.underlying22 zsbTry_35 rfl rfl rfl hM rfl (Blk.src (x := c) rfl (by simp [ccell, Value.oneCell']) hB20) (by have := maxLen_is; simp only [List.length_append, List.length_cons, List.length_nil]; omega) (by simp only [List.length_append, List.length_cons, List.length_nil]; omega) (by omega) ?_
            intro v21 u21 hN21 hgr21 hat21
            replace hX := hX.grow hM (Nat.le_refl _) hgr21
            have hn_hB1 := hB1.grown hgr21 ne_hM_g1
            have hn_hB2 := hB2.grown hgr21 ne_hM_g2
            have hn_hB3 := hB3.grown hgr21 ne_hM_g3
            have hn_hB7 := hB7.grown hgr21 ne_hM_g7
            replace ne_hM_g1 := ne_app ne_hM_g1 hB1.lt hat21
            replace ne_hM_g2 := ne_app ne_hM_g2 hB2.lt hat21
            replace ne_hM_g3 := ne_app ne_hM_g3 hB3.lt hat21
            replace ne_hM_g7 := ne_app ne_hM_g7 hB7.lt hat21
            clear hB1
            have hB1 := hn_hB1
            clear hn_hB1
            clear hB2
            have hB2 := hn_hB2
            clear hn_hB2
            clear hB3
            have hB3 := hn_hB3
            clear hn_hB3
            clear hB7
            have hB7 := hn_hB7
            clear hn_hB7
            clear hM
            have hM := hN21
            obtain ⟨A7, c7, rfl, _⟩ := hM.sl hce_c
            refine s_look (look_fieldAddr Try.underlying24 rfl (fun _ _ => rfl) rfl rfl) ?_
            refine s_store1 szTry_22 rfl rfl rfl rfl hB7 rfl ?_
            intro u22 hk22 hT22
            replace hT22 : Blk u22 g7 24 (gcell (mG g A7 (ol ++ [c]) c7)) := hT22
            replace hX := hX.kp hk22 (by omega)
            replace hB1 := hB1.kp hk22 (by omega)
            replace hB2 := hB2.kp hk22 (by omega)
            replace hB3 := hB3.kp hk22 (by omega)
            replace hM := hM.kp hk22 ne_hM_g7
            clear hB7
            have hB7 := hT22
            refine s_nil ?_
            refine then_normal ?_
            refine wp_seq ?_
            refine wp_region_lit ?_
            refine s_look (look_loadN Try.underlying24 rfl szTry_24 rfl rfl rfl (eqc_n hB7)) ?_
            refine s_look (look_fieldAddr Try.underlying37 rfl (fun _ _ => rfl) rfl rfl) ?_
            refine s_look (look_loadN Try.underlying35 rfl szTry_35 rfl rfl rfl (cs := ccell t.at_) (eqn (Blk.sub hB2 rfl))) ?_
            refine s_look (look_fieldAddr Try.underlying37 rfl (fun _ _ => rfl) rfl rfl) ?_
            refine s_look (look_loadN Try.underlying35 rfl szTry_35 rfl rfl rfl (cs := ccell t.by_) (eqn (Blk.sub hB2 rfl))) ?_
            refine s_look (look_fieldAddr Try.underlying37 rfl (fun _ _ => rfl) rfl rfl) ?_
            refine s_look (look_load1 Try.underlying3 rfl rfl rfl (eqc (hB2.cell rfl))) ?_
            refine s_call (vs := [_, _, _, _]) enTry_21 ⟨⟨_, rfl, rfl⟩, ⟨_, rfl, rfl⟩, ⟨_, rfl, rfl⟩, ⟨_, rfl, rfl⟩, trivial⟩ (path_any (mG g A7 (ol ++ [c]) c7) t.at_ t.by_ t.left _ ⟨(hM.slOf hce_c).1, by show ((ol ++ [c])).length ≤ maxLen; have := maxLen_is; (try simp only [List.length_append, List.length_cons, List.length_nil]); omega, hG.i⟩) ?_
            rintro _ u23 ⟨v23, pshZ, cohZ, erhZ, rfl, hc23, hZ, pShZ⟩
            refine ⟨_, rfl, ?_⟩
            have dis_hM_hZ := Own.dis_new hM hZ
            have ne_hZ_g1 : Value.ownBlock v23 ≠ some g1 := hZ.ne_old hB1.lt
            have ne_hZ_g2 : Value.ownBlock v23 ≠ some g2 := hZ.ne_old hB2.lt
            have ne_hZ_g3 : Value.ownBlock v23 ≠ some g3 := hZ.ne_old hB3.lt
            have ne_hZ_g7 : Value.ownBlock v23 ≠ some g7 := hZ.ne_old hB7.lt
            replace hZ := hZ.weak hX.size
            replace hX := hX.comp hc23
            replace hB1 := hB1.ext hc23
            replace hB2 := hB2.ext hc23
            replace hB3 := hB3.ext hc23
            replace hB7 := hB7.ext hc23
            replace hM := hM.ext hc23
            obtain ⟨AhZ, chZ, rfl, _⟩ := hZ.sl hce_c
            refine s_look (look_move rfl rfl) ?_
            refine s_look (look_extract rfl rfl rfl) ?_
            refine s_look (look_extract rfl rfl rfl) ?_
            refine s_look (look_extract rfl rfl rfl) ?_
            refine s_look (look_assign rfl rfl) ?_
            refine s_look (look_assign rfl rfl) ?_
            refine s_look (look_assign rfl rfl) ?_
            refine s_nil ?_
            obtain ⟨t1, t2⟩ := more_ok h0 hfa hfb hbd hGd dn_in m1 m2 m3 pShZ
            rw [← hco] at t1
            have hfin := turn_t t1 t2
            refine then_normal ?_
            refine wp_seq ?_
            refine region_q ?_
            refine q_look (look_move rfl rfl) ?_
            refine q_look (look_neq rfl rfl rfl rfl) ?_
            refine q_look (look_move rfl rfl) ?_
            refine q_lookg rfl rfl rfl (fun hq => look_move rfl rfl) ?_
            refine q_lookg rfl rfl rfl (fun hq => look_move rfl rfl) ?_
            refine q_lookg rfl rfl rfl (fun hq => look_geq rfl hq rfl hq) ?_
            refine q_look (look_or rfl rfl rfl rfl) ?_
            refine q_look (look_move rfl rfl) ?_
            refine q_lookg rfl rfl rfl (fun hq => look_move rfl rfl) ?_
            refine q_lookg rfl rfl rfl (fun hq => look_eql rfl hq rfl rfl) ?_
            refine q_lookg rfl rfl rfl (fun hq => look_move rfl hq) ?_
            refine q_lookg rfl rfl rfl (fun hq => look_move rfl rfl) ?_
            refine q_lookg rfl rfl rfl (fun hq => look_eql rfl hq rfl rfl) ?_
            refine q_lookg rfl rfl rfl (fun hq => look_or rfl hq rfl hq) ?_
            refine q_lookg rfl rfl rfl (fun hq => look_move rfl hq) ?_
            refine q_lookg rfl rfl rfl (fun hq => look_move rfl rfl) ?_
            refine q_lookg rfl rfl rfl (fun hq => look_eql rfl hq rfl rfl) ?_
            refine q_lookg rfl rfl rfl (fun hq => look_move rfl hq) ?_
            refine q_lookg rfl rfl rfl (fun hq => look_loadN Try.underlying35 rfl szTry_35 rfl rfl rfl (ext_cell_n hB3)) ?_
            refine q_lookg rfl rfl rfl (fun hq => look_fieldAddr Try.underlying37 rfl (fun _ _ => rfl) rfl rfl) ?_
            refine q_lookg rfl rfl rfl (fun hq => look_loadN Try.underlying35 rfl szTry_35 rfl rfl hq (cs := ccell t.at_) (extn (Blk.sub hB2 rfl))) ?_
            refine q_lookg rfl rfl rfl (fun hq => look_eql_flat Try.underlying35 stood35 guard35 rfl hq rfl hq (eqC _ _)) ?_
            refine q_lookg rfl rfl rfl (fun hq => look_move rfl hq) ?_
            refine q_lookg rfl rfl rfl (fun hq => look_loadN Try.underlying35 rfl szTry_35 rfl rfl rfl (ext_cell_n hB3)) ?_
            refine q_lookg rfl rfl rfl (fun hq => look_fieldAddr Try.underlying37 rfl (fun _ _ => rfl) rfl rfl) ?_
            refine q_lookg rfl rfl rfl (fun hq => look_loadN Try.underlying35 rfl szTry_35 rfl rfl hq (cs := ccell t.by_) (extn (Blk.sub hB2 rfl))) ?_
            refine q_lookg rfl rfl rfl (fun hq => look_eql_flat Try.underlying35 stood35 guard35 rfl hq rfl hq (eqC _ _)) ?_
            refine q_lookg rfl rfl rfl (fun hq => look_or rfl hq rfl hq) ?_
            refine q_lookg rfl rfl rfl (fun hq => look_and rfl hq rfl hq) ?_
            refine q_lookg rfl rfl rfl (fun hq => look_or rfl hq rfl hq) ?_
            refine q_look (look_and rfl rfl rfl rfl) ?_
            refine q_look (look_move rfl rfl) ?_
            refine q_callg (vs := []) rfl rfl rfl enTry_10 (fun hq => trivial) (fun hq wc hw => cext hw (awake_any wc)) ?_
            refine q_look (look_and rfl rfl rfl rfl) ?_
            refine q_look (look_assign rfl rfl) ?_
            refine q_nil ?_
            intro w7 hw7
            replace hX := hX.comp hw7
            replace hB1 := hB1.ext hw7
            replace hB2 := hB2.ext hw7
            replace hB3 := hB3.ext hw7
            replace hB7 := hB7.ext hw7
            replace hM := hM.ext hw7
            replace hZ := hZ.ext hw7
            refine then_normal ?_
            refine wp_ret ?_
            exact res1 Try.results7 rfl ⟨ret_bool (by first | rfl | (rw [hfin]; rfl)), hX⟩
          · obtain rfl : dn = true := by cases dn with | true => rfl | false => cases hc204
            obtain ⟨m1, m2, m3⟩ := hId.1 rfl
            refine wp_skip ?_
            refine then_normal ?_
            refine wp_seq ?_
            refine wp_region_lit ?_
            refine s_look (look_loadN Try.underlying24 rfl szTry_24 rfl rfl rfl (eqc_n hB7)) ?_
            refine s_look (look_fieldAddr Try.underlying37 rfl (fun _ _ => rfl) rfl rfl) ?_
            refine s_look (look_loadN Try.underlying35 rfl szTry_35 rfl rfl rfl (cs := ccell t.at_) (eqn (Blk.sub hB2 rfl))) ?_
            refine s_look (look_fieldAddr Try.underlying37 rfl (fun _ _ => rfl) rfl rfl) ?_
            refine s_look (look_loadN Try.underlying35 rfl szTry_35 rfl rfl rfl (cs := ccell t.by_) (eqn (Blk.sub hB2 rfl))) ?_
            refine s_look (look_fieldAddr Try.underlying37 rfl (fun _ _ => rfl) rfl rfl) ?_
            refine s_look (look_load1 Try.underlying3 rfl rfl rfl (eqc (hB2.cell rfl))) ?_
            refine s_call (vs := [_, _, _, _]) enTry_21 ⟨⟨_, rfl, rfl⟩, ⟨_, rfl, rfl⟩, ⟨_, rfl, rfl⟩, ⟨_, rfl, rfl⟩, trivial⟩ (path_any (mG g A4 ol c4) t.at_ t.by_ t.left _ ⟨(hM.slOf hce_c).1, by show (ol).length ≤ maxLen; have := maxLen_is; (try simp only [List.length_append, List.length_cons, List.length_nil]); omega, hG.i⟩) ?_
            rintro _ u24 ⟨v24, pshZ, cohZ, erhZ, rfl, hc24, hZ, pShZ⟩
            refine ⟨_, rfl, ?_⟩
            have dis_hM_hZ := Own.dis_new hM hZ
            have ne_hZ_g1 : Value.ownBlock v24 ≠ some g1 := hZ.ne_old hB1.lt
            have ne_hZ_g2 : Value.ownBlock v24 ≠ some g2 := hZ.ne_old hB2.lt
            have ne_hZ_g3 : Value.ownBlock v24 ≠ some g3 := hZ.ne_old hB3.lt
            have ne_hZ_g7 : Value.ownBlock v24 ≠ some g7 := hZ.ne_old hB7.lt
            replace hZ := hZ.weak hX.size
            replace hX := hX.comp hc24
            replace hB1 := hB1.ext hc24
            replace hB2 := hB2.ext hc24
            replace hB3 := hB3.ext hc24
            replace hB7 := hB7.ext hc24
            replace hM := hM.ext hc24
            obtain ⟨AhZ, chZ, rfl, _⟩ := hZ.sl hce_c
            refine s_look (look_move rfl rfl) ?_
            refine s_look (look_extract rfl rfl rfl) ?_
            refine s_look (look_extract rfl rfl rfl) ?_
            refine s_look (look_extract rfl rfl rfl) ?_
            refine s_look (look_assign rfl rfl) ?_
            refine s_look (look_assign rfl rfl) ?_
            refine s_look (look_assign rfl rfl) ?_
            refine s_nil ?_
            obtain ⟨t1, t2⟩ := more_ok h0 hfa hfb hbd hGd dn_in m1 m2 m3 pShZ
            rw [← hco] at t1
            have hfin := turn_t t1 t2
            refine then_normal ?_
            refine wp_seq ?_
            refine region_q ?_
            refine q_look (look_move rfl rfl) ?_
            refine q_look (look_neq rfl rfl rfl rfl) ?_
            refine q_look (look_move rfl rfl) ?_
            refine q_lookg rfl rfl rfl (fun hq => look_move rfl rfl) ?_
            refine q_lookg rfl rfl rfl (fun hq => look_move rfl rfl) ?_
            refine q_lookg rfl rfl rfl (fun hq => look_geq rfl hq rfl hq) ?_
            refine q_look (look_or rfl rfl rfl rfl) ?_
            refine q_look (look_move rfl rfl) ?_
            refine q_lookg rfl rfl rfl (fun hq => look_move rfl rfl) ?_
            refine q_lookg rfl rfl rfl (fun hq => look_eql rfl hq rfl rfl) ?_
            refine q_lookg rfl rfl rfl (fun hq => look_move rfl hq) ?_
            refine q_lookg rfl rfl rfl (fun hq => look_move rfl rfl) ?_
            refine q_lookg rfl rfl rfl (fun hq => look_eql rfl hq rfl rfl) ?_
            refine q_lookg rfl rfl rfl (fun hq => look_or rfl hq rfl hq) ?_
            refine q_lookg rfl rfl rfl (fun hq => look_move rfl hq) ?_
            refine q_lookg rfl rfl rfl (fun hq => look_move rfl rfl) ?_
            refine q_lookg rfl rfl rfl (fun hq => look_eql rfl hq rfl rfl) ?_
            refine q_lookg rfl rfl rfl (fun hq => look_move rfl hq) ?_
            refine q_lookg rfl rfl rfl (fun hq => look_loadN Try.underlying35 rfl szTry_35 rfl rfl rfl (ext_cell_n hB3)) ?_
            refine q_lookg rfl rfl rfl (fun hq => look_fieldAddr Try.underlying37 rfl (fun _ _ => rfl) rfl rfl) ?_
            refine q_lookg rfl rfl rfl (fun hq => look_loadN Try.underlying35 rfl szTry_35 rfl rfl hq (cs := ccell t.at_) (extn (Blk.sub hB2 rfl))) ?_
            refine q_lookg rfl rfl rfl (fun hq => look_eql_flat Try.underlying35 stood35 guard35 rfl hq rfl hq (eqC _ _)) ?_
            refine q_lookg rfl rfl rfl (fun hq => look_move rfl hq) ?_
            refine q_lookg rfl rfl rfl (fun hq => look_loadN Try.underlying35 rfl szTry_35 rfl rfl rfl (ext_cell_n hB3)) ?_
            refine q_lookg rfl rfl rfl (fun hq => look_fieldAddr Try.underlying37 rfl (fun _ _ => rfl) rfl rfl) ?_
            refine q_lookg rfl rfl rfl (fun hq => look_loadN Try.underlying35 rfl szTry_35 rfl rfl hq (cs := ccell t.by_) (extn (Blk.sub hB2 rfl))) ?_
            refine q_lookg rfl rfl rfl (fun hq => look_eql_flat Try.underlying35 stood35 guard35 rfl hq rfl hq (eqC _ _)) ?_
            refine q_lookg rfl rfl rfl (fun hq => look_or rfl hq rfl hq) ?_
            refine q_lookg rfl rfl rfl (fun hq => look_and rfl hq rfl hq) ?_
            refine q_lookg rfl rfl rfl (fun hq => look_or rfl hq rfl hq) ?_
            refine q_look (look_and rfl rfl rfl rfl) ?_
            refine q_look (look_move rfl rfl) ?_
            refine q_callg (vs := []) rfl rfl rfl enTry_10 (fun hq => trivial) (fun hq wc hw => cext hw (awake_any wc)) ?_
            refine q_look (look_and rfl rfl rfl rfl) ?_
            refine q_look (look_assign rfl rfl) ?_
            refine q_nil ?_
            intro w8 hw8
            replace hX := hX.comp hw8
            replace hB1 := hB1.ext hw8
            replace hB2 := hB2.ext hw8
            replace hB3 := hB3.ext hw8
            replace hB7 := hB7.ext hw8
            replace hM := hM.ext hw8
            replace hZ := hZ.ext hw8
            refine then_normal ?_
            refine wp_ret ?_
            exact res1 Try.results7 rfl ⟨ret_bool (by first | rfl | (rw [hfin]; rfl)), hX⟩

end Go.Proofs.Ytbmchijgejgboaa
