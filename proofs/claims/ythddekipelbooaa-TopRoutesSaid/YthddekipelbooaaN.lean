/- The walks of chapter 44 (route): next. -/
import Derived.Test.YthddekipelbooaaM
namespace Go.Proofs.Ythddekipelbooaa
open Go Go.RowKit Core
set_option linter.unusedVariables false
set_option linter.unusedSimpArgs false

theorem res3 {P : Program} {fn : Func} {R : Ending → World → Prop} {n : Nat} {l : List (Nat × Bool × Value)} {σ : Nat → Value} {w : World} {t u x : Nat} {v v' v2 : Value}
    (hr : fn.results = #[.tmp t, .tmp u, .tmp x]) (hv : ev n l (.tmp t) = some (true, v)) (hv' : ev n l (.tmp u) = some (true, v')) (hv2 : ev n l (.tmp x) = some (true, v2)) (h : R (.returned (.tuple #[v, v', v2])) w) : bodyPost P fn R .ret (act (ds := []) n l σ) w := by
  refine bodyPost_ret (v := .tuple #[v, v', v2]) ?_ rfl h
  have e1 := eval_ev (ds := []) (σ := σ) (x := .tmp t) hv rfl
  have e2 := eval_ev (ds := []) (σ := σ) (x := .tmp u) hv' rfl
  have e3 := eval_ev (ds := []) (σ := σ) (x := .tmp x) hv2 rfl
  simp only [Act.eval] at e1 e2 e3
  have f1 : (act (ds := []) n l σ).tmps[t]?.getD undef = v := by simpa using e1
  have f2 : (act (ds := []) n l σ).tmps[u]?.getD undef = v' := by simpa using e2
  have f3 : (act (ds := []) n l σ).tmps[x]?.getD undef = v2 := by simpa using e3
  simp [results, hr, f1, f2, f3]
theorem resC3 {P : Program} {fn : Func} {R : Ending → World → Prop} {n : Nat} {l : List (Nat × Bool × Value)} {σ : Nat → Value} {w : World} {t u x : Nat} {ty : TypeId} {v' v2 : Value} {b o size : Nat} {cs : List Value} {td : TypeDesc}
    (hr : fn.results = #[.cell t ty, .tmp u, .tmp x]) (ht : P.underlying ty = some td) (hag : (match td with | .struct _ | .array _ _ => true | _ => false) = true) (hi' : (P.info? ty).map (fun i => i.size) = some size) (hlen : cs.length = size)
    (hv : ev n l (.tmp t) = some (true, .pointer (some ⟨b, o, none⟩))) (hc : ∀ j v, cs[j]? = some v → w.cell? ⟨b, o + j, none⟩ = some v) (hv' : ev n l (.tmp u) = some (true, v')) (hv2 : ev n l (.tmp x) = some (true, v2))
    (h : R (.returned (.tuple #[.agg cs.toArray, v', v2])) w) : bodyPost P fn R .ret (act (ds := []) n l σ) w := by
  refine bodyPost_ret (v := .tuple #[.agg cs.toArray, v', v2]) ?_ rfl h
  have e1 := eval_ev (ds := []) (σ := σ) (x := .tmp t) hv rfl
  have e2 := eval_ev (ds := []) (σ := σ) (x := .tmp u) hv' rfl
  have e3 := eval_ev (ds := []) (σ := σ) (x := .tmp x) hv2 rfl
  simp only [Act.eval] at e1 e2 e3
  have h1 : (asAddr (.pointer (some ⟨b, o, none⟩))).run P w = .ok ⟨b, o, none⟩ w := rfl
  have h2 := run_loadN (P := P) ht hag hi' hlen hc
  have f1 : (act (ds := []) n l σ).tmps[t]?.getD undef = .pointer (some ⟨b, o, none⟩) := by simpa using e1
  have f2 : (act (ds := []) n l σ).tmps[u]?.getD undef = v' := by simpa using e2
  have f3 : (act (ds := []) n l σ).tmps[x]?.getD undef = v2 := by simpa using e3
  simp [results, hr, f1, f2, f3, asAddr, h2]

attribute [local irreducible] wpQuiet wpList wpH wpT Code.wp Calls bodyPost act


def nxAt (c : Cl) : Option (Cl × Int) → Cl
  | none => c0
  | some (v, _) => cadd c v
def nxBy : Option (Cl × Int) → Cl
  | none => c0
  | some (v, _) => v
def nxN : Option (Cl × Int) → Int
  | none => 0
  | some (_, n) => n
def nxO : Option (Cl × Int) → Bool
  | none => false
  | some _ => true
theorem nx_step {f : Cl → Option Int} {k : Nat} {x : Cl} {acc : Option (Cl × Int)} (h : ways[k]? = some x) : nxtF f (ways.drop k) acc = nxtF f (ways.drop (k + 1)) (nxA acc x (f x)) := by rw [drop_get h, nxtF_cons]
theorem known_t {g : Gr} {bend : Int} {b c : Cl} {u : Cl} {f : Cl → Cl → Option Int} (h : Know g bend b f) (hc : ((!(f c u).isSome || !inB g c) || decide (c ∈ g.bl)) = true) : f c u = none := by
  cases e : f c u with
  | none => rfl
  | some n =>
    obtain ⟨_, ⟨h1, h2⟩, _⟩ := h.sm c u n e
    rw [e, h1, decide_eq_false h2] at hc; cases hc
theorem known_f {g : Gr} {c : Cl} {o : Option Int} (hc : ((!o.isSome || !inB g c) || decide (c ∈ g.bl)) = false) : ∃ k, o = some k := by
  cases o with
  | none => cases hc
  | some k => exact ⟨k, rfl⟩
theorem nxA_none (acc : Option (Cl × Int)) (v : Cl) : nxA acc v none = acc := rfl
theorem nxA_t {acc : Option (Cl × Int)} {v : Cl} {n : Int} (h : (!nxO acc || decide (n < nxN acc)) = true) : nxA acc v (some n) = some (v, n) := by
  cases acc with
  | none => rfl
  | some p =>
    obtain ⟨a, k⟩ := p
    have h1 : n < k := of_decide_eq_true h
    unfold nxA; simp [h1]
theorem nxA_f {acc : Option (Cl × Int)} {v : Cl} {n : Int} (h : (!nxO acc || decide (n < nxN acc)) = false) : nxA acc v (some n) = acc := by
  cases acc with
  | none => cases h
  | some p =>
    obtain ⟨a, k⟩ := p
    have h1 : ¬ n < k := of_decide_eq_false h
    unfold nxA; simp [h1]


theorem cand_none {g : Gr} {bend : Int} {m : KM} {c u x : Cl} (h : vget m (cadd c x, x) = none) : candF g bend (fun c u => vget m (c, u)) c u x = none := by unfold candF; show Option.map _ (vget m (cadd c x, x)) = _; rw [h]; rfl
theorem cand_one {g : Gr} {bend kk : Int} {m : KM} {c u x : Cl} (h : vget m (cadd c x, x) = some kk) : candF g bend (fun c u => vget m (c, u)) c u x = some (kk + stepP bend u x) := by unfold candF; show Option.map _ (vget m (cadd c x, x)) = _; rw [h]; rfl

set_option maxHeartbeats 4000000 in
set_option maxRecDepth 100000 in
theorem next_any (gf gm : Nat) (g : Gr) (bend : Int) (b c u : Cl) (m : KM) (w : World) (hF : Blk w gf 48 (fcell g bend gm)) (hb : 0 ≤ bend ∧ bend ≤ 1000) (hM : MapV kR vI w gm m) (hG : GOk w g) (hok : szA g = true) (hs : Asc g.bl) (hK : Know g bend b fun c u => vget m (c, u)) (hmb : ∀ y n, vget m y = some n → n ≤ 100000000) (hfc : Fre g c) :
    Calls Try.prog 20 #[.pointer (some ⟨gf, 0, none⟩), .agg (rcell c u).toArray] w fun e w' => ∃ o, nxtF (candF g bend (fun c u => vget m (c, u)) c u) ways none = o ∧ e = .returned (.tuple #[.agg (rcell (nxAt c o) (nxBy o)).toArray, .int .i64 (nxN o), .bool (nxO o)]) ∧ Ext w w' := by
  refine calls_act Try.func20 rfl Try.ntmps20 rfl rfl ?_
  show Code.wp _ _ _ (act 92 [(0, true, .pointer (some ⟨gf, 0, none⟩)), (1, true, .agg (rcell c u).toArray)] _) _
  have hX : Ext w w := Ext.rfl' w
  refine wp_seq ?_
  refine wp_region_lit ?_
  refine s_box rfl ?_
  intro g1 u1 hu1 hB1 hg1 hs1
  replace hB1 : Blk u1 g1 51 (rcell c u) := hB1
  have lt_gf_g1 : gf < g1 := by have := hF.lt; omega
  have lt_gm_g1 : gm < g1 := by have := hM.lt; omega
  have ge_g1 : w.heap.size ≤ g1 := by have := hX.size; omega
  replace hX := hX.comp hu1
  replace hF := hF.ext hu1
  replace hM := hM.ext hu1
  refine s_alloc zeTry_51 ?_
  intro g2 u2 hu2 hB2 hg2 hs2
  have lt_gf_g2 : gf < g2 := by have := hF.lt; omega
  have lt_gm_g2 : gm < g2 := by have := hM.lt; omega
  have lt_g1_g2 : g1 < g2 := by have := hB1.lt; omega
  have ge_g2 : w.heap.size ≤ g2 := by have := hX.size; omega
  replace hX := hX.comp hu2
  replace hF := hF.ext hu2
  replace hM := hM.ext hu2
  replace hB1 := hB1.ext hu2
  refine s_look (look_assign rfl rfl) ?_
  refine s_look (look_assign rfl rfl) ?_
  refine s_nil ?_
  refine then_normal ?_
  refine wp_seq ?_
  refine wp_region_lit ?_
  refine s_look (look_build (pl := [(0, 3), (3, 3)]) (parts := []) (vs := []) (cells := rcell c0 c0) Try.underlying51 zeTry_51 (by kernel_rfl) trivial rfl (by kernel_rfl)) ?_
  refine s_alloc zeTry_51 ?_
  intro g3 u3 hu3 hB3 hg3 hs3
  have lt_gf_g3 : gf < g3 := by have := hF.lt; omega
  have lt_gm_g3 : gm < g3 := by have := hM.lt; omega
  have lt_g1_g3 : g1 < g3 := by have := hB1.lt; omega
  have lt_g2_g3 : g2 < g3 := by have := hB2.lt; omega
  have ge_g3 : w.heap.size ≤ g3 := by have := hX.size; omega
  replace hX := hX.comp hu3
  replace hF := hF.ext hu3
  replace hM := hM.ext hu3
  replace hB1 := hB1.ext hu3
  replace hB2 := hB2.ext hu3
  refine s_store szTry_51 rfl (by simp [ccell, gcell, itcell, rcell, Value.cells, Value.oneCell']) rfl rfl hB3 rfl ?_
  intro u4 hk4 hT4
  replace hT4 : Blk u4 g3 51 (rcell c0 c0) := hT4
  replace hX := hX.kp hk4 (by omega)
  replace hF := hF.kp hk4 (by omega)
  replace hM := hM.kp hk4 (by omega)
  replace hB1 := hB1.kp hk4 (by omega)
  replace hB2 := hB2.kp hk4 (by omega)
  clear hB3
  have hB3 := hT4
  refine s_look (look_assign rfl rfl) ?_
  refine s_look (look_assign rfl rfl) ?_
  refine s_nil ?_
  refine then_normal ?_
  refine wp_seq ?_
  refine wp_seq ?_
  refine region_q ?_
  refine q_call (vs := []) enTry_34 trivial (fun wc hw => cext hw (ways_any wc)) ?_
  refine q_look (look_move rfl rfl) ?_
  refine q_nil ?_
  intro w1 hw1
  replace hX := hX.comp hw1
  replace hF := hF.ext hw1
  replace hM := hM.ext hw1
  replace hB1 := hB1.ext hw1
  replace hB2 := hB2.ext hw1
  replace hB3 := hB3.ext hw1
  refine then_normal ?_
  refine wp_block ?_
  refine loop_act (fun (ls : Nat × Option (Cl × Int)) => [(0, .pointer (some ⟨gf, 0, none⟩)), (3, .pointer (some ⟨g1, 0, none⟩)), (4, .pointer (some ⟨g2, 0, none⟩)), (7, .pointer (some ⟨g3, 0, none⟩)), (8, .int .i64 (nxN ls.2)), (9, .bool (nxO ls.2)), (17, .agg W18.toArray), (18, .int .i64 (ls.1 : Int))]) (fun ls w' => (Ext w w') ∧ (Blk w' gf 48 (fcell g bend gm)) ∧ (MapV kR vI w' gm m) ∧ (Blk w' g1 51 (rcell c u)) ∧ (Blk w' g2 51 (rcell c0 c0)) ∧ (Blk w' g3 51 (rcell (nxAt c ls.2) (nxBy ls.2))) ∧ (ls.1 ≤ 6) ∧ (nxtF (candF g bend (fun c u => vget m (c, u)) c u) ways none = nxtF (candF g bend (fun c u => vget m (c, u)) c u) (ways.drop ls.1) ls.2)) (fun ls => 6 - ls.1) ((0, none)) ?_ ?_ ?_
  · exact ⟨rfl, rfl, rfl, rfl, rfl, rfl, rfl, rfl, trivial⟩
  · exact ⟨hX, hF, hM, hB1, hB2, hB3, Nat.zero_le _, rfl⟩
  · rintro ⟨k, acc⟩ σ wr hF
    obtain ⟨hX, hF, hM, hB1, hB2, hB3, hk, hf⟩ : (Ext w wr) ∧ (Blk wr gf 48 (fcell g bend gm)) ∧ (MapV kR vI wr gm m) ∧ (Blk wr g1 51 (rcell c u)) ∧ (Blk wr g2 51 (rcell c0 c0)) ∧ (Blk wr g3 51 (rcell (nxAt c acc) (nxBy acc))) ∧ (k ≤ 6) ∧ (nxtF (candF g bend (fun c u => vget m (c, u)) c u) ways none = nxtF (candF g bend (fun c u => vget m (c, u)) c u) (ways.drop k) acc) := hF
    show Code.wp _ _ _ (act 92 [(0, true, .pointer (some ⟨gf, 0, none⟩)), (3, true, .pointer (some ⟨g1, 0, none⟩)), (4, true, .pointer (some ⟨g2, 0, none⟩)), (7, true, .pointer (some ⟨g3, 0, none⟩)), (8, true, .int .i64 (nxN acc)), (9, true, .bool (nxO acc)), (17, true, .agg W18.toArray), (18, true, .int .i64 (k : Int))] _) _
    refine wp_seq ?_
    refine region_s ?_
    refine q_look (look_lss rfl rfl rfl rfl) ?_
    refine q_nil ?_
    rintro _ rfl
    refine then_normal ?_
    refine wp_seq ?_
    refine cond_split rfl (fun hc19 => ?_) (fun hc19 => ?_)
    · have hlt : k < 6 := by have := nn_t hc19; omega
      obtain ⟨x, hxx⟩ := get_lt (show k < ways.length from hlt)
      have hxw := mem_get hxx
      have h24 := inB_24 hok hfc.1
      have hx1 := way_one.1 hxw
      refine wp_skip ?_
      refine then_normal ?_
      refine wp_seq ?_
      refine wp_block ?_
      refine wp_seq ?_
      refine wp_region_lit ?_
      refine s_look (look_index_arr k Try.underlying59 Try.underlying26 rfl szTry_26 rfl rfl rfl rfl rfl hlt (W18_at hxx)) ?_
      refine s_alloc zeTry_26 ?_
      intro g5 u5 hu5 hB5 hg5 hs5
      have lt_gf_g5 : gf < g5 := by have := hF.lt; omega
      have lt_gm_g5 : gm < g5 := by have := hM.lt; omega
      have lt_g1_g5 : g1 < g5 := by have := hB1.lt; omega
      have lt_g2_g5 : g2 < g5 := by have := hB2.lt; omega
      have lt_g3_g5 : g3 < g5 := by have := hB3.lt; omega
      have ge_g5 : w.heap.size ≤ g5 := by have := hX.size; omega
      replace hX := hX.comp hu5
      replace hF := hF.ext hu5
      replace hM := hM.ext hu5
      replace hB1 := hB1.ext hu5
      replace hB2 := hB2.ext hu5
      replace hB3 := hB3.ext hu5
      refine s_store szTry_26 rfl (by simp [ccell, gcell, itcell, rcell, Value.cells, Value.oneCell']) rfl rfl hB5 rfl ?_
      intro u6 hk6 hT6
      replace hT6 : Blk u6 g5 26 (ccell x) := hT6
      replace hX := hX.kp hk6 (by omega)
      replace hF := hF.kp hk6 (by omega)
      replace hM := hM.kp hk6 (by omega)
      replace hB1 := hB1.kp hk6 (by omega)
      replace hB2 := hB2.kp hk6 (by omega)
      replace hB3 := hB3.kp hk6 (by omega)
      clear hB5
      have hB5 := hT6
      refine s_nil ?_
      refine then_normal ?_
      refine wp_seq ?_
      refine wp_region_lit ?_
      refine s_look (look_fieldAddr Try.underlying51 rfl (fun _ _ => rfl) rfl rfl) ?_
      refine s_look (look_fieldAddr Try.underlying26 rfl (fun _ _ => rfl) rfl rfl) ?_
      refine s_look (look_load1 Try.underlying3 rfl rfl rfl (eqc (hB1.cell rfl))) ?_
      refine s_look (look_fieldAddr Try.underlying26 rfl (fun _ _ => rfl) rfl rfl) ?_
      refine s_look (look_load1 Try.underlying3 rfl rfl rfl (eqc (hB5.cell rfl))) ?_
      refine s_look (look_add rfl rfl rfl rfl (by unfold I64; omega)) ?_
      refine s_look (look_fieldAddr Try.underlying51 rfl (fun _ _ => rfl) rfl rfl) ?_
      refine s_look (look_fieldAddr Try.underlying26 rfl (fun _ _ => rfl) rfl rfl) ?_
      refine s_look (look_load1 Try.underlying3 rfl rfl rfl (eqc (hB1.cell rfl))) ?_
      refine s_look (look_fieldAddr Try.underlying26 rfl (fun _ _ => rfl) rfl rfl) ?_
      refine s_look (look_load1 Try.underlying3 rfl rfl rfl (eqc (hB5.cell rfl))) ?_
      refine s_look (look_add rfl rfl rfl rfl (by unfold I64; omega)) ?_
      refine s_look (look_fieldAddr Try.underlying51 rfl (fun _ _ => rfl) rfl rfl) ?_
      refine s_look (look_fieldAddr Try.underlying26 rfl (fun _ _ => rfl) rfl rfl) ?_
      refine s_look (look_load1 Try.underlying3 rfl rfl rfl (eqc (hB1.cell rfl))) ?_
      refine s_look (look_fieldAddr Try.underlying26 rfl (fun _ _ => rfl) rfl rfl) ?_
      refine s_look (look_load1 Try.underlying3 rfl rfl rfl (eqc (hB5.cell rfl))) ?_
      refine s_look (look_add rfl rfl rfl rfl (by unfold I64; omega)) ?_
      refine s_look (look_build (pl := [(0, 1), (1, 1), (2, 1)]) (parts := [(0, .tmp 26), (1, .tmp 32), (2, .tmp 38)]) (vs := [(0, _), (1, _), (2, _)]) (cells := ccell (cadd c x)) Try.underlying26 zeTry_26 (by kernel_rfl) ⟨⟨_, rfl, rfl⟩, ⟨_, rfl, rfl⟩, ⟨_, rfl, rfl⟩, trivial⟩ rfl (by kernel_rfl)) ?_
      refine s_look (look_loadN Try.underlying26 rfl szTry_26 rfl rfl rfl (eqc_n hB5)) ?_
      refine s_look (look_build (pl := [(0, 3), (3, 3)]) (parts := [(0, .tmp 39), (1, .tmp 40)]) (vs := [(0, .agg (ccell (cadd c x)).toArray), (1, .agg (ccell x).toArray)]) (cells := rcell (cadd c x) x) Try.underlying51 zeTry_51 (by kernel_rfl) ⟨⟨_, rfl, rfl⟩, ⟨_, rfl, rfl⟩, trivial⟩ rfl (by kernel_rfl)) ?_
      refine s_alloc zeTry_51 ?_
      intro g7 u7 hu7 hB7 hg7 hs7
      have lt_gf_g7 : gf < g7 := by have := hF.lt; omega
      have lt_gm_g7 : gm < g7 := by have := hM.lt; omega
      have lt_g1_g7 : g1 < g7 := by have := hB1.lt; omega
      have lt_g2_g7 : g2 < g7 := by have := hB2.lt; omega
      have lt_g3_g7 : g3 < g7 := by have := hB3.lt; omega
      have lt_g5_g7 : g5 < g7 := by have := hB5.lt; omega
      have ge_g7 : w.heap.size ≤ g7 := by have := hX.size; omega
      replace hX := hX.comp hu7
      replace hF := hF.ext hu7
      replace hM := hM.ext hu7
      replace hB1 := hB1.ext hu7
      replace hB2 := hB2.ext hu7
      replace hB3 := hB3.ext hu7
      replace hB5 := hB5.ext hu7
      refine s_store szTry_51 rfl (by simp [ccell, gcell, itcell, rcell, Value.cells, Value.oneCell']) rfl rfl hB7 rfl ?_
      intro u8 hk8 hT8
      replace hT8 : Blk u8 g7 51 (rcell (cadd c x) x) := hT8
      replace hX := hX.kp hk8 (by omega)
      replace hF := hF.kp hk8 (by omega)
      replace hM := hM.kp hk8 (by omega)
      replace hB1 := hB1.kp hk8 (by omega)
      replace hB2 := hB2.kp hk8 (by omega)
      replace hB3 := hB3.kp hk8 (by omega)
      replace hB5 := hB5.kp hk8 (by omega)
      clear hB7
      have hB7 := hT8
      refine s_nil ?_
      refine then_normal ?_
      refine wp_seq ?_
      refine region_qd mixed (by kernel_rfl) ?_
      refine q_look (look_move rfl rfl) ?_
      refine q_look (look_nilCheck rfl rfl) ?_
      refine q_look (look_fieldAddr Try.underlying48 rfl (fun _ _ => rfl) rfl rfl) ?_
      refine q_look (look_load1 Try.underlying46 rfl rfl rfl (ext_cell (hF.cell rfl))) ?_
      refine q_look (look_loadN Try.underlying51 rfl szTry_51 rfl rfl rfl (ext_cell_n hB7)) ?_
      refine q_look (look_mapV_ok (a := (cadd c x, x)) (vv := vI) (z0 := (0 : Int)) klR Try.underlying46 zvI rfl rfl rfl rfl (fun w' e => hM.ext e)) ?_
      refine q_look (look_move rfl rfl) ?_
      refine q_look (look_extract rfl rfl rfl) ?_
      refine q_look (look_extract rfl rfl rfl) ?_
      refine q_look (look_assign rfl rfl) ?_
      refine q_look (look_assign rfl rfl) ?_
      refine q_nil ?_
      intro w2 hw2
      replace hX := hX.comp hw2
      replace hF := hF.ext hw2
      replace hM := hM.ext hw2
      replace hB1 := hB1.ext hw2
      replace hB2 := hB2.ext hw2
      replace hB3 := hB3.ext hw2
      replace hB5 := hB5.ext hw2
      replace hB7 := hB7.ext hw2
      refine then_normal ?_
      refine wp_seq ?_
      refine wp_seq ?_
      refine region_qd mixed (by kernel_rfl) ?_
      refine q_look (look_move rfl rfl) ?_
      refine q_look (look_not rfl rfl) ?_
      refine q_look (look_move rfl rfl) ?_
      refine q_lookg rfl rfl rfl (fun hq => look_move rfl rfl) ?_
      refine q_lookg rfl rfl rfl (fun hq => look_nilCheck rfl hq) ?_
      refine q_lookg rfl rfl rfl (fun hq => look_fieldAddr Try.underlying48 rfl (fun _ _ => rfl) rfl hq) ?_
      refine q_lookg rfl rfl rfl (fun hq => look_loadN Try.underlying24 rfl szTry_24 rfl rfl hq (cs := gcell g) (extn (Blk.sub hF rfl))) ?_
      refine q_lookg rfl rfl rfl (fun hq => look_fieldAddr Try.underlying51 rfl (fun _ _ => rfl) rfl rfl) ?_
      refine q_lookg rfl rfl rfl (fun hq => look_loadN Try.underlying26 rfl szTry_26 rfl rfl hq (cs := ccell (cadd c x)) (extn (Blk.sub hB7 rfl))) ?_
      refine q_callg (vs := [_, _]) rfl rfl rfl enTry_17 (fun hq => ⟨⟨_, rfl, hq⟩, ⟨_, rfl, hq⟩, trivial⟩) (fun hq wc hw => cext hw (inside_any g (cadd c x) wc)) ?_
      refine q_lookg rfl rfl rfl (fun hq => look_not rfl hq) ?_
      refine q_look (look_or rfl rfl rfl rfl) ?_
      refine q_look (look_move rfl rfl) ?_
      refine q_lookg rfl rfl rfl (fun hq => look_move rfl rfl) ?_
      refine q_lookg rfl rfl rfl (fun hq => look_nilCheck rfl hq) ?_
      refine q_lookg rfl rfl rfl (fun hq => look_fieldAddr Try.underlying48 rfl (fun _ _ => rfl) rfl hq) ?_
      refine q_lookg rfl rfl rfl (fun hq => look_loadN Try.underlying24 rfl szTry_24 rfl rfl hq (cs := gcell g) (extn (Blk.sub hF rfl))) ?_
      refine q_lookg rfl rfl rfl (fun hq => look_fieldAddr Try.underlying51 rfl (fun _ _ => rfl) rfl rfl) ?_
      refine q_lookg rfl rfl rfl (fun hq => look_loadN Try.underlying26 rfl szTry_26 rfl rfl hq (cs := ccell (cadd c x)) (extn (Blk.sub hB7 rfl))) ?_
      refine q_callg (vs := [_, _]) rfl rfl rfl enTry_18 (fun hq => ⟨⟨_, rfl, hq⟩, ⟨_, rfl, hq⟩, trivial⟩) (fun hq wc hw => cext hw (blocked_any g (cadd c x) wc (hG.ext (hX.comp hw)) hs)) ?_
      refine q_look (look_or rfl rfl rfl rfl) ?_
      refine q_nil ?_
      intro w3 hw3
      replace hX := hX.comp hw3
      replace hF := hF.ext hw3
      replace hM := hM.ext hw3
      replace hB1 := hB1.ext hw3
      replace hB2 := hB2.ext hw3
      replace hB3 := hB3.ext hw3
      replace hB5 := hB5.ext hw3
      replace hB7 := hB7.ext hw3
      refine then_normal ?_
      refine cond_split rfl (fun hc71 => ?_) (fun hc71 => ?_)
      · have hkn : vget m (cadd c x, x) = none := known_t (f := fun c u => vget m (c, u)) hK hc71
        refine wp_exit ?_
        refine then_exit ?_
        refine inB_exit_same ?_
        refine then_normal ?_
        refine region_s ?_
        refine q_look (look_add rfl rfl rfl rfl (by unfold I64; omega)) ?_
        refine q_look (look_move rfl rfl) ?_
        refine q_nil ?_
        rintro _ rfl
        exact loop_end ((k + 1, acc)) (by simp only []; omega) ⟨rfl, rfl, rfl, rfl, rfl, rfl, rfl, rfl, trivial⟩ ⟨hX, hF, hM, hB1, hB2, hB3, by show k + 1 ≤ 6; omega, by rw [hf, nx_step hxx, cand_none hkn]; rfl⟩
      · obtain ⟨kk, hkn⟩ : ∃ kk, vget m (cadd c x, x) = some kk := known_f (c := cadd c x) hc71
        have hkb := hmb _ _ hkn
        have hk0 := (hK.sm _ _ _ hkn).1.nn hb.1
        have hsb := stepP_bd hb.1 u x
        refine wp_skip ?_
        refine then_normal ?_
        refine wp_seq ?_
        refine region_q ?_
        refine q_look (Look.as (look_move rfl rfl) (v' := .int .i64 kk) (by rw [hkn]; rfl)) ?_
        refine q_look (look_move rfl rfl) ?_
        refine q_look (look_fieldAddr Try.underlying51 rfl (fun _ _ => rfl) rfl rfl) ?_
        refine q_look (look_loadN Try.underlying26 rfl szTry_26 rfl rfl rfl (cs := ccell u) (extn (Blk.sub hB1 rfl))) ?_
        refine q_look (look_loadN Try.underlying26 rfl szTry_26 rfl rfl rfl (ext_cell_n hB5)) ?_
        refine q_call (vs := [_, _, _]) enTry_38 ⟨⟨_, rfl, rfl⟩, ⟨_, rfl, rfl⟩, ⟨_, rfl, rfl⟩, trivial⟩ (fun wc hw => cext hw (step_any gf gm g bend u x wc (hF.ext hw) hb)) ?_
        refine q_look (look_add rfl rfl rfl rfl (by unfold I64; omega)) ?_
        refine q_look (look_assign rfl rfl) ?_
        refine q_nil ?_
        intro w4 hw4
        replace hX := hX.comp hw4
        replace hF := hF.ext hw4
        replace hM := hM.ext hw4
        replace hB1 := hB1.ext hw4
        replace hB2 := hB2.ext hw4
        replace hB3 := hB3.ext hw4
        replace hB5 := hB5.ext hw4
        replace hB7 := hB7.ext hw4
        refine then_normal ?_
        refine wp_seq ?_
        refine region_s ?_
        refine q_look (look_move rfl rfl) ?_
        refine q_look (look_not rfl rfl) ?_
        refine q_look (look_move rfl rfl) ?_
        refine q_lookg rfl rfl rfl (fun hq => look_move rfl rfl) ?_
        refine q_lookg rfl rfl rfl (fun hq => look_move rfl rfl) ?_
        refine q_lookg rfl rfl rfl (fun hq => look_lss rfl hq rfl hq) ?_
        refine q_look (look_or rfl rfl rfl rfl) ?_
        refine q_nil ?_
        rintro _ rfl
        refine then_normal ?_
        refine cond_split rfl (fun hc85 => ?_) (fun hc85 => ?_)
        · have hbt : (!nxO acc || decide (kk + stepP bend u x < nxN acc)) = true := hc85
          refine wp_region_lit ?_
          refine s_look (look_loadN Try.underlying51 rfl szTry_51 rfl rfl rfl (eqc_n hB7)) ?_
          refine s_look (look_move rfl rfl) ?_
          refine s_store szTry_51 rfl (by simp [ccell, gcell, itcell, rcell, Value.cells, Value.oneCell']) rfl rfl hB3 rfl ?_
          intro u9 hk9 hT9
          replace hT9 : Blk u9 g3 51 (rcell (cadd c x) x) := hT9
          replace hX := hX.kp hk9 (by omega)
          replace hF := hF.kp hk9 (by omega)
          replace hM := hM.kp hk9 (by omega)
          replace hB1 := hB1.kp hk9 (by omega)
          replace hB2 := hB2.kp hk9 (by omega)
          replace hB5 := hB5.kp hk9 (by omega)
          replace hB7 := hB7.kp hk9 (by omega)
          clear hB3
          have hB3 := hT9
          refine s_look (look_assign rfl rfl) ?_
          refine s_look (look_assign rfl rfl) ?_
          refine s_nil ?_
          refine inB_normal ?_
          refine then_normal ?_
          refine region_s ?_
          refine q_look (look_add rfl rfl rfl rfl (by unfold I64; omega)) ?_
          refine q_look (look_move rfl rfl) ?_
          refine q_nil ?_
          rintro _ rfl
          exact loop_end ((k + 1, some (x, kk + stepP bend u x))) (by simp only []; omega) ⟨rfl, rfl, rfl, rfl, rfl, rfl, rfl, rfl, trivial⟩ ⟨hX, hF, hM, hB1, hB2, hB3, by show k + 1 ≤ 6; omega, by rw [hf, nx_step hxx, cand_one hkn, nxA_t hbt]⟩
        · have hbt : (!nxO acc || decide (kk + stepP bend u x < nxN acc)) = false := hc85
          refine wp_skip ?_
          refine inB_normal ?_
          refine then_normal ?_
          refine region_s ?_
          refine q_look (look_add rfl rfl rfl rfl (by unfold I64; omega)) ?_
          refine q_look (look_move rfl rfl) ?_
          refine q_nil ?_
          rintro _ rfl
          exact loop_end ((k + 1, acc)) (by simp only []; omega) ⟨rfl, rfl, rfl, rfl, rfl, rfl, rfl, rfl, trivial⟩ ⟨hX, hF, hM, hB1, hB2, hB3, by show k + 1 ≤ 6; omega, by rw [hf, nx_step hxx, cand_one hkn, nxA_f hbt]⟩
    · have hge : ¬ k < 6 := by have := nn_f hc19; omega
      rw [List.drop_eq_nil_of_le (by rw [ways_len]; omega)] at hf
      refine wp_exit ?_
      refine then_exit ?_
      refine then_exit ?_
      refine inB_exit_same ?_
      refine then_normal ?_
      refine wp_seq ?_
      refine wp_region_lit ?_
      refine s_look (look_loadN Try.underlying51 rfl szTry_51 rfl rfl rfl (eqc_n hB3)) ?_
      refine s_look (look_move rfl rfl) ?_
      refine s_look (look_move rfl rfl) ?_
      refine s_store szTry_51 rfl (by simp [ccell, gcell, itcell, rcell, Value.cells, Value.oneCell']) rfl rfl hB2 rfl ?_
      intro u10 hk10 hT10
      replace hT10 : Blk u10 g2 51 (rcell (nxAt c acc) (nxBy acc)) := hT10
      replace hX := hX.kp hk10 (by omega)
      replace hF := hF.kp hk10 (by omega)
      replace hM := hM.kp hk10 (by omega)
      replace hB1 := hB1.kp hk10 (by omega)
      replace hB3 := hB3.kp hk10 (by omega)
      clear hB2
      have hB2 := hT10
      refine s_look (look_assign rfl rfl) ?_
      refine s_look (look_assign rfl rfl) ?_
      refine s_nil ?_
      refine then_normal ?_
      refine wp_ret ?_
      exact resC3 Try.results20 Try.underlying51 rfl szTry_51 rfl rfl (fun j v hv => by rw [Nat.zero_add]; exact hB2.cell hv) rfl rfl ⟨acc, hf, rfl, hX⟩

end Go.Proofs.Ythddekipelbooaa
