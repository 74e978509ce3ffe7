/- The walks of TopRoutes: the law. -/
import Derived.Test.YthddekipelbooaaTa
namespace Go.Proofs.Ythddekipelbooaa
open Go Go.RowKit Core
set_option linter.unusedVariables false
set_option linter.unusedSimpArgs false
attribute [local irreducible] wpQuiet wpList wpH wpT Code.wp Calls bodyPost act


theorem stood26 : Try.prog.stoodInHeld 26 = false := stood35
theorem guard26 : Try.prog.eqGuardType Try.prog.depth 26 = false := guard35
def sc (c : Cl) : Cl := ⟨1000 * c.x, 1000 * c.y, 1000 * c.z⟩
theorem sc_leg {p d v : Cl} {s : Int} (h : d = cadd p (mulC s v)) : csub (sc d) (sc p) = mulC (1000 * s) v := by
  have hx : d.x = p.x + s * v.x := congrArg Cl.x h
  have hy : d.y = p.y + s * v.y := congrArg Cl.y h
  have hz : d.z = p.z + s * v.z := congrArg Cl.z h
  refine cl_ext ?_ ?_ ?_ <;> simp only [csub, sc, mulC, hx, hy, hz, Int.mul_add, Int.mul_assoc] <;> omega
theorem next_mul {p c d : Cl} {k : Int} (h : c = cadd p (mulC k (csub d c))) : d = cadd p (mulC (k + 1) (csub d c)) := by
  have hx : c.x = p.x + k * (d.x - c.x) := congrArg Cl.x h
  have hy : c.y = p.y + k * (d.y - c.y) := congrArg Cl.y h
  have hz : c.z = p.z + k * (d.z - c.z) := congrArg Cl.z h
  refine cl_ext ?_ ?_ ?_ <;> simp only [cadd, mulC, csub, Int.add_mul, Int.one_mul] <;> omega
theorem poly {g : Gr} (hs : szA g = true) : ∀ (r : List Cl) (p c d : Cl) (k : Int) (lst : Cl), wk g c (d :: r) → inB g c = true → (c :: d :: r).Nodup → 0 ≤ k → c = cadd p (mulC k (csub d c)) → csub d c ≠ lst → csub d c ≠ ngC lst →
    Good lst ((p :: corL (some c) (d :: r)).map sc) ∧ (legsP ((p :: corL (some c) (d :: r)).map sc)).sum = 1000 * (k + 1 + (r.length : Int))
  | [], p, c, d, k, lst, hw, hc, hn, hk, he, h1, h2 => by
    obtain ⟨w1, w2, _⟩ := hw
    have hd := next_mul he
    have hl := sc_leg hd
    rw [cor_one]
    refine ⟨⟨csub d c, k + 1, w2, by omega, hl, h1, h2, trivial⟩, ?_⟩
    show (legsP [sc p, sc d]).sum = _
    rw [legs_two, hl, len_mul (by omega) w2]
    simp [legsP]
  | e :: r, p, c, d, k, lst, hw, hc, hn, hk, he, h1, h2 => by
    obtain ⟨w1, w2, w3⟩ := hw
    have w3' := w3
    obtain ⟨v1, v2, v3⟩ := w3'
    have hd := next_mul he
    have hn2 := List.nodup_cons.1 hn
    rw [cor_two]
    simp only
    rw [subW_in hs v1.1 w1.1, subW_in hs w1.1 hc]
    by_cases h5 : csub e d = csub d c
    · rw [if_pos h5, List.nil_append]
      have ih := poly hs r p d e (k + 1) lst w3 w1.1 hn2.2 (by omega) (by rw [h5]; exact hd) (by rw [h5]; exact h1) (by rw [h5]; exact h2)
      refine ⟨ih.1, ?_⟩
      rw [ih.2]
      simp only [List.length_cons, Int.natCast_add, Int.natCast_one]; omega
    · rw [if_neg h5]
      have hl := sc_leg hd
      have hne : csub e d ≠ ngC (csub d c) := fun e2 => by
        have hx : e.x - d.x = -(d.x - c.x) := congrArg Cl.x e2
        have hy : e.y - d.y = -(d.y - c.y) := congrArg Cl.y e2
        have hz : e.z - d.z = -(d.z - c.z) := congrArg Cl.z e2
        have : e = c := cl_ext (by omega) (by omega) (by omega)
        exact hn2.1 (by rw [← this]; simp)
      have h0 : d = cadd d (mulC 0 (csub e d)) := cl_ext (by simp [cadd, mulC]) (by simp [cadd, mulC]) (by simp [cadd, mulC])
      have ih := poly hs r d d e 0 (csub d c) w3 w1.1 hn2.2 (Int.le_refl _) h0 h5 hne
      show Good lst (sc p :: sc d :: (corL (some d) (e :: r)).map sc) ∧ (legsP (sc p :: sc d :: (corL (some d) (e :: r)).map sc)).sum = _
      refine ⟨⟨csub d c, k + 1, w2, by omega, hl, h1, h2, ih.1⟩, ?_⟩
      rw [legs_two, List.sum_cons, hl, len_mul (by omega) w2]
      have ih2 : (legsP (sc d :: (corL (some d) (e :: r)).map sc)).sum = _ := ih.2
      rw [ih2]
      simp only [List.length_cons, Int.natCast_add, Int.natCast_one]; omega
theorem cor_last : ∀ (r : List Cl) (c d : Cl), ∃ m, corL (some c) (d :: r) = m ++ [lastC d r]
  | [], c, d => ⟨[], by rw [cor_one]; rfl⟩
  | e :: r, c, d => by
    obtain ⟨m, hm⟩ := cor_last r d e
    rw [cor_two, hm]
    exact ⟨_, (List.append_assoc _ _ _).symm⟩
theorem corners_cons (a d : Cl) (r : List Cl) : cornersP (a :: d :: r) = a :: corL (some a) (d :: r) := by unfold cornersP; rw [cor_two]; rfl
theorem corners_ends {a : Cl} {r : List Cl} : (cornersP (a :: r))[0]? = some a ∧ 0 < (cornersP (a :: r)).length ∧ (cornersP (a :: r))[(cornersP (a :: r)).length - 1]? = some (lastC a r) := by
  cases r with
  | nil =>
    rw [show cornersP [a] = [a] from cor_one none a]
    exact ⟨rfl, by simp, rfl⟩
  | cons d r =>
    obtain ⟨m, hm⟩ := cor_last r a d
    rw [corners_cons, hm]
    refine ⟨rfl, by simp, ?_⟩
    simp [lastC]
/-- What the corners of a found path are. -/
theorem top_ok {g : Gr} {a b : Cl} {bend : Int} {d : Cl} {r : List Cl} (h0 : chkP g = 0) (ha : Fre g a) (hb : 0 ≤ bend ∧ bend ≤ 1000) (hG : Gd g bend b c0 a (d :: r)) : Good c0 ((cornersP (a :: d :: r)).map sc) ∧ (legsP ((cornersP (a :: d :: r)).map sc)).sum = 1000 * ((a :: d :: r).length - 1 : Int) := by
  obtain ⟨h1, _, _⟩ := hG.lst hb.1
  have h3 := poly (chk_ok h0).1 r a a d 0 c0 h1 ha.1 (hG.nodup hb.1) (Int.le_refl _) (cl_ext (by simp [cadd, mulC]) (by simp [cadd, mulC]) (by simp [cadd, mulC])) (way_ne h1.2.1) (by rw [show ngC c0 = c0 by decide]; exact way_ne h1.2.1)
  rw [corners_cons]
  refine ⟨h3.1, ?_⟩
  rw [h3.2]
  simp only [List.length_cons, Int.natCast_add, Int.natCast_one]; omega
theorem top_in {g : Gr} {a b : Cl} {bend : Int} {r : List Cl} (ha : Fre g a) (hb : 0 ≤ bend ∧ bend ≤ 1000) (hG : Gd g bend b c0 a r) : ∀ c ∈ cornersP (a :: r), inB g c = true := fun c hc => by
  have h1 := cor_mem _ _ c hc
  rcases List.mem_cons.1 h1 with e | e
  · rw [e]; exact ha.1
  · exact (wk_all (hG.lst hb.1).1 c e).1
theorem in_8 {g : Gr} {c : Cl} (h8 : g.nx ≤ 8 ∧ g.ny ≤ 8 ∧ g.nz ≤ 8) (h : inB g c = true) : (0 ≤ c.x ∧ c.x ≤ 8) ∧ (0 ≤ c.y ∧ c.y ≤ 8) ∧ (0 ≤ c.z ∧ c.z ≤ 8) := by rw [inB_iff] at h; omega
theorem big_t {g : Gr} (h : ((((decide (8 < g.nx) || decide (8 < g.ny)) || decide (8 < g.nz)) || decide (512 < (g.bl.length : Int))) || !decide (chkP g = 0)) = false) : (g.nx ≤ 8 ∧ g.ny ≤ 8 ∧ g.nz ≤ 8) ∧ chkP g = 0 := by
  obtain ⟨h1, e1⟩ := or_f h
  obtain ⟨h2, _⟩ := or_f h1
  obtain ⟨h3, e3⟩ := or_f h2
  obtain ⟨e5, e4⟩ := or_f h3
  have d3 := of_decide_eq_false e3
  have d4 := of_decide_eq_false e4
  have d5 := of_decide_eq_false e5
  exact ⟨by omega, nd_f e1⟩
theorem ends_f {x y : Int} {n : Int} {p a q b : Cl} (h1 : x = 0) (h2 : y = n) {m : Nat} (h3 : 0 < m) (h4 : p = a) (h5 : q = b) : ((((!decide (x = 0) || !decide (n = y)) || decide ((m : Int) = 0)) || !decide (p = a)) || !decide (q = b)) = false := by
  rw [decide_eq_true h1, decide_eq_true h2.symm, decide_eq_false (show ¬ (m : Int) = 0 by omega), decide_eq_true h4, decide_eq_true h5]; rfl
theorem box_f {c : Cl} (h : (0 ≤ c.x ∧ c.x ≤ 8) ∧ (0 ≤ c.y ∧ c.y ≤ 8) ∧ (0 ≤ c.z ∧ c.z ≤ 8)) : (((((decide (c.x < 0) || decide (8 < c.x)) || decide (c.y < 0)) || decide (8 < c.y)) || decide (c.z < 0)) || decide (8 < c.z)) = false := by
  rw [decide_eq_false (by omega), decide_eq_false (by omega), decide_eq_false (by omega), decide_eq_false (by omega), decide_eq_false (by omega), decide_eq_false (by omega)]; rfl
theorem len_f {m : Nat} (h : (decide ((m : Int) < 2) || decide (30 < (m : Int))) = false) : 2 ≤ m ∧ m ≤ 30 := by
  obtain ⟨h1, h2⟩ := or_f h
  have := of_decide_eq_false h1; have := of_decide_eq_false h2; omega
theorem len_t {m : Nat} {a : Cl} {r : List Cl} (hm : m = (cornersP (a :: r)).length) (h : (decide ((m : Int) < 2) || decide (30 < (m : Int))) = true) : (decide (30 < (m : Int)) || decide (((a :: r).length : Int) = 1)) = true := by
  by_cases h1 : 30 < (m : Int)
  · rw [decide_eq_true h1]; rfl
  · rw [decide_eq_false h1, Bool.or_false] at h
    have h2 := of_decide_eq_true h
    cases r with
    | nil => rw [decide_eq_true (show (([a].length : Nat) : Int) = 1 from rfl), Bool.or_true]
    | cons d r => have := (cor_two_le a d r).1; omega
theorem sum_take (l : List Int) (k : Nat) (x : Int) (h : l[k]? = some x) : (l.take (k + 1)).sum = (l.take k).sum + x := by
  rw [take_get h, List.sum_append]; simp
theorem sum_le : ∀ (l : List Int) (k : Nat), (∀ n ∈ l, 0 ≤ n) → 0 ≤ (l.take k).sum ∧ (l.take k).sum ≤ l.sum
  | [], k, _ => by simp
  | x :: r, 0, h => by
    have h1 := h x (.head _)
    have h2 := sum_le r r.length (fun n hn => h n (.tail _ hn))
    rw [List.take_length] at h2
    simp only [List.take_zero, List.sum_nil, List.sum_cons]; omega
  | x :: r, k + 1, h => by
    have h1 := h x (.head _)
    have h2 := sum_le r k (fun n hn => h n (.tail _ hn))
    simp only [List.take_succ_cons, List.sum_cons]; omega
theorem pts_ok {g : Gr} {l : List Cl} (h8 : g.nx ≤ 8 ∧ g.ny ≤ 8 ∧ g.nz ≤ 8) (h : ∀ c ∈ l, inB g c = true) : ∀ p ∈ l.map sc, Pt p := fun p hp => by
  obtain ⟨c, hc, rfl⟩ := List.mem_map.1 hp
  have := in_8 h8 (h c hc)
  unfold Pt sc; simp only; omega
theorem Own.lenB {w : World} {A : Option Addr} {n c base : Nat} {l : List Cl} (h : Core.Own ccell 26 3 base w (.slice A n c) l) : l.length ≤ maxLen := by
  obtain ⟨_, h1, h2, h3, _⟩ := h.slOf hce_c
  omega
theorem map_snoc {l : List Cl} {k : Nat} {x : Cl} (h : l[k]? = some x) : (l.take k).map sc ++ [sc x] = (l.take (k + 1)).map sc := by rw [take_get h, List.map_append]; rfl
theorem fin_t {s n co bend : Int} {x : Nat} (hx : 2 ≤ x) (h1 : s = 1000 * (n - 1)) (h2 : co = n - 1 + bend * ((x : Int) - 2)) : (((decide ((0 : Int) = 0) && decide (s = 1000 * (n - 1))) && decide (max ((x : Int) - 2) 0 = (x : Int) - 2)) && decide (co = n - 1 + bend * max ((x : Int) - 2) 0)) = true := by
  have e : max ((x : Int) - 2) 0 = (x : Int) - 2 := by omega
  rw [e, decide_eq_true h1, decide_eq_true h2, decide_eq_true rfl, decide_eq_true rfl]; rfl


theorem path_small {g : Gr} {bend : Int} {a b : Cl} {r : List Cl} (hs : szA g = true) (h : Gd g bend b c0 a r) (hb : 0 ≤ bend ∧ bend ≤ 1000) (ha : Fre g a) : (a :: r).length ≤ 13824 := by
  have h1 := h.nodup hb.1
  have h2 : ∀ c ∈ a :: r, inB g c = true := fun c hc => by
    rcases List.mem_cons.1 hc with e | e
    · rw [e]; exact ha.1
    · exact (wk_all (h.lst hb.1).1 c e).1
  have h3 : ((a :: r).map fun c => (c.x * 24 + c.y) * 24 + c.z).Nodup := by
    unfold List.Nodup
    rw [List.pairwise_map]
    refine List.Pairwise.imp_of_mem (fun {p q} hp hq hne e => hne ?_) h1
    have := inB_24 hs (h2 p hp); have := inB_24 hs (h2 q hq)
    exact cl_ext (by omega) (by omega) (by omega)
  have h4 := nodup_len (n := 13824) h3 (fun k hk => by
    obtain ⟨y, hy, rfl⟩ := List.mem_map.1 hk
    have := inB_24 hs (h2 y hy)
    omega)
  rw [List.length_map] at h4
  exact h4
theorem legs_as {A : Option Addr} {n m c : Nat} {l : List Int} {w : World} (h : n = m) (k : Calls Try.prog 10 #[.slice A n c] w fun e w' => ∃ v, e = .returned v ∧ Ext w w' ∧ Core.Own icell 3 1 w.heap.size w' v l) : Calls Try.prog 10 #[.slice A m c] w fun e w' => ∃ v, e = .returned v ∧ Ext w w' ∧ Core.Own icell 3 1 w.heap.size w' v l := h ▸ k
theorem len_as {A : Option Addr} {n m c : Nat} {z : Int} {w : World} (h : n = m) (k : Calls Try.prog 11 #[.slice A n c, .int .i64 100] w fun e w' => e = .returned (.int .i64 z) ∧ Ext w w') : Calls Try.prog 11 #[.slice A m c, .int .i64 100] w fun e w' => e = .returned (.int .i64 z) ∧ Ext w w' := h ▸ k
theorem bends_as {A : Option Addr} {n m c : Nat} {w : World} (h : n = m) (k : Calls Try.prog 12 #[.slice A n c] w fun e w' => e = .returned (.int .i64 (max ((n : Int) - 2) 0)) ∧ Ext w w') : Calls Try.prog 12 #[.slice A m c] w fun e w' => e = .returned (.int .i64 (max ((m : Int) - 2) 0)) ∧ Ext w w' := h ▸ k

theorem top_law (g : Gr) (a b : Cl) (bend : Int) (w : World) (hG : GOk w g) :
    Calls Try.prog 3 #[.agg (gcell g).toArray, .agg (rcell a b).toArray, .int .i64 bend] w fun e w' => e = .returned (.bool (true)) ∧ Ext w w' := by
  refine calls_act Try.func3 rfl Try.ntmps3 rfl rfl ?_
  show Code.wp _ _ _ (act 229 [(0, true, .agg (gcell g).toArray), (1, true, .agg (rcell a b).toArray), (2, true, .int .i64 bend)] _) _
  have hX : Ext w w := Ext.rfl' w
  refine wp_seq ?_
  refine wp_region_lit ?_
  refine s_box rfl ?_
  intro g1 u1 hu1 hB1 hg1 hs1
  replace hB1 : Blk u1 g1 24 (gcell g) := hB1
  have ge_g1 : w.heap.size ≤ g1 := by have := hX.size; omega
  replace hX := hX.comp hu1
  refine s_box rfl ?_
  intro g2 u2 hu2 hB2 hg2 hs2
  replace hB2 : Blk u2 g2 27 (rcell a b) := hB2
  have lt_g1_g2 : g1 < g2 := by have := hB1.lt; omega
  have ge_g2 : w.heap.size ≤ g2 := by have := hX.size; omega
  replace hX := hX.comp hu2
  replace hB1 := hB1.ext hu2
  refine s_look (look_assign rfl rfl) ?_
  refine s_nil ?_
  refine then_normal ?_
  refine wp_seq ?_
  refine wp_seq ?_
  refine region_q ?_
  refine q_look (look_fieldAddr Try.underlying24 rfl (fun _ _ => rfl) rfl rfl) ?_
  refine q_look (look_load1 Try.underlying3 rfl rfl rfl (ext_cell (hB1.cell rfl))) ?_
  refine q_look (look_gtr rfl rfl rfl rfl) ?_
  refine q_look (look_move rfl rfl) ?_
  refine q_lookg rfl rfl rfl (fun hq => look_fieldAddr Try.underlying24 rfl (fun _ _ => rfl) rfl rfl) ?_
  refine q_lookg rfl rfl rfl (fun hq => look_load1 Try.underlying3 rfl rfl hq (ext_cell (hB1.cell rfl))) ?_
  refine q_lookg rfl rfl rfl (fun hq => look_gtr rfl hq rfl rfl) ?_
  refine q_look (look_or rfl rfl rfl rfl) ?_
  refine q_look (look_move rfl rfl) ?_
  refine q_lookg rfl rfl rfl (fun hq => look_fieldAddr Try.underlying24 rfl (fun _ _ => rfl) rfl rfl) ?_
  refine q_lookg rfl rfl rfl (fun hq => look_load1 Try.underlying3 rfl rfl hq (ext_cell (hB1.cell rfl))) ?_
  refine q_lookg rfl rfl rfl (fun hq => look_gtr rfl hq rfl rfl) ?_
  refine q_look (look_or rfl rfl rfl rfl) ?_
  refine q_look (look_move rfl rfl) ?_
  refine q_lookg rfl rfl rfl (fun hq => look_fieldAddr Try.underlying24 rfl (fun _ _ => rfl) rfl rfl) ?_
  refine q_lookg rfl rfl rfl (fun hq => look_load1 Try.underlying22 rfl rfl hq (ext_cell (hB1.cell rfl))) ?_
  refine q_lookg rfl rfl rfl (fun hq => look_len_slice Try.underlying22 rfl hq) ?_
  refine q_lookg rfl rfl rfl (fun hq => look_gtr rfl hq rfl rfl) ?_
  refine q_look (look_or rfl rfl rfl rfl) ?_
  refine q_look (look_move rfl rfl) ?_
  refine q_lookg rfl rfl rfl (fun hq => look_loadN Try.underlying24 rfl szTry_24 rfl rfl rfl (ext_cell_n hB1)) ?_
  refine q_callg (vs := [_]) rfl rfl rfl enTry_4 (fun hq => ⟨⟨_, rfl, hq⟩, trivial⟩) (fun hq wc hw => cext hw (refcheckgrid_any g wc (hG.ext (hX.comp hw)))) ?_
  refine q_lookg rfl rfl rfl (fun hq => look_neq rfl hq rfl rfl) ?_
  refine q_look (look_or rfl rfl rfl rfl) ?_
  refine q_nil ?_
  intro w1 hw1
  replace hX := hX.comp hw1
  replace hB1 := hB1.ext hw1
  replace hB2 := hB2.ext hw1
  refine then_normal ?_
  refine cond_split rfl (fun hc43 => ?_) (fun hc43 => ?_)
  · skip
    refine wp_seq ?_
    refine region_s ?_
    refine q_look (look_assign rfl rfl) ?_
    refine q_nil ?_
    rintro _ rfl
    refine then_normal ?_
    refine wp_ret ?_
    refine then_ret ?_
    exact res1 Try.results3 rfl ⟨ret_bool (by first | rfl | exact hfin | (rw [hz1, hz2]; simp) | exact fin_t L2 rfl hcc), hX⟩
  · obtain ⟨h8, h0⟩ := big_t hc43
    have hs := (chk_ok h0).1
    refine wp_skip ?_
    refine then_normal ?_
    refine wp_seq ?_
    refine wp_region_lit ?_
    refine s_look (look_loadN Try.underlying24 rfl szTry_24 rfl rfl rfl (eqc_n hB1)) ?_
    refine s_look (look_indexAddr_arr 0 Try.underlying27 szTry_26 rfl rfl rfl rfl rfl (by omega)) ?_
    refine s_look (look_loadN Try.underlying26 rfl szTry_26 rfl rfl rfl (cs := ccell a) (eqn (Blk.sub hB2 rfl))) ?_
    refine s_look (look_indexAddr_arr 1 Try.underlying27 szTry_26 rfl rfl rfl rfl rfl (by omega)) ?_
    refine s_look (look_loadN Try.underlying26 rfl szTry_26 rfl rfl rfl (cs := ccell b) (eqn (Blk.sub hB2 rfl))) ?_
    refine s_look (look_move rfl rfl) ?_
    refine s_call (vs := [_, _, _, _]) enTry_5 ⟨⟨_, rfl, rfl⟩, ⟨_, rfl, rfl⟩, ⟨_, rfl, rfl⟩, ⟨_, rfl, rfl⟩, trivial⟩ (path_any g a b bend _ (hG.ext hX)) ?_
    rintro _ u3 ⟨v3, pshP, cohP, erhP, rfl, hc3, hP, pShP⟩
    refine ⟨_, rfl, ?_⟩
    have ne_hP_g1 : Value.ownBlock v3 ≠ some g1 := hP.ne_old hB1.lt
    have ne_hP_g2 : Value.ownBlock v3 ≠ some g2 := hP.ne_old hB2.lt
    replace hP := hP.weak hX.size
    replace hX := hX.comp hc3
    replace hB1 := hB1.ext hc3
    replace hB2 := hB2.ext hc3
    obtain ⟨AhP, chP, rfl, _⟩ := hP.sl hce_c
    refine s_look (look_move rfl rfl) ?_
    refine s_look (look_extract rfl rfl rfl) ?_
    refine s_look (look_extract rfl rfl rfl) ?_
    refine s_look (look_extract rfl rfl rfl) ?_
    refine s_look (look_assign rfl rfl) ?_
    refine s_look (look_assign rfl rfl) ?_
    refine s_look (look_assign rfl rfl) ?_
    refine s_nil ?_
    refine then_normal ?_
    refine wp_seq ?_
    refine wp_seq ?_
    refine region_s ?_
    refine q_look (look_move rfl rfl) ?_
    refine q_look (look_neq rfl rfl rfl rfl) ?_
    refine q_nil ?_
    rintro _ rfl
    refine then_normal ?_
    refine cond_split rfl (fun hc56 => ?_) (fun hc56 => ?_)
    · have he := nd_t hc56
      refine wp_seq ?_
      refine wp_region_lit ?_
      refine s_look (look_loadN Try.underlying24 rfl szTry_24 rfl rfl rfl (eqc_n hB1)) ?_
      refine s_look (look_indexAddr_arr 0 Try.underlying27 szTry_26 rfl rfl rfl rfl rfl (by omega)) ?_
      refine s_look (look_loadN Try.underlying26 rfl szTry_26 rfl rfl rfl (cs := ccell a) (eqn (Blk.sub hB2 rfl))) ?_
      refine s_look (look_indexAddr_arr 1 Try.underlying27 szTry_26 rfl rfl rfl rfl rfl (by omega)) ?_
      refine s_look (look_loadN Try.underlying26 rfl szTry_26 rfl rfl rfl (cs := ccell b) (eqn (Blk.sub hB2 rfl))) ?_
      refine s_look (look_move rfl rfl) ?_
      refine s_call (vs := [_, _, _, _]) enTry_6 ⟨⟨_, rfl, rfl⟩, ⟨_, rfl, rfl⟩, ⟨_, rfl, rfl⟩, ⟨_, rfl, rfl⟩, trivial⟩ (refpath_any g a b bend _ (hG.ext hX)) ?_
      rintro _ u4 ⟨v4, pshQ, cohQ, erhQ, rfl, hc4, hQ, pShQ⟩
      refine ⟨_, rfl, ?_⟩
      have dis_hP_hQ := Own.dis_new hP hQ
      have ne_hQ_g1 : Value.ownBlock v4 ≠ some g1 := hQ.ne_old hB1.lt
      have ne_hQ_g2 : Value.ownBlock v4 ≠ some g2 := hQ.ne_old hB2.lt
      replace hQ := hQ.weak hX.size
      replace hX := hX.comp hc4
      replace hB1 := hB1.ext hc4
      replace hB2 := hB2.ext hc4
      replace hP := hP.ext hc4
      obtain ⟨AhQ, chQ, rfl, _⟩ := hQ.sl hce_c
      refine s_look (look_move rfl rfl) ?_
      refine s_look (look_extract rfl rfl rfl) ?_
      refine s_look (look_extract rfl rfl rfl) ?_
      refine s_look (look_extract rfl rfl rfl) ?_
      refine s_look (look_assign rfl rfl) ?_
      refine s_look (look_assign rfl rfl) ?_
      refine s_look (look_assign rfl rfl) ?_
      refine s_nil ?_
      obtain ⟨e1, e2, e3⟩ := pShP.uniq pShQ
      subst e3
      have hz : pshP = [] ∧ cohP = 0 := by rcases pShP.good with ⟨h, _⟩ | ⟨_, h, h9, _⟩; exact (he h).elim; exact ⟨h, h9⟩
      obtain ⟨hz1, hz2⟩ := hz
      refine then_normal ?_
      refine wp_seq ?_
      refine region_s ?_
      refine q_look (look_move rfl rfl) ?_
      refine q_look (look_len_slice Try.underlying22 rfl rfl) ?_
      refine q_look (look_eql rfl rfl rfl rfl) ?_
      refine q_look (look_move rfl rfl) ?_
      refine q_lookg rfl rfl rfl (fun hq => look_move rfl rfl) ?_
      refine q_lookg rfl rfl rfl (fun hq => look_eql rfl hq rfl rfl) ?_
      refine q_look (look_and rfl rfl rfl rfl) ?_
      refine q_look (look_move rfl rfl) ?_
      refine q_lookg rfl rfl rfl (fun hq => look_move rfl rfl) ?_
      refine q_lookg rfl rfl rfl (fun hq => look_move rfl rfl) ?_
      refine q_lookg rfl rfl rfl (fun hq => look_eql rfl hq rfl hq) ?_
      refine q_look (look_and rfl rfl rfl rfl) ?_
      refine q_look (look_assign rfl rfl) ?_
      refine q_nil ?_
      rintro _ rfl
      refine then_normal ?_
      refine wp_ret ?_
      refine then_ret ?_
      exact res1 Try.results3 rfl ⟨ret_bool (by first | rfl | exact hfin | (rw [hz1, hz2]; simp) | exact fin_t L2 rfl hcc), hX⟩
    · have he := nd_f hc56
      obtain ⟨_, hfa, hfb, hbd, r, rfl, hGd, hco⟩ := good1 pShP he
      obtain ⟨hck, hla2, hcs⟩ := found_ok h0 hfa hbd hGd
      have hmx := Own.lenB hP
      have hgl := gd_len hs hGd hbd hfa
      have hgn := hGd.nodup hbd.1
      obtain ⟨L, hLe⟩ : ∃ L, L = cornersP (a :: r) := ⟨_, rfl⟩
      obtain ⟨l0, l1, l2⟩ := corners_ends (a := a) (r := r)
      have lin := top_in hfa hbd hGd
      have hsml := path_small hs hGd hbd hfa
      rw [← hLe] at l0 l1 l2 lin
      rw [hla2] at l2
      refine wp_skip ?_
      refine then_normal ?_
      refine wp_seq ?_
      refine wp_region_lit ?_
      refine s_look (look_move rfl rfl) ?_
      refine s_call (vs := [_]) enTry_7 ⟨⟨_, rfl, rfl⟩, trivial⟩ (hLe ▸ corners_any (a :: r) AhP chP _ (hP.slOf hce_c).1 hmx (by simp only [List.length_cons] at hsml ⊢; omega)) ?_
      rintro _ u5 ⟨v5, rfl, hc5, hL⟩
      refine ⟨_, rfl, ?_⟩
      have dis_hP_hL := Own.dis_new hP hL
      have ne_hL_g1 : Value.ownBlock v5 ≠ some g1 := hL.ne_old hB1.lt
      have ne_hL_g2 : Value.ownBlock v5 ≠ some g2 := hL.ne_old hB2.lt
      replace hL := hL.weak hX.size
      replace hX := hX.comp hc5
      replace hB1 := hB1.ext hc5
      replace hB2 := hB2.ext hc5
      replace hP := hP.ext hc5
      obtain ⟨AL, cL, rfl, _⟩ := hL.sl hce_c
      obtain ⟨b3, o3, rfl, hr3⟩ := (hL.slOf hce_c).1.at_ l1
      have hLm := Own.lenB hL
      have hLh := (hL.slOf hce_c)
      refine s_look (look_assign rfl rfl) ?_
      refine s_nil ?_
      refine then_normal ?_
      refine wp_seq ?_
      refine wp_seq ?_
      refine region_qd mixed (by kernel_rfl) ?_
      refine q_look (look_loadN Try.underlying24 rfl szTry_24 rfl rfl rfl (ext_cell_n hB1)) ?_
      refine q_look (look_move rfl rfl) ?_
      refine q_call (vs := [_, _]) enTry_8 ⟨⟨_, rfl, rfl⟩, ⟨_, rfl, rfl⟩, trivial⟩ (fun wc hw => cext hw (call_int (check_any g (a :: r) AhP chP wc (hG.ext (hX.comp hw)) ((hP.slOf hce_c).1.ext hw) hmx) hck)) ?_
      refine q_look (look_neq rfl rfl rfl rfl) ?_
      refine q_look (look_move rfl rfl) ?_
      refine q_lookg rfl rfl rfl (fun hq => look_move rfl rfl) ?_
      refine q_lookg rfl rfl rfl (fun hq => look_move rfl rfl) ?_
      refine q_lookg rfl rfl rfl (fun hq => look_move rfl rfl) ?_
      refine q_callg (vs := [_, _]) rfl rfl rfl enTry_9 (fun hq => ⟨⟨_, rfl, hq⟩, ⟨_, rfl, hq⟩, trivial⟩) (fun hq wc hw => cext hw (call_int (cost_any (a :: r) AhP chP bend wc ((hP.slOf hce_c).1.ext hw) hmx hgl) (hcs.trans hco.symm))) ?_
      refine q_lookg rfl rfl rfl (fun hq => look_neq rfl hq rfl hq) ?_
      refine q_look (look_or rfl rfl rfl rfl) ?_
      refine q_look (look_move rfl rfl) ?_
      refine q_lookg rfl rfl rfl (fun hq => look_move rfl rfl) ?_
      refine q_lookg rfl rfl rfl (fun hq => look_len_slice Try.underlying22 rfl hq) ?_
      refine q_lookg rfl rfl rfl (fun hq => look_eql rfl hq rfl rfl) ?_
      refine q_look (look_or rfl rfl rfl rfl) ?_
      refine q_look (look_move rfl rfl) ?_
      refine q_lookg rfl rfl rfl (fun hq => look_move rfl rfl) ?_
      refine q_lookg rfl rfl rfl (fun hq => look_indexAddr 0 Try.underlying22 szTry_26 rfl hq rfl rfl rfl l1) ?_
      refine q_lookg rfl rfl rfl (fun hq => look_loadN Try.underlying26 rfl szTry_26 rfl rfl hq (cs := ccell a) (extn (hL.rd hce_c 0 a l0))) ?_
      refine q_lookg rfl rfl rfl (fun hq => look_indexAddr_arr 0 Try.underlying27 szTry_26 rfl rfl rfl rfl rfl (by omega)) ?_
      refine q_lookg rfl rfl rfl (fun hq => look_loadN Try.underlying26 rfl szTry_26 rfl rfl hq (cs := ccell a) (extn (Blk.sub hB2 rfl))) ?_
      refine q_lookg rfl rfl rfl (fun hq => look_neq_flat Try.underlying26 stood26 guard26 rfl hq rfl hq (eqC _ _)) ?_
      refine q_look (look_or rfl rfl rfl rfl) ?_
      refine q_look (look_move rfl rfl) ?_
      refine q_lookg rfl rfl rfl (fun hq => look_move rfl rfl) ?_
      refine q_lookg rfl rfl rfl (fun hq => look_move rfl rfl) ?_
      refine q_lookg rfl rfl rfl (fun hq => look_len_slice Try.underlying22 rfl hq) ?_
      refine q_lookg rfl rfl rfl (fun hq => look_sub rfl hq rfl rfl (by have := hG.len; have := maxLen_is; unfold I64; omega)) ?_
      refine q_lookg rfl rfl rfl (fun hq => look_indexAddr (L.length - 1) Try.underlying22 szTry_26 rfl hq rfl hq (by omega) (by omega)) ?_
      refine q_lookg rfl rfl rfl (fun hq => look_loadN Try.underlying26 rfl szTry_26 rfl rfl hq (cs := ccell b) (extn (hL.rd hce_c (L.length - 1) b l2))) ?_
      refine q_lookg rfl rfl rfl (fun hq => look_indexAddr_arr 1 Try.underlying27 szTry_26 rfl rfl rfl rfl rfl (by omega)) ?_
      refine q_lookg rfl rfl rfl (fun hq => look_loadN Try.underlying26 rfl szTry_26 rfl rfl hq (cs := ccell b) (extn (Blk.sub hB2 rfl))) ?_
      refine q_lookg rfl rfl rfl (fun hq => look_neq_flat Try.underlying26 stood26 guard26 rfl hq rfl hq (eqC _ _)) ?_
      refine q_look (look_or rfl rfl rfl rfl) ?_
      refine q_nil ?_
      intro w2 hw2
      replace hX := hX.comp hw2
      replace hB1 := hB1.ext hw2
      replace hB2 := hB2.ext hw2
      replace hP := hP.ext hw2
      replace hL := hL.ext hw2
      refine then_normal ?_
      refine cond_false rfl (by rw [ends_f rfl rfl l1 rfl rfl]) ?_
      refine wp_skip ?_
      refine then_normal ?_
      refine wp_seq ?_
      refine wp_seq ?_
      refine region_s ?_
      refine q_look (look_move rfl rfl) ?_
      refine q_look (look_len_slice Try.underlying22 rfl rfl) ?_
      refine q_look (look_lss rfl rfl rfl rfl) ?_
      refine q_look (look_move rfl rfl) ?_
      refine q_lookg rfl rfl rfl (fun hq => look_move rfl rfl) ?_
      refine q_lookg rfl rfl rfl (fun hq => look_len_slice Try.underlying22 rfl hq) ?_
      refine q_lookg rfl rfl rfl (fun hq => look_gtr rfl hq rfl rfl) ?_
      refine q_look (look_or rfl rfl rfl rfl) ?_
      refine q_nil ?_
      rintro _ rfl
      refine then_normal ?_
      refine cond_split rfl (fun hc124 => ?_) (fun hc124 => ?_)
      · have hfin := len_t (congrArg List.length hLe) hc124
        refine wp_seq ?_
        refine region_s ?_
        refine q_look (look_move rfl rfl) ?_
        refine q_look (look_len_slice Try.underlying22 rfl rfl) ?_
        refine q_look (look_gtr rfl rfl rfl rfl) ?_
        refine q_look (look_move rfl rfl) ?_
        refine q_lookg rfl rfl rfl (fun hq => look_move rfl rfl) ?_
        refine q_lookg rfl rfl rfl (fun hq => look_len_slice Try.underlying22 rfl hq) ?_
        refine q_lookg rfl rfl rfl (fun hq => look_eql rfl hq rfl rfl) ?_
        refine q_look (look_or rfl rfl rfl rfl) ?_
        refine q_look (look_assign rfl rfl) ?_
        refine q_nil ?_
        rintro _ rfl
        refine then_normal ?_
        refine wp_ret ?_
        refine then_ret ?_
        exact res1 Try.results3 rfl ⟨ret_bool (by first | rfl | exact hfin | (rw [hz1, hz2]; simp) | exact fin_t L2 rfl hcc), hX⟩
      · obtain ⟨L2, L30⟩ := len_f hc124
        obtain ⟨d, r, rfl⟩ : ∃ d r2, r = d :: r2 := by cases r with | nil => (rw [hLe, show cornersP [a] = [a] from cor_one none a] at L2; simp at L2) | cons d r2 => exact ⟨d, r2, rfl⟩
        obtain ⟨tg1, tg2⟩ := top_ok h0 hfa hbd hGd
        rw [← hLe] at tg1 tg2
        have hpt := pts_ok h8 lin
        have hcc := cor_costs hck (bend := bend) hbd
        rw [← hLe, hcs, ← hco] at hcc
        refine wp_skip ?_
        refine then_normal ?_
        refine wp_seq ?_
        refine region_s ?_
        refine q_look (look_assign rfl rfl) ?_
        refine q_nil ?_
        rintro _ rfl
        have hO := (Own.nil ccell 36 3 w.heap.size w).ext hX
        have dis_hO_hL : Dis (.slice none 0 0) (.slice (some ⟨b3, o3, none⟩) L.length cL) := fun k hk => by cases hk
        refine then_normal ?_
        refine wp_seq ?_
        refine wp_seq ?_
        refine region_s ?_
        refine q_look (look_assign rfl rfl) ?_
        refine q_nil ?_
        rintro _ rfl
        refine then_normal ?_
        refine wp_block ?_
        refine loop_act (fun (ls : Nat × Value) => [(2, .int .i64 bend), (7, .slice AhP (a :: d :: r).length chP), (8, .int .i64 cohP), (13, .slice (some ⟨b3, o3, none⟩) L.length cL), (14, ls.2), (15, .int .i64 (ls.1 : Int))]) (fun ls w' => (Ext w w') ∧ (Core.Own ccell 26 3 w.heap.size w' (.slice (some ⟨b3, o3, none⟩) L.length cL) L) ∧ (Core.Own ccell 36 3 w.heap.size w' ls.2 ((L.take ls.1).map sc)) ∧ (Dis ls.2 (.slice (some ⟨b3, o3, none⟩) L.length cL)) ∧ (ls.1 ≤ L.length)) (fun ls => L.length - ls.1) ((0, .slice none 0 0)) ?_ ?_ ?_
        · exact ⟨rfl, rfl, rfl, rfl, rfl, rfl, trivial⟩
        · exact ⟨hX, hL, hO, dis_hO_hL, Nat.zero_le _⟩
        · rintro ⟨i, ov⟩ σ wr hF
          obtain ⟨hX, hL, hO, dis_hO_hL, hi⟩ : (Ext w wr) ∧ (Core.Own ccell 26 3 w.heap.size wr (.slice (some ⟨b3, o3, none⟩) L.length cL) L) ∧ (Core.Own ccell 36 3 w.heap.size wr ov ((L.take i).map sc)) ∧ (Dis ov (.slice (some ⟨b3, o3, none⟩) L.length cL)) ∧ (i ≤ L.length) := hF
          show Code.wp _ _ _ (act 229 [(2, true, .int .i64 bend), (7, true, .slice AhP (a :: d :: r).length chP), (8, true, .int .i64 cohP), (13, true, .slice (some ⟨b3, o3, none⟩) L.length cL), (14, true, ov), (15, true, .int .i64 (i : Int))] _) _
          refine wp_seq ?_
          refine wp_seq ?_
          refine region_s ?_
          refine q_look (look_move rfl rfl) ?_
          refine q_look (look_move rfl rfl) ?_
          refine q_look (look_len_slice Try.underlying22 rfl rfl) ?_
          refine q_look (look_lss rfl rfl rfl rfl) ?_
          refine q_nil ?_
          rintro _ rfl
          refine then_normal ?_
          refine cond_split rfl (fun hc136 => ?_) (fun hc136 => ?_)
          · have hlt : i < L.length := by have := nn_t hc136; omega
            obtain ⟨x, hx⟩ := get_lt hlt
            have hx8 := in_8 h8 (lin x (mem_get hx))
            have hol : ((L.take i).map sc).length = i := by rw [List.length_map, List.length_take]; omega
            refine wp_skip ?_
            refine then_normal ?_
            refine wp_seq ?_
            refine wp_block ?_
            refine wp_seq ?_
            refine wp_region_lit ?_
            refine s_look (look_move rfl rfl) ?_
            refine s_look (look_move rfl rfl) ?_
            refine s_look (look_indexAddr _ Try.underlying22 szTry_26 rfl rfl rfl rfl rfl (by omega)) ?_
            refine s_look (look_loadN Try.underlying26 rfl szTry_26 rfl rfl rfl (cs := ccell x) (eqn (hL.rd hce_c i x hx))) ?_
            refine s_alloc zeTry_26 ?_
            intro g6 u6 hu6 hB6 hg6 hs6
            have ne_hL_g6 : (Value.ownBlock (.slice (some ⟨b3, o3, none⟩) L.length cL)) ≠ some g6 := hL.ne_new (by omega)
            have ne_hO_g6 : (Value.ownBlock (ov)) ≠ some g6 := hO.ne_new (by omega)
            have ge_g6 : w.heap.size ≤ g6 := by have := hX.size; omega
            replace hX := hX.comp hu6
            replace hL := hL.ext hu6
            replace hO := hO.ext hu6
            refine s_store szTry_26 rfl (by simp [ccell, gcell, itcell, rcell, tcell, icell, Value.cells, Value.oneCell']) rfl rfl hB6 rfl ?_
            intro u7 hk7 hT7
            replace hT7 : Blk u7 g6 26 (ccell x) := hT7
            replace hX := hX.kp hk7 (by omega)
            replace hL := hL.kp hk7 ne_hL_g6
            replace hO := hO.kp hk7 ne_hO_g6
            clear hB6
            have hB6 := hT7
            refine s_nil ?_
            refine then_normal ?_
            refine wp_seq ?_
            refine wp_seq ?_
            refine region_s ?_
            refine q_look (look_fieldAddr Try.underlying26 rfl (fun _ _ => rfl) rfl rfl) ?_
            refine q_look (look_load1 Try.underlying3 rfl rfl rfl (eqc (hB6.cell rfl))) ?_
            refine q_look (look_lss rfl rfl rfl rfl) ?_
            refine q_look (look_move rfl rfl) ?_
            refine q_lookg rfl rfl rfl (fun hq => look_fieldAddr Try.underlying26 rfl (fun _ _ => rfl) rfl rfl) ?_
            refine q_lookg rfl rfl rfl (fun hq => look_load1 Try.underlying3 rfl rfl hq (eqc (hB6.cell rfl))) ?_
            refine q_lookg rfl rfl rfl (fun hq => look_gtr rfl hq rfl rfl) ?_
            refine q_look (look_or rfl rfl rfl rfl) ?_
            refine q_look (look_move rfl rfl) ?_
            refine q_lookg rfl rfl rfl (fun hq => look_fieldAddr Try.underlying26 rfl (fun _ _ => rfl) rfl rfl) ?_
            refine q_lookg rfl rfl rfl (fun hq => look_load1 Try.underlying3 rfl rfl hq (eqc (hB6.cell rfl))) ?_
            refine q_lookg rfl rfl rfl (fun hq => look_lss rfl hq rfl rfl) ?_
            refine q_look (look_or rfl rfl rfl rfl) ?_
            refine q_look (look_move rfl rfl) ?_
            refine q_lookg rfl rfl rfl (fun hq => look_fieldAddr Try.underlying26 rfl (fun _ _ => rfl) rfl rfl) ?_
            refine q_lookg rfl rfl rfl (fun hq => look_load1 Try.underlying3 rfl rfl hq (eqc (hB6.cell rfl))) ?_
            refine q_lookg rfl rfl rfl (fun hq => look_gtr rfl hq rfl rfl) ?_
            refine q_look (look_or rfl rfl rfl rfl) ?_
            refine q_look (look_move rfl rfl) ?_
            refine q_lookg rfl rfl rfl (fun hq => look_fieldAddr Try.underlying26 rfl (fun _ _ => rfl) rfl rfl) ?_
            refine q_lookg rfl rfl rfl (fun hq => look_load1 Try.underlying3 rfl rfl hq (eqc (hB6.cell rfl))) ?_
            refine q_lookg rfl rfl rfl (fun hq => look_lss rfl hq rfl rfl) ?_
            refine q_look (look_or rfl rfl rfl rfl) ?_
            refine q_look (look_move rfl rfl) ?_
            refine q_lookg rfl rfl rfl (fun hq => look_fieldAddr Try.underlying26 rfl (fun _ _ => rfl) rfl rfl) ?_
            refine q_lookg rfl rfl rfl (fun hq => look_load1 Try.underlying3 rfl rfl hq (eqc (hB6.cell rfl))) ?_
            refine q_lookg rfl rfl rfl (fun hq => look_gtr rfl hq rfl rfl) ?_
            refine q_look (look_or rfl rfl rfl rfl) ?_
            refine q_nil ?_
            rintro _ rfl
            refine then_normal ?_
            refine cond_false rfl (by rw [box_f hx8]) ?_
            refine wp_skip ?_
            refine then_normal ?_
            refine wp_region_lit ?_
            refine s_look (look_move rfl rfl) ?_
            refine s_look (look_fieldAddr Try.underlying26 rfl (fun _ _ => rfl) rfl rfl) ?_
            refine s_look (look_load1 Try.underlying3 rfl rfl rfl (eqc (hB6.cell rfl))) ?_
            refine s_look (look_mul rfl rfl rfl rfl (by unfold I64; omega)) ?_
            refine s_look (look_fieldAddr Try.underlying26 rfl (fun _ _ => rfl) rfl rfl) ?_
            refine s_look (look_load1 Try.underlying3 rfl rfl rfl (eqc (hB6.cell rfl))) ?_
            refine s_look (look_mul rfl rfl rfl rfl (by unfold I64; omega)) ?_
            refine s_look (look_fieldAddr Try.underlying26 rfl (fun _ _ => rfl) rfl rfl) ?_
            refine s_look (look_load1 Try.underlying3 rfl rfl rfl (eqc (hB6.cell rfl))) ?_
            refine s_look (look_mul rfl rfl rfl rfl (by unfold I64; omega)) ?_
            refine s_look (look_build (pl := [(0, 1), (1, 1), (2, 1)]) (parts := [(0, .tmp 174), (1, .tmp 177), (2, .tmp 180)]) (vs := [(0, .int .i64 (1000 * x.x)), (1, .int .i64 (1000 * x.y)), (2, .int .i64 (1000 * x.z))]) (cells := ccell (sc x)) Try.underlying36 zeTry_36 (by kernel_rfl) ⟨⟨_, rfl, rfl⟩, ⟨_, rfl, rfl⟩, ⟨_, rfl, rfl⟩, trivial⟩ rfl (by kernel_rfl)) ?_
            refine s_buildSlice (parts := [(0, .tmp 181)]) (vs := [(0, .agg (ccell (sc x)).toArray)]) (cells := ccell (sc x)) Try.underlying35 szTry_36 zeTry_36 rfl rfl ⟨⟨_, rfl, rfl⟩, trivial⟩ rfl (by kernel_rfl) ?_
            intro g8 u8 hu8 hB8 hg8 hs8
            have lt_g6_g8 : g6 < g8 := by have := hB6.lt; omega
            have ne_hL_g8 : (Value.ownBlock (.slice (some ⟨b3, o3, none⟩) L.length cL)) ≠ some g8 := hL.ne_new (by omega)
            have ne_hO_g8 : (Value.ownBlock (ov)) ≠ some g8 := hO.ne_new (by omega)
            have ge_g8 : w.heap.size ≤ g8 := by have := hX.size; omega
            replace hX := hX.comp hu8
            replace hB6 := hB6.ext hu8
            replace hL := hL.ext hu8
            replace hO := hO.ext hu8
            have hsz9 := hX.size
            refine s_appendL (ce := ccell) (news := [sc x]) Try.underlying35 zsbTry_36 rfl rfl rfl hO rfl (Blk.src (x := sc x) rfl (by simp [ccell, Value.oneCell']) hB8) (by have := maxLen_is; simp only [List.length_cons, List.length_nil]; omega) (by simp only [List.length_cons, List.length_nil]; omega) (by omega) ?_
            intro v9 u9 hN9 hgr9 hat9
            replace hX := hX.grow hO (Nat.le_refl _) hgr9
            have hn_hB6 := hB6.grown hgr9 ne_hO_g6
            replace ne_hO_g6 := ne_app ne_hO_g6 hB6.lt hat9
            clear hB6
            have hB6 := hn_hB6
            clear hn_hB6
            have hn_hL := hL.grown hgr9 (Dis.ne dis_hO_hL)
            replace dis_hO_hL := Dis.app dis_hO_hL (fun k e => (hL.ge e).2) hat9
            clear hL
            have hL := hn_hL
            clear hn_hL
            clear hO
            have hO := hN9
            refine s_look (look_assign rfl rfl) ?_
            refine s_nil ?_
            refine inB_normal ?_
            refine then_normal ?_
            refine region_s ?_
            refine q_look (look_move rfl rfl) ?_
            refine q_look (look_add rfl rfl rfl rfl (by unfold I64; omega)) ?_
            refine q_look (look_assign rfl rfl) ?_
            refine q_nil ?_
            rintro _ rfl
            exact loop_end ((i + 1, v9)) (by simp only []; omega) ⟨rfl, rfl, rfl, rfl, rfl, rfl, trivial⟩ ⟨hX, hL, (hO.as (map_snoc hx)), dis_hO_hL, by show i + 1 ≤ L.length; omega⟩
          · have hge : ¬ i < L.length := by have := nn_f hc136; omega
            rw [List.take_of_length_le (by omega)] at hO
            obtain ⟨AO, cO, rfl, _⟩ := hO.sl hce_c
            have hpl : (L.map sc).length = L.length := List.length_map _
            rw [hpl] at hO ⊢
            refine wp_exit ?_
            refine then_exit ?_
            refine then_exit ?_
            refine inB_exit_same ?_
            refine then_normal ?_
            refine wp_seq ?_
            refine wp_region_lit ?_
            refine s_look (look_move rfl rfl) ?_
            refine s_call (vs := [_]) enTry_10 ⟨⟨_, rfl, rfl⟩, trivial⟩ (legs_as hpl (legs_any (L.map sc) AO cO _ (hO.slOf hce_c).1 (by omega) hpt)) ?_
            rintro _ u10 ⟨v10, rfl, hc10, hS⟩
            refine ⟨_, rfl, ?_⟩
            have dis_hL_hS := Own.dis_new hL hS
            have dis_hO_hS := Own.dis_new hO hS
            replace hS := hS.weak hX.size
            replace hX := hX.comp hc10
            replace hL := hL.ext hc10
            replace hO := hO.ext hc10
            obtain ⟨AS, cS, rfl, _⟩ := hS.sl hce_i
            have hnn : ∀ n ∈ legsP (L.map sc), 0 ≤ n := fun n hn => by have := good_legs _ _ tg1 n hn; omega
            refine s_look (look_assign rfl rfl) ?_
            refine s_look (look_assign rfl rfl) ?_
            refine s_nil ?_
            refine then_normal ?_
            refine wp_seq ?_
            refine wp_seq ?_
            refine region_s ?_
            refine q_look (look_assign rfl rfl) ?_
            refine q_nil ?_
            rintro _ rfl
            refine then_normal ?_
            refine wp_block ?_
            refine loop_act (fun (k : Nat) => [(2, .int .i64 bend), (7, .slice AhP (a :: d :: r).length chP), (8, .int .i64 cohP), (13, .slice (some ⟨b3, o3, none⟩) L.length cL), (14, .slice AO L.length cO), (17, .slice AS (legsP (L.map sc)).length cS), (18, .int .i64 ((legsP (L.map sc)).take k).sum), (19, .int .i64 (k : Int))]) (fun k w' => (Ext w w') ∧ (Core.Own ccell 36 3 w.heap.size w' (.slice AO L.length cO) (L.map sc)) ∧ (Core.Own icell 3 1 w.heap.size w' (.slice AS (legsP (L.map sc)).length cS) (legsP (L.map sc))) ∧ (k ≤ (legsP (L.map sc)).length)) (fun k => (legsP (L.map sc)).length - k) (0) ?_ ?_ ?_
            · exact ⟨rfl, rfl, rfl, rfl, rfl, rfl, rfl, rfl, trivial⟩
            · exact ⟨hX, hO, hS, Nat.zero_le _⟩
            · rintro k σ wr hF
              obtain ⟨hX, hO, hS, hk⟩ : (Ext w wr) ∧ (Core.Own ccell 36 3 w.heap.size wr (.slice AO L.length cO) (L.map sc)) ∧ (Core.Own icell 3 1 w.heap.size wr (.slice AS (legsP (L.map sc)).length cS) (legsP (L.map sc))) ∧ (k ≤ (legsP (L.map sc)).length) := hF
              show Code.wp _ _ _ (act 229 [(2, true, .int .i64 bend), (7, true, .slice AhP (a :: d :: r).length chP), (8, true, .int .i64 cohP), (13, true, .slice (some ⟨b3, o3, none⟩) L.length cL), (14, true, .slice AO L.length cO), (17, true, .slice AS (legsP (L.map sc)).length cS), (18, true, .int .i64 ((legsP (L.map sc)).take k).sum), (19, true, .int .i64 (k : Int))] _) _
              refine wp_seq ?_
              refine wp_seq ?_
              refine region_s ?_
              refine q_look (look_move rfl rfl) ?_
              refine q_look (look_move rfl rfl) ?_
              refine q_look (look_len_slice Try.underlying37 rfl rfl) ?_
              refine q_look (look_lss rfl rfl rfl rfl) ?_
              refine q_nil ?_
              rintro _ rfl
              refine then_normal ?_
              refine cond_split rfl (fun hc189 => ?_) (fun hc189 => ?_)
              · have hlt : k < (legsP (L.map sc)).length := by have := nn_t hc189; omega
                obtain ⟨n, hn⟩ := get_lt hlt
                have hs1 := sum_le (legsP (L.map sc)) k hnn
                have hs2 := sum_le (legsP (L.map sc)) (k + 1) hnn
                rw [sum_take _ _ _ hn, tg2] at hs2
                obtain ⟨b5, o5, rfl, hr5⟩ := (hS.slOf hce_i).1.at_ hlt
                simp only [List.length_cons] at hsml
                refine wp_skip ?_
                refine then_normal ?_
                refine wp_seq ?_
                refine wp_block ?_
                refine region_s ?_
                refine q_look (look_move rfl rfl) ?_
                refine q_look (look_move rfl rfl) ?_
                refine q_look (look_move rfl rfl) ?_
                refine q_look (look_indexAddr _ Try.underlying37 szTry_3 rfl rfl rfl rfl rfl (by omega)) ?_
                refine q_look (look_load1 Try.underlying3 rfl rfl rfl (eqc ((hr5 k n hn) 0 _ rfl))) ?_
                refine q_look (look_add rfl rfl rfl rfl (by simp only [List.length_cons] at hs2; unfold I64; omega)) ?_
                refine q_look (look_assign rfl rfl) ?_
                refine q_nil ?_
                rintro _ rfl
                refine inB_normal ?_
                refine then_normal ?_
                refine region_s ?_
                refine q_look (look_move rfl rfl) ?_
                refine q_look (look_add rfl rfl rfl rfl (by have hll := legs_len (L.map sc); unfold I64; omega)) ?_
                refine q_look (look_assign rfl rfl) ?_
                refine q_nil ?_
                rintro _ rfl
                exact loop_end (k + 1) (by omega) ⟨rfl, rfl, rfl, rfl, rfl, rfl, (by show some (true, Value.int .i64 (((legsP (L.map sc)).take k).sum + n)) = some (true, Value.int .i64 ((legsP (L.map sc)).take (k + 1)).sum); rw [sum_take _ _ _ hn]), rfl, trivial⟩ ⟨hX, hO, hS, by omega⟩
              · have hge2 : ¬ k < (legsP (L.map sc)).length := by have := nn_f hc189; omega
                rw [List.take_of_length_le (by omega), tg2]
                simp only [List.length_cons] at hsml
                have hm := mul_bd (a := bend) (A := 1000) (b := max ((L.length : Int) - 2) 0) (B := 28) (by omega) (by omega) (by omega) (by omega)
                refine wp_exit ?_
                refine then_exit ?_
                refine then_exit ?_
                refine inB_exit_same ?_
                refine then_normal ?_
                refine wp_seq ?_
                refine region_q ?_
                refine q_look (look_move rfl rfl) ?_
                refine q_call (vs := [_, _]) enTry_11 ⟨⟨_, rfl, rfl⟩, ⟨_, rfl, rfl⟩, trivial⟩ (fun wc hw => cext hw (len_as hpl (pcheck_any (L.map sc) AO cO wc (((hO.slOf hce_c).1).ext hw) (by omega) hpt (by omega) (by omega) tg1))) ?_
                refine q_look (look_eql rfl rfl rfl rfl) ?_
                refine q_look (look_move rfl rfl) ?_
                refine q_lookg rfl rfl rfl (fun hq => look_move rfl rfl) ?_
                refine q_lookg rfl rfl rfl (fun hq => look_move rfl rfl) ?_
                refine q_lookg rfl rfl rfl (fun hq => look_len_slice Try.underlying22 rfl hq) ?_
                refine q_lookg rfl rfl rfl (fun hq => look_sub rfl hq rfl rfl (by (try simp only [List.length_cons]); unfold I64; omega)) ?_
                refine q_lookg rfl rfl rfl (fun hq => look_mul rfl rfl rfl hq (by (try simp only [List.length_cons]); unfold I64; omega)) ?_
                refine q_lookg rfl rfl rfl (fun hq => look_eql rfl hq rfl hq) ?_
                refine q_look (look_and rfl rfl rfl rfl) ?_
                refine q_look (look_move rfl rfl) ?_
                refine q_lookg rfl rfl rfl (fun hq => look_move rfl rfl) ?_
                refine q_callg (vs := [_]) rfl rfl rfl enTry_12 (fun hq => ⟨⟨_, rfl, hq⟩, trivial⟩) (fun hq wc hw => cext hw (bends_as hpl (bends_any (L.map sc) AO cO wc (by omega)))) ?_
                refine q_lookg rfl rfl rfl (fun hq => look_move rfl rfl) ?_
                refine q_lookg rfl rfl rfl (fun hq => look_len_slice Try.underlying22 rfl hq) ?_
                refine q_lookg rfl rfl rfl (fun hq => look_sub rfl hq rfl rfl (by (try simp only [List.length_cons]); unfold I64; omega)) ?_
                refine q_lookg rfl rfl rfl (fun hq => look_eql rfl hq rfl hq) ?_
                refine q_look (look_and rfl rfl rfl rfl) ?_
                refine q_look (look_move rfl rfl) ?_
                refine q_lookg rfl rfl rfl (fun hq => look_move rfl rfl) ?_
                refine q_lookg rfl rfl rfl (fun hq => look_move rfl rfl) ?_
                refine q_lookg rfl rfl rfl (fun hq => look_len_slice Try.underlying22 rfl hq) ?_
                refine q_lookg rfl rfl rfl (fun hq => look_sub rfl hq rfl rfl (by (try simp only [List.length_cons]); unfold I64; omega)) ?_
                refine q_lookg rfl rfl rfl (fun hq => look_move rfl rfl) ?_
                refine q_lookg rfl rfl rfl (fun hq => look_move rfl rfl) ?_
                refine q_callg (vs := [_]) rfl rfl rfl enTry_12 (fun hq => ⟨⟨_, rfl, hq⟩, trivial⟩) (fun hq wc hw => cext hw (bends_as hpl (bends_any (L.map sc) AO cO wc (by omega)))) ?_
                refine q_lookg rfl rfl rfl (fun hq => look_mul rfl hq rfl hq (by (try simp only [List.length_cons]); unfold I64; omega)) ?_
                refine q_lookg rfl rfl rfl (fun hq => look_add rfl hq rfl hq (by (try simp only [List.length_cons]); unfold I64; omega)) ?_
                refine q_lookg rfl rfl rfl (fun hq => look_eql rfl hq rfl hq) ?_
                refine q_look (look_and rfl rfl rfl rfl) ?_
                refine q_look (look_assign rfl rfl) ?_
                refine q_nil ?_
                intro w3 hw3
                replace hX := hX.comp hw3
                replace hO := hO.ext hw3
                replace hS := hS.ext hw3
                refine then_normal ?_
                refine wp_ret ?_
                exact res1 Try.results3 rfl ⟨ret_bool (by first | rfl | exact hfin | (rw [hz1, hz2]; simp) | exact fin_t L2 rfl hcc), hX⟩

end Go.Proofs.Ythddekipelbooaa
