/- The walks of chapter 44 (route): the law RouteCheapest. -/
import Derived.Test.YtbmchijgejgboaaQa
import Derived.Test.YtbmchijgejgboaaAw
namespace Go.Proofs.Ytbmchijgejgboaa
open Go Go.RowKit Core
set_option linter.unusedVariables false
set_option linter.unusedSimpArgs false
attribute [local irreducible] wpQuiet wpList wpH wpT Code.wp Calls bodyPost act


theorem get0 {l : List Cl} (h : l.length ≠ 0) : l[0]? = some (l.getD 0 c0) := by cases l with | nil => exact (h rfl).elim | cons a r => rfl
theorem getL {l : List Cl} (h : l.length ≠ 0) : l[l.length - 1]? = some (l.getD (l.length - 1) c0) := by
  obtain ⟨x, hx⟩ := get_lt (show l.length - 1 < l.length by omega)
  rw [hx, getD_of hx]
/-- The other path, as the law asks of it. -/
theorem other_ok {g : Gr} {a b : Cl} {l : List Cl} (h1 : l.length ≠ 0) (h2 : l.getD 0 c0 = a) (h3 : l.getD (l.length - 1) c0 = b) (h4 : checkP g l = 0) : ∃ r', l = a :: r' ∧ chkP g = 0 ∧ Fre g a ∧ Fre g b ∧ wk g a r' ∧ lastC a r' = b := by
  cases l with
  | nil => exact (h1 rfl).elim
  | cons c r =>
    obtain rfl : c = a := h2
    obtain ⟨k1, k2, k3, _⟩ := check_ok.1 h4
    have e : lastC c r = b := by
      have h5 := getL h1
      rw [h3, show (c :: r).length - 1 = r.length from rfl, lastC_get] at h5
      exact Option.some.inj h5
    exact ⟨r, rfl, k1, k2, e ▸ wk_last k2 k3, k3, e⟩
def rowT (i : It) : List Value := itcell i
theorem big_f {g : Gr} {l : List Cl} (h : ((!smallB g || !decide (chkP g = 0)) || decide (200 < (l.length : Int))) = false) : chkP g = 0 ∧ l.length ≤ 200 := by
  obtain ⟨h1, h2⟩ := or_f h
  obtain ⟨_, h3⟩ := or_f h1
  exact ⟨nd_f h3, by have := of_decide_eq_false h2; omega⟩
theorem oth_f {x : Int} {a b p q : Cl} {l : List Cl} {k : Int} (h : ((((((decide (x < 0) || decide (1000 < x)) || decide ((l.length : Int) = 0)) || !decide (p = a)) || !decide (q = b)) || !decide (k = 0))) = false) : (0 ≤ x ∧ x ≤ 1000) ∧ p = a ∧ q = b ∧ k = 0 := by
  obtain ⟨h1, e1⟩ := or_f h
  obtain ⟨h2, e2⟩ := or_f h1
  obtain ⟨h3, e3⟩ := or_f h2
  obtain ⟨h4, e4⟩ := or_f h3
  obtain ⟨e6, e5⟩ := or_f h4
  have d1 := of_decide_eq_false e5
  have d2 := of_decide_eq_false e6
  have d3 := of_decide_eq_false e4
  exact ⟨by omega, nd_f e3, nd_f e2, nd_f e1⟩
theorem ix1 {a : Bool} {l : List Cl} (h : gq true (a || decide ((l.length : Int) = 0)) false = true) : l.length ≠ 0 := by
  have := of_decide_eq_false (or_f (gq_f h)).2; omega
theorem ix2 {a c : Bool} {l : List Cl} (h : gq true ((a || decide ((l.length : Int) = 0)) || c) false = true) : l.length ≠ 0 := by
  have := of_decide_eq_false (or_f (or_f (gq_f h)).1).2; omega
theorem Own.lenB {w : World} {A : Option Addr} {n c base : Nat} {l : List Cl} (h : Core.Own ccell 35 3 base w (.slice A n c) l) : l.length ≤ maxLen := by
  obtain ⟨_, h1, h2, h3, _⟩ := h.slOf hce_c
  omega
theorem take_len {r r' : List Cl} {a : Cl} {i : Nat} (ht : (a :: r).take i = (a :: r').take i) (hi : ¬ i < (a :: r').length) : r.take r'.length = r' := by
  rw [List.take_of_length_le (l := a :: r') (by omega)] at ht
  have h2 := congrArg (List.take (r'.length + 1)) ht
  rw [List.take_take, Nat.min_eq_left (by simp only [List.length_cons] at hi; omega), List.take_of_length_le (l := a :: r') (by simp)] at h2
  simpa using h2


theorem gd_len {g : Gr} {bend : Int} {a b : Cl} {r : List Cl} (hs : szA g = true) (h : Gd g bend b c0 a r) (hb : 0 ≤ bend ∧ bend ≤ 1000) (ha : Fre g a) : (a :: r).length ≤ 4000000000000 := by
  have h1 := h.nodup hb.1
  have h2 : ∀ c ∈ a :: r, inB g c = true := fun c hc => by
    rcases List.mem_cons.1 hc with e | e
    · rw [e]; exact ha.1
    · exact (wk_all (h.lst hb.1).1 c e).1
  have h3 : ((a :: r).map fun c => (c.x * 24 + c.y) * 24 + c.z).Nodup := by
    unfold List.Nodup
    rw [List.pairwise_map]
    refine List.Pairwise.imp_of_mem (fun {p q} hp hq hne e => hne ?_) h1
    have := inB_24 hs (h2 p hp); have := inB_24 hs (h2 q hq)
    exact cl_ext (by omega) (by omega) (by omega)
  have h4 := nodup_len (n := 13824) h3 (fun k hk => by
    obtain ⟨y, hy, rfl⟩ := List.mem_map.1 hk
    have := inB_24 hs (h2 y hy)
    omega)
  rw [List.length_map] at h4
  omega
theorem fin_lt {g : Gr} {bend : Int} {a b x y : Cl} {r r' : List Cl} {i : Nat} (hb : 0 ≤ bend) (hG : Gd g bend b c0 a r) (hw : wk g a r') (hl : lastC a r' = b) (ht : (a :: r).take i = (a :: r').take i) (hx : (a :: r)[i]? = some x) (hy : (a :: r')[i]? = some y) (hne : ¬ x = y) (hle : wc bend c0 a r ≤ wc bend c0 a r') : (decide (wc bend c0 a r < wc bend c0 a r') || befB x y) = true := by
  by_cases h : wc bend c0 a r < wc bend c0 a r'
  · rw [decide_eq_true h]; rfl
  · have e : wc bend c0 a r' = wc bend c0 a r := by omega
    cases i with
    | zero => simp only [List.getElem?_cons_zero, Option.some.injEq] at hx hy; exact (hne (hx.symm.trans hy)).elim
    | succ i =>
      simp only [List.getElem?_cons_succ] at hx hy
      simp only [List.take_succ_cons, List.cons.injEq, true_and] at ht
      rw [befB_iff.2 (hG.first hb i hw hl e ht hx hy hne), Bool.or_true]
theorem fin_len {g : Gr} {bend : Int} {a b : Cl} {r r' : List Cl} {i : Nat} (hG : Gd g bend b c0 a r) (hl : lastC a r' = b) (ht : (a :: r).take i = (a :: r').take i) (hc : (decide ((i : Int) < ((a :: r).length : Int)) && decide ((i : Int) < ((a :: r').length : Int))) = false) : decide (((a :: r).length : Int) ≤ ((a :: r').length : Int)) = true := by
  refine decide_eq_true ?_
  by_cases h : i < (a :: r').length
  · rw [decide_eq_true (show (i : Int) < ((a :: r').length : Int) by omega), Bool.and_true] at hc
    have := of_decide_eq_false hc
    omega
  · have := hG.short hl (take_len ht h)
    simp only [List.length_cons]; omega

theorem cheapest_law (g : Gr) (t : It) (l : List Cl) (A : Option Addr) (c : Nat) (w : World) (hG : GOk w g) (hA : Sl ccell 3 w A l) (hla : l.length ≤ maxLen) :
    Calls Try.prog 6 #[.agg (gcell g).toArray, .agg (itcell t).toArray, .slice A l.length c] w fun e w' => e = .returned (.bool (true)) ∧ Ext w w' := by
  refine calls_act Try.func6 rfl Try.ntmps6 rfl rfl ?_
  show Code.wp _ _ _ (act 174 [(0, true, .agg (gcell g).toArray), (1, true, .agg (itcell t).toArray), (2, true, .slice A l.length c)] _) _
  have hX : Ext w w := Ext.rfl' w
  refine wp_seq ?_
  refine wp_region_lit ?_
  refine s_box rfl ?_
  intro g1 u1 hu1 hB1 hg1 hs1
  replace hB1 : Blk u1 g1 24 (gcell g) := hB1
  have ge_g1 : w.heap.size ≤ g1 := by have := hX.size; omega
  replace hX := hX.comp hu1
  refine s_box rfl ?_
  intro g2 u2 hu2 hB2 hg2 hs2
  replace hB2 : Blk u2 g2 37 (itcell t) := hB2
  have lt_g1_g2 : g1 < g2 := by have := hB1.lt; omega
  have ge_g2 : w.heap.size ≤ g2 := by have := hX.size; omega
  replace hX := hX.comp hu2
  replace hB1 := hB1.ext hu2
  refine s_look (look_assign rfl rfl) ?_
  refine s_nil ?_
  refine then_normal ?_
  refine wp_seq ?_
  refine wp_seq ?_
  refine region_q ?_
  refine q_look (look_loadN Try.underlying24 rfl szTry_24 rfl rfl rfl (ext_cell_n hB1)) ?_
  refine q_call (vs := [_]) enTry_20 ⟨⟨_, rfl, rfl⟩, trivial⟩ (fun wc hw => cext hw (small_any g wc (hG.ext (hX.comp hw)))) ?_
  refine q_look (look_not rfl rfl) ?_
  refine q_look (look_move rfl rfl) ?_
  refine q_lookg rfl rfl rfl (fun hq => look_loadN Try.underlying24 rfl szTry_24 rfl rfl rfl (ext_cell_n hB1)) ?_
  refine q_callg (vs := [_]) rfl rfl rfl enTry_12 (fun hq => ⟨⟨_, rfl, hq⟩, trivial⟩) (fun hq wc hw => cext hw (refcheckgrid_any g wc (hG.ext (hX.comp hw)))) ?_
  refine q_lookg rfl rfl rfl (fun hq => look_neq rfl hq rfl rfl) ?_
  refine q_look (look_or rfl rfl rfl rfl) ?_
  refine q_look (look_move rfl rfl) ?_
  refine q_lookg rfl rfl rfl (fun hq => look_move rfl rfl) ?_
  refine q_lookg rfl rfl rfl (fun hq => look_len_slice Try.underlying22 rfl hq) ?_
  refine q_lookg rfl rfl rfl (fun hq => look_gtr rfl hq rfl rfl) ?_
  refine q_look (look_or rfl rfl rfl rfl) ?_
  refine q_nil ?_
  intro w1 hw1
  replace hX := hX.comp hw1
  replace hB1 := hB1.ext hw1
  replace hB2 := hB2.ext hw1
  refine then_normal ?_
  refine cond_split rfl (fun hc24 => ?_) (fun hc24 => ?_)
  · skip
    refine wp_seq ?_
    refine region_q ?_
    refine q_call (vs := []) enTry_10 trivial (fun wc hw => cext hw (awake_any wc)) ?_
    refine q_look (look_assign rfl rfl) ?_
    refine q_nil ?_
    intro w2 hw2
    replace hX := hX.comp hw2
    replace hB1 := hB1.ext hw2
    replace hB2 := hB2.ext hw2
    refine then_normal ?_
    refine wp_ret ?_
    refine then_ret ?_
    exact res1 Try.results6 rfl ⟨ret_bool (by first | rfl | (rw [hfin]; rfl)), hX⟩
  · obtain ⟨h0, hl2⟩ := big_f hc24
    have hs := (chk_ok h0).1
    refine wp_skip ?_
    refine then_normal ?_
    refine wp_seq ?_
    refine wp_region_lit ?_
    refine s_look (look_loadN Try.underlying24 rfl szTry_24 rfl rfl rfl (eqc_n hB1)) ?_
    refine s_look (look_fieldAddr Try.underlying37 rfl (fun _ _ => rfl) rfl rfl) ?_
    refine s_look (look_loadN Try.underlying35 rfl szTry_35 rfl rfl rfl (cs := ccell t.at_) (eqn (Blk.sub hB2 rfl))) ?_
    refine s_look (look_fieldAddr Try.underlying37 rfl (fun _ _ => rfl) rfl rfl) ?_
    refine s_look (look_loadN Try.underlying35 rfl szTry_35 rfl rfl rfl (cs := ccell t.by_) (eqn (Blk.sub hB2 rfl))) ?_
    refine s_look (look_fieldAddr Try.underlying37 rfl (fun _ _ => rfl) rfl rfl) ?_
    refine s_look (look_load1 Try.underlying3 rfl rfl rfl (eqc (hB2.cell rfl))) ?_
    refine s_call (vs := [_, _, _, _]) enTry_21 ⟨⟨_, rfl, rfl⟩, ⟨_, rfl, rfl⟩, ⟨_, rfl, rfl⟩, ⟨_, rfl, rfl⟩, trivial⟩ (path_any g t.at_ t.by_ t.left _ (hG.ext hX)) ?_
    rintro _ u3 ⟨v3, pshP, cohP, erhP, rfl, hc3, hP, pShP⟩
    refine ⟨_, rfl, ?_⟩
    have ne_hP_g1 : Value.ownBlock v3 ≠ some g1 := hP.ne_old hB1.lt
    have ne_hP_g2 : Value.ownBlock v3 ≠ some g2 := hP.ne_old hB2.lt
    replace hP := hP.weak hX.size
    replace hX := hX.comp hc3
    replace hB1 := hB1.ext hc3
    replace hB2 := hB2.ext hc3
    obtain ⟨AhP, chP, rfl, _⟩ := hP.sl hce_c
    refine s_look (look_move rfl rfl) ?_
    refine s_look (look_extract rfl rfl rfl) ?_
    refine s_look (look_extract rfl rfl rfl) ?_
    refine s_look (look_extract rfl rfl rfl) ?_
    refine s_look (look_assign rfl rfl) ?_
    refine s_look (look_assign rfl rfl) ?_
    refine s_look (look_assign rfl rfl) ?_
    refine s_nil ?_
    refine then_normal ?_
    refine wp_seq ?_
    refine wp_seq ?_
    rcases pShP.good with ⟨rfl, _, hfa, hfb, hbd, r, rfl, hGd, hco⟩ | ⟨he, rfl, hco, hno⟩
    · obtain ⟨hck, hla2, hcs⟩ := found_ok h0 hfa hbd hGd
      have hmx := Own.lenB hP
      obtain ⟨b1, o1, rfl, hr1⟩ := (hP.slOf hce_c).1.at_ (show 0 < (t.at_ :: r).length by simp)
      have hS : Sl ccell 3 _ (some ⟨b1, o1, none⟩) (t.at_ :: r) := (hP.slOf hce_c).1
      refine region_qd mixed (by kernel_rfl) ?_
      refine q_look (look_move rfl rfl) ?_
      refine q_look (look_eql rfl rfl rfl rfl) ?_
      refine q_look (look_move rfl rfl) ?_
      refine q_lookg rfl rfl rfl (fun hq => look_move rfl rfl) ?_
      refine q_lookg rfl rfl rfl (fun hq => look_len_slice Try.underlying22 rfl hq) ?_
      refine q_lookg rfl rfl rfl (fun hq => look_eql rfl hq rfl rfl) ?_
      refine q_lookg rfl rfl rfl (fun hq => look_move rfl hq) ?_
      refine q_lookg rfl rfl rfl (fun hq => look_loadN Try.underlying24 rfl szTry_24 rfl rfl rfl (ext_cell_n hB1)) ?_
      refine q_lookg rfl rfl rfl (fun hq => look_move rfl rfl) ?_
      refine q_callg (vs := [_, _]) rfl rfl rfl enTry_13 (fun hq => ⟨⟨_, rfl, hq⟩, ⟨_, rfl, hq⟩, trivial⟩) (fun hq wc hw => cext hw (call_int (check_any g (t.at_ :: r) (some ⟨b1, o1, none⟩) chP wc (hG.ext (hX.comp hw)) (hS.ext hw) hmx) hck)) ?_
      refine q_lookg rfl rfl rfl (fun hq => look_neq rfl hq rfl rfl) ?_
      refine q_lookg rfl rfl rfl (fun hq => look_or rfl hq rfl hq) ?_
      refine q_lookg rfl rfl rfl (fun hq => look_move rfl hq) ?_
      refine q_lookg rfl rfl rfl (fun hq => look_move rfl rfl) ?_
      refine q_lookg rfl rfl rfl (fun hq => look_indexAddr 0 Try.underlying22 szTry_35 rfl hq rfl rfl rfl (by simp)) ?_
      refine q_lookg rfl rfl rfl (fun hq => look_loadN Try.underlying35 rfl szTry_35 rfl rfl hq (cs := ccell t.at_) (extn (hr1 0 t.at_ rfl))) ?_
      refine q_lookg rfl rfl rfl (fun hq => look_fieldAddr Try.underlying37 rfl (fun _ _ => rfl) rfl rfl) ?_
      refine q_lookg rfl rfl rfl (fun hq => look_loadN Try.underlying35 rfl szTry_35 rfl rfl hq (cs := ccell t.at_) (extn (Blk.sub hB2 rfl))) ?_
      refine q_lookg rfl rfl rfl (fun hq => look_neq_flat Try.underlying35 stood35 guard35 rfl hq rfl hq (eqC _ _)) ?_
      refine q_lookg rfl rfl rfl (fun hq => look_or rfl hq rfl hq) ?_
      refine q_lookg rfl rfl rfl (fun hq => look_move rfl hq) ?_
      refine q_lookg rfl rfl rfl (fun hq => look_move rfl rfl) ?_
      refine q_lookg rfl rfl rfl (fun hq => look_move rfl rfl) ?_
      refine q_lookg rfl rfl rfl (fun hq => look_len_slice Try.underlying22 rfl hq) ?_
      refine q_lookg rfl rfl rfl (fun hq => look_sub rfl hq rfl rfl (by have := maxLen_is; simp only [List.length_cons] at hmx ⊢; unfold I64; omega)) ?_
      refine q_lookg rfl rfl rfl (fun hq => look_indexAddr r.length Try.underlying22 szTry_35 rfl hq rfl hq (by simp only [List.length_cons]; omega) (by simp)) ?_
      refine q_lookg rfl rfl rfl (fun hq => look_loadN Try.underlying35 rfl szTry_35 rfl rfl hq (cs := ccell t.by_) (extn (hr1 r.length t.by_ (by rw [lastC_get, hla2])))) ?_
      refine q_lookg rfl rfl rfl (fun hq => look_fieldAddr Try.underlying37 rfl (fun _ _ => rfl) rfl rfl) ?_
      refine q_lookg rfl rfl rfl (fun hq => look_loadN Try.underlying35 rfl szTry_35 rfl rfl hq (cs := ccell t.by_) (extn (Blk.sub hB2 rfl))) ?_
      refine q_lookg rfl rfl rfl (fun hq => look_neq_flat Try.underlying35 stood35 guard35 rfl hq rfl hq (eqC _ _)) ?_
      refine q_lookg rfl rfl rfl (fun hq => look_or rfl hq rfl hq) ?_
      refine q_lookg rfl rfl rfl (fun hq => look_move rfl hq) ?_
      refine q_lookg rfl rfl rfl (fun hq => look_move rfl rfl) ?_
      refine q_lookg rfl rfl rfl (fun hq => look_move rfl rfl) ?_
      refine q_lookg rfl rfl rfl (fun hq => look_fieldAddr Try.underlying37 rfl (fun _ _ => rfl) rfl rfl) ?_
      refine q_lookg rfl rfl rfl (fun hq => look_load1 Try.underlying3 rfl rfl hq (ext_cell (hB2.cell rfl))) ?_
      refine q_callg (vs := [_, _]) rfl rfl rfl enTry_15 (fun hq => ⟨⟨_, rfl, hq⟩, ⟨_, rfl, hq⟩, trivial⟩) (fun hq wc hw => cext hw (call_int (cost_any (t.at_ :: r) (some ⟨b1, o1, none⟩) chP t.left wc (hS.ext hw) hmx (gd_len hs hGd hbd hfa)) (hcs.trans hco.symm))) ?_
      refine q_lookg rfl rfl rfl (fun hq => look_neq rfl hq rfl hq) ?_
      refine q_lookg rfl rfl rfl (fun hq => look_or rfl hq rfl hq) ?_
      refine q_look (look_and rfl rfl rfl rfl) ?_
      refine q_nil ?_
      intro w3 hw3
      replace hX := hX.comp hw3
      replace hB1 := hB1.ext hw3
      replace hB2 := hB2.ext hw3
      replace hP := hP.ext hw3
      replace hS := hS.ext hw3
      refine then_normal ?_
      refine cond_false rfl (by simp; omega) ?_
      refine wp_skip ?_
      refine then_normal ?_
      refine wp_seq ?_
      refine wp_seq ?_
      rcases l with _ | ⟨y0, l1⟩
      · refine region_qd mixed (by kernel_rfl) ?_
        refine q_look (look_fieldAddr Try.underlying37 rfl (fun _ _ => rfl) rfl rfl) ?_
        refine q_look (look_load1 Try.underlying3 rfl rfl rfl (ext_cell (hB2.cell rfl))) ?_
        refine q_look (look_lss rfl rfl rfl rfl) ?_
        refine q_look (look_move rfl rfl) ?_
        refine q_lookg rfl rfl rfl (fun hq => look_fieldAddr Try.underlying37 rfl (fun _ _ => rfl) rfl rfl) ?_
        refine q_lookg rfl rfl rfl (fun hq => look_load1 Try.underlying3 rfl rfl hq (ext_cell (hB2.cell rfl))) ?_
        refine q_lookg rfl rfl rfl (fun hq => look_gtr rfl hq rfl rfl) ?_
        refine q_look (look_or rfl rfl rfl rfl) ?_
        refine q_look (look_move rfl rfl) ?_
        refine q_lookg rfl rfl rfl (fun hq => look_move rfl rfl) ?_
        refine q_lookg rfl rfl rfl (fun hq => look_len_slice Try.underlying22 rfl hq) ?_
        refine q_lookg rfl rfl rfl (fun hq => look_eql rfl hq rfl rfl) ?_
        refine q_look (Look.as (look_or rfl rfl rfl rfl) (v' := .bool true) (by simp)) ?_
        refine q_look (look_move rfl rfl) ?_
        refine q_dead (v := .bool false) rfl rfl rfl rfl ?_
        refine q_dead (v := .bool false) rfl rfl rfl rfl ?_
        refine q_dead (v := .bool false) rfl rfl rfl rfl ?_
        refine q_dead (v := .bool false) rfl rfl rfl rfl ?_
        refine q_dead (v := .bool false) rfl rfl rfl rfl ?_
        refine q_dead (v := .bool false) rfl rfl rfl rfl ?_
        refine q_look (look_or rfl rfl rfl rfl) ?_
        refine q_look (look_move rfl rfl) ?_
        refine q_dead (v := .bool false) rfl rfl rfl rfl ?_
        refine q_dead (v := .bool false) rfl rfl rfl rfl ?_
        refine q_dead (v := .bool false) rfl rfl rfl rfl ?_
        refine q_dead (v := .bool false) rfl rfl rfl rfl ?_
        refine q_dead (v := .bool false) rfl rfl rfl rfl ?_
        refine q_dead (v := .bool false) rfl rfl rfl rfl ?_
        refine q_dead (v := .bool false) rfl rfl rfl rfl ?_
        refine q_dead (v := .bool false) rfl rfl rfl rfl ?_
        refine q_dead (v := .bool false) rfl rfl rfl rfl ?_
        refine q_look (look_or rfl rfl rfl rfl) ?_
        refine q_look (look_move rfl rfl) ?_
        refine q_dead (v := .bool false) rfl rfl rfl rfl ?_
        refine q_dead (v := .bool false) rfl rfl rfl rfl ?_
        refine q_dead (v := .bool false) rfl rfl rfl rfl ?_
        refine q_dead (v := .bool false) rfl rfl rfl rfl ?_
        refine q_look (look_or rfl rfl rfl rfl) ?_
        refine q_nil ?_
        intro w4 hw4
        replace hX := hX.comp hw4
        replace hB1 := hB1.ext hw4
        replace hB2 := hB2.ext hw4
        replace hP := hP.ext hw4
        replace hS := hS.ext hw4
        refine then_normal ?_
        refine cond_true rfl rfl ?_
        refine wp_seq ?_
        refine region_q ?_
        refine q_call (vs := []) enTry_10 trivial (fun wc hw => cext hw (awake_any wc)) ?_
        refine q_look (look_assign rfl rfl) ?_
        refine q_nil ?_
        intro w5 hw5
        replace hX := hX.comp hw5
        replace hB1 := hB1.ext hw5
        replace hB2 := hB2.ext hw5
        replace hP := hP.ext hw5
        replace hS := hS.ext hw5
        refine then_normal ?_
        refine wp_ret ?_
        refine then_ret ?_
        exact res1 Try.results6 rfl ⟨ret_bool (by first | rfl | (rw [hfin]; rfl)), hX⟩
      · obtain ⟨b2, o2, rfl, hr2⟩ := (hA.ext hX).at_ (show 0 < (y0 :: l1).length by simp)
        refine region_qd mixed (by kernel_rfl) ?_
        refine q_look (look_fieldAddr Try.underlying37 rfl (fun _ _ => rfl) rfl rfl) ?_
        refine q_look (look_load1 Try.underlying3 rfl rfl rfl (ext_cell (hB2.cell rfl))) ?_
        refine q_look (look_lss rfl rfl rfl rfl) ?_
        refine q_look (look_move rfl rfl) ?_
        refine q_lookg rfl rfl rfl (fun hq => look_fieldAddr Try.underlying37 rfl (fun _ _ => rfl) rfl rfl) ?_
        refine q_lookg rfl rfl rfl (fun hq => look_load1 Try.underlying3 rfl rfl hq (ext_cell (hB2.cell rfl))) ?_
        refine q_lookg rfl rfl rfl (fun hq => look_gtr rfl hq rfl rfl) ?_
        refine q_look (look_or rfl rfl rfl rfl) ?_
        refine q_look (look_move rfl rfl) ?_
        refine q_lookg rfl rfl rfl (fun hq => look_move rfl rfl) ?_
        refine q_lookg rfl rfl rfl (fun hq => look_len_slice Try.underlying22 rfl hq) ?_
        refine q_lookg rfl rfl rfl (fun hq => look_eql rfl hq rfl rfl) ?_
        refine q_look (look_or rfl rfl rfl rfl) ?_
        refine q_look (look_move rfl rfl) ?_
        refine q_lookg rfl rfl rfl (fun hq => look_move rfl rfl) ?_
        refine q_lookg rfl rfl rfl (fun hq => look_indexAddr 0 Try.underlying22 szTry_35 rfl hq rfl rfl rfl (by simp)) ?_
        refine q_lookg rfl rfl rfl (fun hq => look_loadN Try.underlying35 rfl szTry_35 rfl rfl hq (cs := ccell y0) (extn (hr2 0 y0 rfl))) ?_
        refine q_lookg rfl rfl rfl (fun hq => look_fieldAddr Try.underlying37 rfl (fun _ _ => rfl) rfl rfl) ?_
        refine q_lookg rfl rfl rfl (fun hq => look_loadN Try.underlying35 rfl szTry_35 rfl rfl hq (cs := ccell t.at_) (extn (Blk.sub hB2 rfl))) ?_
        refine q_lookg rfl rfl rfl (fun hq => look_neq_flat Try.underlying35 stood35 guard35 rfl hq rfl hq (eqC _ _)) ?_
        refine q_look (look_or rfl rfl rfl rfl) ?_
        refine q_look (look_move rfl rfl) ?_
        refine q_lookg rfl rfl rfl (fun hq => look_move rfl rfl) ?_
        refine q_lookg rfl rfl rfl (fun hq => look_move rfl rfl) ?_
        refine q_lookg rfl rfl rfl (fun hq => look_len_slice Try.underlying22 rfl hq) ?_
        refine q_lookg rfl rfl rfl (fun hq => look_sub rfl hq rfl rfl (by have := maxLen_is; simp only [List.length_cons] at hla ⊢; unfold I64; omega)) ?_
        refine q_lookg rfl rfl rfl (fun hq => look_indexAddr l1.length Try.underlying22 szTry_35 rfl hq rfl hq (by simp only [List.length_cons]; omega) (by simp)) ?_
        refine q_lookg rfl rfl rfl (fun hq => look_loadN Try.underlying35 rfl szTry_35 rfl rfl hq (cs := ccell (lastC y0 l1)) (extn (hr2 l1.length (lastC y0 l1) (lastC_get y0 l1)))) ?_
        refine q_lookg rfl rfl rfl (fun hq => look_fieldAddr Try.underlying37 rfl (fun _ _ => rfl) rfl rfl) ?_
        refine q_lookg rfl rfl rfl (fun hq => look_loadN Try.underlying35 rfl szTry_35 rfl rfl hq (cs := ccell t.by_) (extn (Blk.sub hB2 rfl))) ?_
        refine q_lookg rfl rfl rfl (fun hq => look_neq_flat Try.underlying35 stood35 guard35 rfl hq rfl hq (eqC _ _)) ?_
        refine q_look (look_or rfl rfl rfl rfl) ?_
        refine q_look (look_move rfl rfl) ?_
        refine q_lookg rfl rfl rfl (fun hq => look_loadN Try.underlying24 rfl szTry_24 rfl rfl rfl (ext_cell_n hB1)) ?_
        refine q_lookg rfl rfl rfl (fun hq => look_move rfl rfl) ?_
        refine q_callg (vs := [_, _]) rfl rfl rfl enTry_13 (fun hq => ⟨⟨_, rfl, hq⟩, ⟨_, rfl, hq⟩, trivial⟩) (fun hq wc hw => cext hw (check_any g (y0 :: l1) (some ⟨b2, o2, none⟩) c wc (hG.ext (hX.comp hw)) (hA.ext (hX.comp hw)) hla)) ?_
        refine q_lookg rfl rfl rfl (fun hq => look_neq rfl hq rfl rfl) ?_
        refine q_look (look_or rfl rfl rfl rfl) ?_
        refine q_nil ?_
        intro w6 hw6
        replace hX := hX.comp hw6
        replace hB1 := hB1.ext hw6
        replace hB2 := hB2.ext hw6
        replace hP := hP.ext hw6
        replace hS := hS.ext hw6
        refine then_normal ?_
        refine cond_split rfl (fun hc115 => ?_) (fun hc115 => ?_)
        · skip
          refine wp_seq ?_
          refine region_q ?_
          refine q_call (vs := []) enTry_10 trivial (fun wc hw => cext hw (awake_any wc)) ?_
          refine q_look (look_assign rfl rfl) ?_
          refine q_nil ?_
          intro w7 hw7
          replace hX := hX.comp hw7
          replace hB1 := hB1.ext hw7
          replace hB2 := hB2.ext hw7
          replace hP := hP.ext hw7
          replace hS := hS.ext hw7
          refine then_normal ?_
          refine wp_ret ?_
          refine then_ret ?_
          exact res1 Try.results6 rfl ⟨ret_bool (by first | rfl | (rw [hfin]; rfl)), hX⟩
        · obtain ⟨hbd2, e0, hob, hok⟩ := oth_f hc115
          subst e0
          obtain ⟨_, hfa2, hwl, _⟩ := check_ok.1 hok
          have hcl := cost_wc hs hbd hfa2.1 hwl
          have hle := (hGd.lst hbd.1).2.2.2 l1 hwl hob
          rw [← hco, ← hcl] at hle
          refine wp_skip ?_
          refine then_normal ?_
          refine wp_seq ?_
          refine region_q ?_
          refine q_look (look_move rfl rfl) ?_
          refine q_look (look_fieldAddr Try.underlying37 rfl (fun _ _ => rfl) rfl rfl) ?_
          refine q_look (look_load1 Try.underlying3 rfl rfl rfl (ext_cell (hB2.cell rfl))) ?_
          refine q_call (vs := [_, _]) enTry_15 ⟨⟨_, rfl, rfl⟩, ⟨_, rfl, rfl⟩, trivial⟩ (fun wc hw => cext hw (cost_any (t.at_ :: l1) (some ⟨b2, o2, none⟩) c t.left wc (hA.ext (hX.comp hw)) hla (by simp only [List.length_cons] at hl2 ⊢; omega))) ?_
          refine q_look (look_assign rfl rfl) ?_
          refine q_nil ?_
          intro w8 hw8
          replace hX := hX.comp hw8
          replace hB1 := hB1.ext hw8
          replace hB2 := hB2.ext hw8
          replace hP := hP.ext hw8
          replace hS := hS.ext hw8
          refine then_normal ?_
          refine wp_seq ?_
          refine wp_seq ?_
          refine region_s ?_
          refine q_look (look_move rfl rfl) ?_
          refine q_look (look_neq rfl rfl rfl rfl) ?_
          refine q_look (look_move rfl rfl) ?_
          refine q_lookg rfl rfl rfl (fun hq => look_move rfl rfl) ?_
          refine q_lookg rfl rfl rfl (fun hq => look_move rfl rfl) ?_
          refine q_lookg rfl rfl rfl (fun hq => look_lss rfl hq rfl hq) ?_
          refine q_look (look_or rfl rfl rfl rfl) ?_
          refine q_nil ?_
          rintro _ rfl
          refine then_normal ?_
          refine cond_false rfl (by rw [decide_eq_false (Int.not_lt.2 hle)]; rfl) ?_
          refine wp_skip ?_
          refine then_normal ?_
          refine wp_seq ?_
          refine wp_seq ?_
          refine region_s ?_
          refine q_look (look_assign rfl rfl) ?_
          refine q_nil ?_
          rintro _ rfl
          refine then_normal ?_
          refine wp_block ?_
          refine loop_act (fun (i : Nat) => [(2, .slice (some ⟨b2, o2, none⟩) (t.at_ :: l1).length c), (7, .slice (some ⟨b1, o1, none⟩) (t.at_ :: r).length chP), (8, .int .i64 cohP), (10, .int .i64 (costP t.left (t.at_ :: l1))), (11, .int .i64 (i : Int))]) (fun i w' => (Ext w w') ∧ (Sl ccell 3 w' (some ⟨b1, o1, none⟩) (t.at_ :: r)) ∧ (i ≤ (t.at_ :: r).length) ∧ ((t.at_ :: r).take i = (t.at_ :: l1).take i)) (fun i => (t.at_ :: r).length - i) (0) ?_ ?_ ?_
          · exact ⟨rfl, rfl, rfl, rfl, rfl, trivial⟩
          · exact ⟨hX, hS, Nat.zero_le _, rfl⟩
          · rintro i σ wr hF
            obtain ⟨hX, hS, hk, hs2⟩ : (Ext w wr) ∧ (Sl ccell 3 wr (some ⟨b1, o1, none⟩) (t.at_ :: r)) ∧ (i ≤ (t.at_ :: r).length) ∧ ((t.at_ :: r).take i = (t.at_ :: l1).take i) := hF
            show Code.wp _ _ _ (act 174 [(2, true, .slice (some ⟨b2, o2, none⟩) (t.at_ :: l1).length c), (7, true, .slice (some ⟨b1, o1, none⟩) (t.at_ :: r).length chP), (8, true, .int .i64 cohP), (10, true, .int .i64 (costP t.left (t.at_ :: l1))), (11, true, .int .i64 (i : Int))] _) _
            refine wp_seq ?_
            refine wp_seq ?_
            refine region_s ?_
            refine q_look (look_move rfl rfl) ?_
            refine q_look (look_move rfl rfl) ?_
            refine q_look (look_len_slice Try.underlying22 rfl rfl) ?_
            refine q_look (look_lss rfl rfl rfl rfl) ?_
            refine q_look (look_move rfl rfl) ?_
            refine q_lookg rfl rfl rfl (fun hq => look_move rfl rfl) ?_
            refine q_lookg rfl rfl rfl (fun hq => look_move rfl rfl) ?_
            refine q_lookg rfl rfl rfl (fun hq => look_len_slice Try.underlying22 rfl hq) ?_
            refine q_lookg rfl rfl rfl (fun hq => look_lss rfl hq rfl hq) ?_
            refine q_look (look_and rfl rfl rfl rfl) ?_
            refine q_nil ?_
            rintro _ rfl
            refine then_normal ?_
            refine cond_split rfl (fun hc137 => ?_) (fun hc137 => ?_)
            · have h1 := nn_t (Bool.and_eq_true_iff.1 hc137).1
              have h2 := nn_t (Bool.and_eq_true_iff.1 hc137).2
              obtain ⟨x, hx⟩ := get_lt (show i < (t.at_ :: r).length by omega)
              obtain ⟨y, hy⟩ := get_lt (show i < (t.at_ :: l1).length by omega)
              refine wp_skip ?_
              refine then_normal ?_
              refine wp_seq ?_
              refine wp_block ?_
              refine wp_seq ?_
              refine region_qd mixed (by kernel_rfl) ?_
              refine q_look (look_move rfl rfl) ?_
              refine q_look (look_move rfl rfl) ?_
              refine q_look (look_indexAddr _ Try.underlying22 szTry_35 rfl rfl rfl rfl rfl (by omega)) ?_
              refine q_look (look_loadN Try.underlying35 rfl szTry_35 rfl rfl rfl (cs := ccell x) (extn (hS.rd i x hx))) ?_
              refine q_look (look_move rfl rfl) ?_
              refine q_look (look_move rfl rfl) ?_
              refine q_look (look_indexAddr _ Try.underlying22 szTry_35 rfl rfl rfl rfl rfl (by omega)) ?_
              refine q_look (look_loadN Try.underlying35 rfl szTry_35 rfl rfl rfl (cs := ccell y) (extn ((hA.ext hX).rd i y hy))) ?_
              refine q_look (look_neq_flat Try.underlying35 stood35 guard35 rfl rfl rfl rfl (eqC _ _)) ?_
              refine q_nil ?_
              intro w9 hw9
              replace hX := hX.comp hw9
              replace hS := hS.ext hw9
              refine then_normal ?_
              refine cond_split rfl (fun hc148 => ?_) (fun hc148 => ?_)
              · have hxy : ¬ (x = y) := nd_t hc148
                have hfin := fin_lt hbd.1 hGd hwl hob hs2 hx hy hxy (by rw [← hco, ← hcl]; exact hle)
                rw [← hco, ← hcl] at hfin
                refine wp_seq ?_
                refine region_qd mixed (by kernel_rfl) ?_
                refine q_look (look_move rfl rfl) ?_
                refine q_look (look_move rfl rfl) ?_
                refine q_look (look_gtr rfl rfl rfl rfl) ?_
                refine q_look (look_move rfl rfl) ?_
                refine q_lookg rfl rfl rfl (fun hq => look_move rfl rfl) ?_
                refine q_lookg rfl rfl rfl (fun hq => look_move rfl rfl) ?_
                refine q_lookg rfl rfl rfl (fun hq => look_indexAddr _ Try.underlying22 szTry_35 rfl hq rfl hq rfl (by omega)) ?_
                refine q_lookg rfl rfl rfl (fun hq => look_loadN Try.underlying35 rfl szTry_35 rfl rfl hq (cs := ccell x) (extn (hS.rd i x hx))) ?_
                refine q_lookg rfl rfl rfl (fun hq => look_move rfl rfl) ?_
                refine q_lookg rfl rfl rfl (fun hq => look_move rfl rfl) ?_
                refine q_lookg rfl rfl rfl (fun hq => look_indexAddr _ Try.underlying22 szTry_35 rfl hq rfl hq rfl (by omega)) ?_
                refine q_lookg rfl rfl rfl (fun hq => look_loadN Try.underlying35 rfl szTry_35 rfl rfl hq (cs := ccell y) (extn ((hA.ext hX).rd i y hy))) ?_
                refine q_callg (vs := [_, _]) rfl rfl rfl enTry_23 (fun hq => ⟨⟨_, rfl, hq⟩, ⟨_, rfl, hq⟩, trivial⟩) (fun hq wc hw => cext hw (before_any x y wc)) ?_
                refine q_look (look_or rfl rfl rfl rfl) ?_
                refine q_look (look_move rfl rfl) ?_
                refine q_callg (vs := []) rfl rfl rfl enTry_10 (fun hq => trivial) (fun hq wc hw => cext hw (awake_any wc)) ?_
                refine q_look (look_and rfl rfl rfl rfl) ?_
                refine q_look (look_assign rfl rfl) ?_
                refine q_nil ?_
                intro w10 hw10
                replace hX := hX.comp hw10
                replace hS := hS.ext hw10
                refine then_normal ?_
                refine wp_ret ?_
                refine inB_ret ?_
                refine then_ret ?_
                refine then_ret ?_
                refine inB_ret ?_
                refine then_ret ?_
                exact res1 Try.results6 rfl ⟨ret_bool (by first | rfl | (rw [hfin]; rfl)), hX⟩
              · have hxy : x = y := nd_f hc148
                refine wp_skip ?_
                refine inB_normal ?_
                refine then_normal ?_
                refine region_s ?_
                refine q_look (look_move rfl rfl) ?_
                refine q_look (look_add rfl rfl rfl rfl (by have := maxLen_is; unfold I64; omega)) ?_
                refine q_look (look_assign rfl rfl) ?_
                refine q_nil ?_
                rintro _ rfl
                exact loop_end (i + 1) (by omega) ⟨rfl, rfl, rfl, rfl, rfl, trivial⟩ ⟨hX, hS, by omega, by rw [take_get hx, take_get hy, hs2, hxy]⟩
            · have hfin := fin_len hGd hob hs2 hc137
              refine wp_exit ?_
              refine then_exit ?_
              refine then_exit ?_
              refine inB_exit_same ?_
              refine then_normal ?_
              refine wp_seq ?_
              refine region_q ?_
              refine q_look (look_move rfl rfl) ?_
              refine q_look (look_len_slice Try.underlying22 rfl rfl) ?_
              refine q_look (look_move rfl rfl) ?_
              refine q_look (look_len_slice Try.underlying22 rfl rfl) ?_
              refine q_look (look_leq rfl rfl rfl rfl) ?_
              refine q_look (look_move rfl rfl) ?_
              refine q_callg (vs := []) rfl rfl rfl enTry_10 (fun hq => trivial) (fun hq wc hw => cext hw (awake_any wc)) ?_
              refine q_look (look_and rfl rfl rfl rfl) ?_
              refine q_look (look_assign rfl rfl) ?_
              refine q_nil ?_
              intro w11 hw11
              replace hX := hX.comp hw11
              replace hS := hS.ext hw11
              refine then_normal ?_
              refine wp_ret ?_
              exact res1 Try.results6 rfl ⟨ret_bool (by first | rfl | (rw [hfin]; rfl)), hX⟩
    · refine region_qd mixed (by kernel_rfl) ?_
      refine q_look (look_move rfl rfl) ?_
      refine q_look (Look.as (look_eql rfl rfl rfl rfl) (v' := .bool false) (by rw [decide_eq_false he])) ?_
      refine q_look (look_move rfl rfl) ?_
      refine q_dead (v := .bool false) rfl rfl rfl rfl ?_
      refine q_dead (v := .bool false) rfl rfl rfl rfl ?_
      refine q_dead (v := .bool false) rfl rfl rfl rfl ?_
      refine q_dead (v := .bool false) rfl rfl rfl rfl ?_
      refine q_dead (v := .bool false) rfl rfl rfl rfl ?_
      refine q_dead (v := .bool false) rfl rfl rfl rfl ?_
      refine q_dead (v := .bool false) rfl rfl rfl rfl ?_
      refine q_dead (v := .bool false) rfl rfl rfl rfl ?_
      refine q_dead (v := .bool false) rfl rfl rfl rfl ?_
      refine q_dead (v := .bool false) rfl rfl rfl rfl ?_
      refine q_dead (v := .bool false) rfl rfl rfl rfl ?_
      refine q_dead (v := .bool false) rfl rfl rfl rfl ?_
      refine q_dead (v := .bool false) rfl rfl rfl rfl ?_
      refine q_dead (v := .bool false) rfl rfl rfl rfl ?_
      refine q_dead (v := .bool false) rfl rfl rfl rfl ?_
      refine q_dead (v := .bool false) rfl rfl rfl rfl ?_
      refine q_dead (v := .bool false) rfl rfl rfl rfl ?_
      refine q_dead (v := .bool false) rfl rfl rfl rfl ?_
      refine q_dead (v := .bool false) rfl rfl rfl rfl ?_
      refine q_dead (v := .bool false) rfl rfl rfl rfl ?_
      refine q_dead (v := .bool false) rfl rfl rfl rfl ?_
      refine q_dead (v := .bool false) rfl rfl rfl rfl ?_
      refine q_dead (v := .bool false) rfl rfl rfl rfl ?_
      refine q_dead (v := .bool false) rfl rfl rfl rfl ?_
      refine q_dead (v := .bool false) rfl rfl rfl rfl ?_
      refine q_dead (v := .bool false) rfl rfl rfl rfl ?_
      refine q_dead (v := .bool false) rfl rfl rfl rfl ?_
      refine q_dead (v := .bool false) rfl rfl rfl rfl ?_
      refine q_dead (v := .bool false) rfl rfl rfl rfl ?_
      refine q_dead (v := .bool false) rfl rfl rfl rfl ?_
      refine q_dead (v := .bool false) rfl rfl rfl rfl ?_
      refine q_dead (v := .bool false) rfl rfl rfl rfl ?_
      refine q_dead (v := .bool false) rfl rfl rfl rfl ?_
      refine q_dead (v := .bool false) rfl rfl rfl rfl ?_
      refine q_dead (v := .bool false) rfl rfl rfl rfl ?_
      refine q_dead (v := .bool false) rfl rfl rfl rfl ?_
      refine q_look (look_and rfl rfl rfl rfl) ?_
      refine q_nil ?_
      intro w12 hw12
      replace hX := hX.comp hw12
      replace hB1 := hB1.ext hw12
      replace hB2 := hB2.ext hw12
      replace hP := hP.ext hw12
      refine then_normal ?_
      refine cond_false rfl rfl ?_
      refine wp_skip ?_
      refine then_normal ?_
      refine wp_seq ?_
      refine wp_seq ?_
      rcases l with _ | ⟨y0, l1⟩
      · refine region_qd mixed (by kernel_rfl) ?_
        refine q_look (look_fieldAddr Try.underlying37 rfl (fun _ _ => rfl) rfl rfl) ?_
        refine q_look (look_load1 Try.underlying3 rfl rfl rfl (ext_cell (hB2.cell rfl))) ?_
        refine q_look (look_lss rfl rfl rfl rfl) ?_
        refine q_look (look_move rfl rfl) ?_
        refine q_lookg rfl rfl rfl (fun hq => look_fieldAddr Try.underlying37 rfl (fun _ _ => rfl) rfl rfl) ?_
        refine q_lookg rfl rfl rfl (fun hq => look_load1 Try.underlying3 rfl rfl hq (ext_cell (hB2.cell rfl))) ?_
        refine q_lookg rfl rfl rfl (fun hq => look_gtr rfl hq rfl rfl) ?_
        refine q_look (look_or rfl rfl rfl rfl) ?_
        refine q_look (look_move rfl rfl) ?_
        refine q_lookg rfl rfl rfl (fun hq => look_move rfl rfl) ?_
        refine q_lookg rfl rfl rfl (fun hq => look_len_slice Try.underlying22 rfl hq) ?_
        refine q_lookg rfl rfl rfl (fun hq => look_eql rfl hq rfl rfl) ?_
        refine q_look (Look.as (look_or rfl rfl rfl rfl) (v' := .bool true) (by simp)) ?_
        refine q_look (look_move rfl rfl) ?_
        refine q_dead (v := .bool false) rfl rfl rfl rfl ?_
        refine q_dead (v := .bool false) rfl rfl rfl rfl ?_
        refine q_dead (v := .bool false) rfl rfl rfl rfl ?_
        refine q_dead (v := .bool false) rfl rfl rfl rfl ?_
        refine q_dead (v := .bool false) rfl rfl rfl rfl ?_
        refine q_dead (v := .bool false) rfl rfl rfl rfl ?_
        refine q_look (look_or rfl rfl rfl rfl) ?_
        refine q_look (look_move rfl rfl) ?_
        refine q_dead (v := .bool false) rfl rfl rfl rfl ?_
        refine q_dead (v := .bool false) rfl rfl rfl rfl ?_
        refine q_dead (v := .bool false) rfl rfl rfl rfl ?_
        refine q_dead (v := .bool false) rfl rfl rfl rfl ?_
        refine q_dead (v := .bool false) rfl rfl rfl rfl ?_
        refine q_dead (v := .bool false) rfl rfl rfl rfl ?_
        refine q_dead (v := .bool false) rfl rfl rfl rfl ?_
        refine q_dead (v := .bool false) rfl rfl rfl rfl ?_
        refine q_dead (v := .bool false) rfl rfl rfl rfl ?_
        refine q_look (look_or rfl rfl rfl rfl) ?_
        refine q_look (look_move rfl rfl) ?_
        refine q_dead (v := .bool false) rfl rfl rfl rfl ?_
        refine q_dead (v := .bool false) rfl rfl rfl rfl ?_
        refine q_dead (v := .bool false) rfl rfl rfl rfl ?_
        refine q_dead (v := .bool false) rfl rfl rfl rfl ?_
        refine q_look (look_or rfl rfl rfl rfl) ?_
        refine q_nil ?_
        intro w13 hw13
        replace hX := hX.comp hw13
        replace hB1 := hB1.ext hw13
        replace hB2 := hB2.ext hw13
        replace hP := hP.ext hw13
        refine then_normal ?_
        refine cond_true rfl rfl ?_
        refine wp_seq ?_
        refine region_q ?_
        refine q_call (vs := []) enTry_10 trivial (fun wc hw => cext hw (awake_any wc)) ?_
        refine q_look (look_assign rfl rfl) ?_
        refine q_nil ?_
        intro w14 hw14
        replace hX := hX.comp hw14
        replace hB1 := hB1.ext hw14
        replace hB2 := hB2.ext hw14
        replace hP := hP.ext hw14
        refine then_normal ?_
        refine wp_ret ?_
        refine then_ret ?_
        exact res1 Try.results6 rfl ⟨ret_bool (by first | rfl | (rw [hfin]; rfl)), hX⟩
      · obtain ⟨b2, o2, rfl, hr2⟩ := (hA.ext hX).at_ (show 0 < (y0 :: l1).length by simp)
        refine region_qd mixed (by kernel_rfl) ?_
        refine q_look (look_fieldAddr Try.underlying37 rfl (fun _ _ => rfl) rfl rfl) ?_
        refine q_look (look_load1 Try.underlying3 rfl rfl rfl (ext_cell (hB2.cell rfl))) ?_
        refine q_look (look_lss rfl rfl rfl rfl) ?_
        refine q_look (look_move rfl rfl) ?_
        refine q_lookg rfl rfl rfl (fun hq => look_fieldAddr Try.underlying37 rfl (fun _ _ => rfl) rfl rfl) ?_
        refine q_lookg rfl rfl rfl (fun hq => look_load1 Try.underlying3 rfl rfl hq (ext_cell (hB2.cell rfl))) ?_
        refine q_lookg rfl rfl rfl (fun hq => look_gtr rfl hq rfl rfl) ?_
        refine q_look (look_or rfl rfl rfl rfl) ?_
        refine q_look (look_move rfl rfl) ?_
        refine q_lookg rfl rfl rfl (fun hq => look_move rfl rfl) ?_
        refine q_lookg rfl rfl rfl (fun hq => look_len_slice Try.underlying22 rfl hq) ?_
        refine q_lookg rfl rfl rfl (fun hq => look_eql rfl hq rfl rfl) ?_
        refine q_look (look_or rfl rfl rfl rfl) ?_
        refine q_look (look_move rfl rfl) ?_
        refine q_lookg rfl rfl rfl (fun hq => look_move rfl rfl) ?_
        refine q_lookg rfl rfl rfl (fun hq => look_indexAddr 0 Try.underlying22 szTry_35 rfl hq rfl rfl rfl (by simp)) ?_
        refine q_lookg rfl rfl rfl (fun hq => look_loadN Try.underlying35 rfl szTry_35 rfl rfl hq (cs := ccell y0) (extn (hr2 0 y0 rfl))) ?_
        refine q_lookg rfl rfl rfl (fun hq => look_fieldAddr Try.underlying37 rfl (fun _ _ => rfl) rfl rfl) ?_
        refine q_lookg rfl rfl rfl (fun hq => look_loadN Try.underlying35 rfl szTry_35 rfl rfl hq (cs := ccell t.at_) (extn (Blk.sub hB2 rfl))) ?_
        refine q_lookg rfl rfl rfl (fun hq => look_neq_flat Try.underlying35 stood35 guard35 rfl hq rfl hq (eqC _ _)) ?_
        refine q_look (look_or rfl rfl rfl rfl) ?_
        refine q_look (look_move rfl rfl) ?_
        refine q_lookg rfl rfl rfl (fun hq => look_move rfl rfl) ?_
        refine q_lookg rfl rfl rfl (fun hq => look_move rfl rfl) ?_
        refine q_lookg rfl rfl rfl (fun hq => look_len_slice Try.underlying22 rfl hq) ?_
        refine q_lookg rfl rfl rfl (fun hq => look_sub rfl hq rfl rfl (by have := maxLen_is; simp only [List.length_cons] at hla ⊢; unfold I64; omega)) ?_
        refine q_lookg rfl rfl rfl (fun hq => look_indexAddr l1.length Try.underlying22 szTry_35 rfl hq rfl hq (by simp only [List.length_cons]; omega) (by simp)) ?_
        refine q_lookg rfl rfl rfl (fun hq => look_loadN Try.underlying35 rfl szTry_35 rfl rfl hq (cs := ccell (lastC y0 l1)) (extn (hr2 l1.length (lastC y0 l1) (lastC_get y0 l1)))) ?_
        refine q_lookg rfl rfl rfl (fun hq => look_fieldAddr Try.underlying37 rfl (fun _ _ => rfl) rfl rfl) ?_
        refine q_lookg rfl rfl rfl (fun hq => look_loadN Try.underlying35 rfl szTry_35 rfl rfl hq (cs := ccell t.by_) (extn (Blk.sub hB2 rfl))) ?_
        refine q_lookg rfl rfl rfl (fun hq => look_neq_flat Try.underlying35 stood35 guard35 rfl hq rfl hq (eqC _ _)) ?_
        refine q_look (look_or rfl rfl rfl rfl) ?_
        refine q_look (look_move rfl rfl) ?_
        refine q_lookg rfl rfl rfl (fun hq => look_loadN Try.underlying24 rfl szTry_24 rfl rfl rfl (ext_cell_n hB1)) ?_
        refine q_lookg rfl rfl rfl (fun hq => look_move rfl rfl) ?_
        refine q_callg (vs := [_, _]) rfl rfl rfl enTry_13 (fun hq => ⟨⟨_, rfl, hq⟩, ⟨_, rfl, hq⟩, trivial⟩) (fun hq wc hw => cext hw (check_any g (y0 :: l1) (some ⟨b2, o2, none⟩) c wc (hG.ext (hX.comp hw)) (hA.ext (hX.comp hw)) hla)) ?_
        refine q_lookg rfl rfl rfl (fun hq => look_neq rfl hq rfl rfl) ?_
        refine q_look (look_or rfl rfl rfl rfl) ?_
        refine q_nil ?_
        intro w15 hw15
        replace hX := hX.comp hw15
        replace hB1 := hB1.ext hw15
        replace hB2 := hB2.ext hw15
        replace hP := hP.ext hw15
        refine then_normal ?_
        refine cond_split rfl (fun hc115 => ?_) (fun hc115 => ?_)
        · skip
          refine wp_seq ?_
          refine region_q ?_
          refine q_call (vs := []) enTry_10 trivial (fun wc hw => cext hw (awake_any wc)) ?_
          refine q_look (look_assign rfl rfl) ?_
          refine q_nil ?_
          intro w16 hw16
          replace hX := hX.comp hw16
          replace hB1 := hB1.ext hw16
          replace hB2 := hB2.ext hw16
          replace hP := hP.ext hw16
          refine then_normal ?_
          refine wp_ret ?_
          refine then_ret ?_
          exact res1 Try.results6 rfl ⟨ret_bool (by first | rfl | (rw [hfin]; rfl)), hX⟩
        · obtain ⟨hbd2, e0, hob, hok⟩ := oth_f hc115
          obtain ⟨_, hfa2, hwl, _⟩ := check_ok.1 hok
          rw [e0] at hfa2 hwl hob
          exact (hno ⟨h0, hfa2, hob ▸ wk_last hfa2 hwl, hbd2, l1, hwl, hob⟩).elim

end Go.Proofs.Ytbmchijgejgboaa
