/- The walks of chapter 44 (route), second part: neighbours, searching, CheckGrid. -/
import Derived.Test.YthddekipelbooaaA
namespace Go.Proofs.Ythddekipelbooaa
open Go Go.RowKit Core
set_option linter.unusedVariables false
set_option linter.unusedSimpArgs false
attribute [local irreducible] wpQuiet wpList wpH wpT Code.wp Calls bodyPost act


def nearB (a b : Cl) : Bool := decide (subW b a ∈ ways)
theorem cmpI_pos {a b : Int} : 0 < cmpI a b ↔ b < a := by unfold cmpI; split <;> (try split) <;> omega
theorem cmpI_zero {a b : Int} : cmpI a b = 0 ↔ a = b := by unfold cmpI; split <;> (try split) <;> omega
def Lt (a b : Cl) : Prop := a.x < b.x ∨ a.x = b.x ∧ (a.y < b.y ∨ a.y = b.y ∧ a.z < b.z)
theorem befB_iff {a b : Cl} : befB a b = true ↔ Lt a b := by unfold befB Lt; simp
theorem cmpC_neg {a b : Cl} : cmpC a b < 0 ↔ Lt a b := by
  have h1 := @cmpI_neg a.x b.x; have h2 := @cmpI_zero a.x b.x
  have h3 := @cmpI_neg a.y b.y; have h4 := @cmpI_zero a.y b.y
  have h5 := @cmpI_neg a.z b.z
  unfold cmpC or3 Lt
  split
  · omega
  · split <;> omega
theorem cmpC_zero {a b : Cl} : cmpC a b = 0 ↔ a = b := by
  have h2 := @cmpI_zero a.x b.x
  have h4 := @cmpI_zero a.y b.y
  have h5 := @cmpI_zero a.z b.z
  have e : a = b ↔ a.x = b.x ∧ a.y = b.y ∧ a.z = b.z := by cases a; cases b; simp
  rw [e]
  unfold cmpC or3
  split
  · omega
  · split <;> omega
theorem befB_eq (a b : Cl) : befB a b = decide (cmpC a b < 0) := by rw [Bool.eq_iff_iff, befB_iff, decide_eq_true_eq, cmpC_neg]
theorem Lt.trans {a b c : Cl} (h : Lt a b) (k : Lt b c) : Lt a c := by unfold Lt at *; omega
theorem Lt.irr {a : Cl} : ¬ Lt a a := by unfold Lt; omega
theorem Lt.tri (a b : Cl) : Lt a b ∨ a = b ∨ Lt b a := by
  have e : a = b ↔ a.x = b.x ∧ a.y = b.y ∧ a.z = b.z := by cases a; cases b; simp
  rw [e]; unfold Lt; omega
/-- Strictly ascending. -/
def Asc (l : List Cl) : Prop := ∀ (i j : Nat) (a b : Cl), i < j → l[i]? = some a → l[j]? = some b → Lt a b
def bsK (l : List Cl) (t : Cl) : Nat := (l.takeWhile fun x => decide (cmpC x t < 0)).length
theorem tw_len {α : Type} (f : α → Bool) : ∀ (l : List α) (i : Nat), i ≤ l.length → (∀ k x, k < i → l[k]? = some x → f x = true) → (∀ x, l[i]? = some x → f x = false) → (l.takeWhile f).length = i
  | [], i, hi, _, _ => by simp at hi; subst hi; rfl
  | y :: r, 0, _, _, h2 => by rw [List.takeWhile_cons, h2 y rfl]; rfl
  | y :: r, i + 1, hi, h1, h2 => by
    rw [List.takeWhile_cons, h1 0 y (by omega) rfl]
    simp only [if_true, List.length_cons]
    rw [tw_len f r i (by simp at hi; omega) (fun k x hk hx => h1 (k + 1) x (by omega) hx) (fun x hx => h2 x hx)]
theorem asc_mem {l : List Cl} {t x : Cl} {i : Nat} (hlo : ∀ k y, k < i → l[k]? = some y → cmpC y t < 0) (hx : l[i]? = some x) (hs : Asc l) (hhi : ¬ cmpC x t < 0) : decide (t ∈ l) = decide (cmpC x t = 0) := by
  rw [Bool.eq_iff_iff, decide_eq_true_eq, decide_eq_true_eq, cmpC_zero]
  constructor
  · intro h
    obtain ⟨j, hj⟩ := List.getElem?_of_mem h
    rcases Nat.lt_trichotomy j i with e | e | e
    · have := hlo j t e hj
      rw [cmpC_neg] at this
      exact (Lt.irr this).elim
    · subst e; rw [hx] at hj; exact Option.some.inj hj
    · exact (hhi (cmpC_neg.2 (hs i j x t e hx hj))).elim
  · intro e; subst e; exact List.mem_of_getElem? hx
theorem asc_none {l : List Cl} {t : Cl} (hlo : ∀ k y, k < l.length → l[k]? = some y → cmpC y t < 0) : decide (t ∈ l) = false := by
  rw [decide_eq_false_iff_not]
  intro h
  obtain ⟨j, hj⟩ := List.getElem?_of_mem h
  have := hlo j t (List.getElem?_eq_some_iff.1 hj).1 hj
  rw [cmpC_neg] at this
  exact Lt.irr this
theorem nt_f {a : Bool} (h : (!a) = false) : a = true := by cases a <;> simp_all
theorem or_f {a b : Bool} (h : (a || b) = false) : a = false ∧ b = false := by cases a <;> cases b <;> simp_all
theorem wrap_ui (x : Int) (h0 : 0 ≤ x) (h1 : x < 18446744073709551616) : IntKind.u64.wrap (IntKind.i64.wrap x) = x := by
  rw [wrap_u64]
  simp only [IntKind.wrap, IntKind.signed, IntKind.bits, IntKind.min, IntKind.max]
  omega
theorem shr1 (a : Nat) : ((a : Int)).fdiv (2 ^ (min (1 : Int).toNat IntKind.u64.bits)) = ((a / 2 : Nat) : Int) := by
  rw [Int.fdiv_eq_ediv_of_nonneg _ (by decide)]
  show (a : Int) / 2 = _
  omega
theorem Asc.lo {l : List Cl} {t x : Cl} {m : Nat} (hs : Asc l) (hx : l[m]? = some x) (hc : cmpC x t < 0) : ∀ k y, k < m + 1 → l[k]? = some y → cmpC y t < 0 := by
  intro k y hk hy
  rcases Nat.lt_or_ge k m with e | e
  · exact cmpC_neg.2 ((hs k m y x e hy hx).trans (cmpC_neg.1 hc))
  · have : k = m := by omega
    subst this; rw [hx] at hy; cases hy; exact hc
theorem Asc.hi {l : List Cl} {t x : Cl} {m : Nat} (hs : Asc l) (hx : l[m]? = some x) (hc : ¬ cmpC x t < 0) : ∀ k y, m ≤ k → l[k]? = some y → ¬ cmpC y t < 0 := by
  intro k y hk hy h
  rcases Nat.lt_or_ge m k with e | e
  · exact hc (cmpC_neg.2 ((hs m k x y e hx hy).trans (cmpC_neg.1 h)))
  · have : k = m := by omega
    subst this; rw [hx] at hy; cases hy; exact hc h

theorem index_any (l : List Cl) (A : Option Addr) (c : Nat) (x0 : Cl) (w : World) (hA : Sl ccell 3 w A l) (hla : l.length ≤ maxLen) :
    Calls Try.prog 50 #[.slice A l.length c, .agg (ccell x0).toArray] w fun e w' => e = .returned (.int .i64 (fiG (fun y => decide (x0 = y)) l 0)) ∧ Ext w w' := by
  refine calls_act Try.func50 rfl Try.ntmps50 rfl rfl ?_
  show Code.wp _ _ _ (act 19 [(0, true, .slice A l.length c), (1, true, .agg (ccell x0).toArray)] _) _
  have hX : Ext w w := Ext.rfl' w
  refine wp_seq ?_
  refine wp_region_lit ?_
  refine s_box rfl ?_
  intro g1 u1 hu1 hB1 hg1 hs1
  replace hB1 : Blk u1 g1 26 (ccell x0) := hB1
  have ge_g1 : w.heap.size ≤ g1 := by have := hX.size; omega
  replace hX := hX.comp hu1
  refine s_look (look_assign rfl rfl) ?_
  refine s_nil ?_
  refine then_normal ?_
  refine wp_seq ?_
  refine wp_seq ?_
  refine region_s ?_
  refine q_look (look_move rfl rfl) ?_
  refine q_look (look_len_slice Try.underlying22 rfl rfl) ?_
  refine q_look (look_move rfl rfl) ?_
  refine q_nil ?_
  rintro _ rfl
  refine then_normal ?_
  refine wp_block ?_
  refine loop_act (fun (k : Nat) => [(0, .slice A l.length c), (3, .pointer (some ⟨g1, 0, none⟩)), (6, .slice A l.length c), (7, .int .i64 (l.length : Int)), (8, .int .i64 (k : Int))]) (fun k w' => (Ext w w') ∧ (Blk w' g1 26 (ccell x0)) ∧ (k ≤ l.length) ∧ (fiG (fun y => decide (x0 = y)) l 0 = fiG (fun y => decide (x0 = y)) (l.drop k) (k : Int))) (fun k => l.length - k) (0) ?_ ?_ ?_
  · exact ⟨rfl, rfl, rfl, rfl, rfl, trivial⟩
  · exact ⟨hX, hB1, Nat.zero_le _, rfl⟩
  · rintro k σ wr hF
    obtain ⟨hX, hB1, hk, hf⟩ : (Ext w wr) ∧ (Blk wr g1 26 (ccell x0)) ∧ (k ≤ l.length) ∧ (fiG (fun y => decide (x0 = y)) l 0 = fiG (fun y => decide (x0 = y)) (l.drop k) (k : Int)) := hF
    show Code.wp _ _ _ (act 19 [(0, true, .slice A l.length c), (3, true, .pointer (some ⟨g1, 0, none⟩)), (6, true, .slice A l.length c), (7, true, .int .i64 (l.length : Int)), (8, true, .int .i64 (k : Int))] _) _
    refine wp_seq ?_
    refine region_s ?_
    refine q_look (look_lss rfl rfl rfl rfl) ?_
    refine q_nil ?_
    rintro _ rfl
    refine then_normal ?_
    refine wp_seq ?_
    refine cond_split rfl (fun hc9 => ?_) (fun hc9 => ?_)
    · have hlt : k < l.length := by have := nn_t hc9; omega
      obtain ⟨x, hxx⟩ := get_lt hlt
      obtain ⟨b1, o1, rfl, _⟩ := (hA.ext hX).at_ hlt
      refine wp_skip ?_
      refine then_normal ?_
      refine wp_seq ?_
      refine wp_block ?_
      refine wp_seq ?_
      refine region_s ?_
      refine q_look (look_move rfl rfl) ?_
      refine q_look (look_assign rfl rfl) ?_
      refine q_nil ?_
      rintro _ rfl
      refine then_normal ?_
      refine wp_seq ?_
      refine region_qd mixed (by kernel_rfl) ?_
      refine q_look (look_loadN Try.underlying26 rfl szTry_26 rfl rfl rfl (ext_cell_n hB1)) ?_
      refine q_look (look_move rfl rfl) ?_
      refine q_look (look_move rfl rfl) ?_
      refine q_look (look_indexAddr _ Try.underlying22 szTry_26 rfl rfl rfl rfl rfl (by omega)) ?_
      refine q_look (look_loadN Try.underlying26 rfl szTry_26 rfl rfl rfl (cs := ccell x) (extn ((hA.ext hX).rd k x hxx))) ?_
      refine q_look (look_eql_flat Try.underlying26 stood35 guard35 rfl rfl rfl rfl (eqC _ _)) ?_
      refine q_nil ?_
      intro w1 hw1
      replace hX := hX.comp hw1
      replace hB1 := hB1.ext hw1
      refine then_normal ?_
      refine cond_split rfl (fun hc16 => ?_) (fun hc16 => ?_)
      · have hq0 : x0 = x := nn_t hc16
        refine wp_seq ?_
        refine region_s ?_
        refine q_look (look_move rfl rfl) ?_
        refine q_look (look_assign rfl rfl) ?_
        refine q_nil ?_
        rintro _ rfl
        refine then_normal ?_
        refine wp_ret ?_
        refine inB_ret ?_
        refine then_ret ?_
        refine then_ret ?_
        refine inB_ret ?_
        refine then_ret ?_
        exact res1 Try.results50 rfl ⟨ret_int (by rw [hf, drop_get hxx, fiG, if_pos (decide_eq_true hq0)]), hX⟩
      · have hq0 : ¬ (x0 = x) := nn_f hc16
        refine wp_skip ?_
        refine inB_normal ?_
        refine then_normal ?_
        refine region_s ?_
        refine q_look (look_add rfl rfl rfl rfl (by have := maxLen_is; unfold I64; omega)) ?_
        refine q_look (look_move rfl rfl) ?_
        refine q_nil ?_
        rintro _ rfl
        exact loop_end (k + 1) (by omega) ⟨rfl, rfl, rfl, rfl, rfl, trivial⟩ ⟨hX, hB1, by omega, by rw [hf, drop_get hxx, fiG, if_neg (by rw [decide_eq_false hq0]; decide)]; rfl⟩
    · have hge : ¬ k < l.length := by have := nn_f hc9; omega
      refine wp_exit ?_
      refine then_exit ?_
      refine then_exit ?_
      refine inB_exit_same ?_
      refine then_normal ?_
      refine wp_seq ?_
      refine region_s ?_
      refine q_look (look_assign rfl rfl) ?_
      refine q_nil ?_
      rintro _ rfl
      refine then_normal ?_
      refine wp_ret ?_
      exact res1 Try.results50 rfl ⟨ret_int (by rw [hf, List.drop_eq_nil_of_le (by omega)]; rfl), hX⟩

theorem contains_any (l : List Cl) (A : Option Addr) (c : Nat) (x0 : Cl) (w : World) (hA : Sl ccell 3 w A l) (hla : l.length ≤ maxLen) :
    Calls Try.prog 40 #[.slice A l.length c, .agg (ccell x0).toArray] w fun e w' => e = .returned (.bool (decide (x0 ∈ l))) ∧ Ext w w' := by
  refine calls_act Try.func40 rfl Try.ntmps40 rfl rfl ?_
  show Code.wp _ _ _ (act 9 [(0, true, .slice A l.length c), (1, true, .agg (ccell x0).toArray)] _) _
  have hX : Ext w w := Ext.rfl' w
  refine wp_seq ?_
  refine wp_region_lit ?_
  refine s_box rfl ?_
  intro g1 u1 hu1 hB1 hg1 hs1
  replace hB1 : Blk u1 g1 26 (ccell x0) := hB1
  have ge_g1 : w.heap.size ≤ g1 := by have := hX.size; omega
  replace hX := hX.comp hu1
  refine s_look (look_assign rfl rfl) ?_
  refine s_nil ?_
  refine then_normal ?_
  refine wp_seq ?_
  refine region_q ?_
  refine q_look (look_move rfl rfl) ?_
  refine q_look (look_loadN Try.underlying26 rfl szTry_26 rfl rfl rfl (ext_cell_n hB1)) ?_
  refine q_call (vs := [_, _]) enTry_50 ⟨⟨_, rfl, rfl⟩, ⟨_, rfl, rfl⟩, trivial⟩ (fun wc hw => cext hw (index_any l A c x0 wc (hA.ext (hX.comp hw)) hla)) ?_
  refine q_look (look_geq rfl rfl rfl rfl) ?_
  refine q_look (look_assign rfl rfl) ?_
  refine q_nil ?_
  intro w1 hw1
  replace hX := hX.comp hw1
  replace hB1 := hB1.ext hw1
  refine then_normal ?_
  refine wp_ret ?_
  exact res1 Try.results40 rfl ⟨ret_bool ((fiG_ge _ l 0 (by omega)).trans (any_mem x0 l)), hX⟩

theorem neigh_any (a b : Cl) (w : World)  :
    Calls Try.prog 26 #[.agg (ccell a).toArray, .agg (ccell b).toArray] w fun e w' => e = .returned (.bool (nearB a b)) ∧ Ext w w' := by
  refine calls_act Try.func26 rfl Try.ntmps26 rfl rfl ?_
  show Code.wp _ _ _ (act 12 [(0, true, .agg (ccell a).toArray), (1, true, .agg (ccell b).toArray)] _) _
  have hX : Ext w w := Ext.rfl' w
  refine wp_seq ?_
  refine wp_region_lit ?_
  refine s_box rfl ?_
  intro g1 u1 hu1 hB1 hg1 hs1
  replace hB1 : Blk u1 g1 26 (ccell a) := hB1
  have ge_g1 : w.heap.size ≤ g1 := by have := hX.size; omega
  replace hX := hX.comp hu1
  refine s_box rfl ?_
  intro g2 u2 hu2 hB2 hg2 hs2
  replace hB2 : Blk u2 g2 26 (ccell b) := hB2
  have lt_g1_g2 : g1 < g2 := by have := hB1.lt; omega
  have ge_g2 : w.heap.size ≤ g2 := by have := hX.size; omega
  replace hX := hX.comp hu2
  replace hB1 := hB1.ext hu2
  refine s_look (look_assign rfl rfl) ?_
  refine s_nil ?_
  refine then_normal ?_
  refine wp_seq ?_
  refine wp_region_lit ?_
  refine s_call (vs := []) enTry_34 trivial (ways_any _) ?_
  rintro _ u3 ⟨rfl, hc3⟩
  refine ⟨_, rfl, ?_⟩
  replace hX := hX.comp hc3
  replace hB1 := hB1.ext hc3
  replace hB2 := hB2.ext hc3
  refine s_alloc zeTry_59 ?_
  intro g4 u4 hu4 hB4 hg4 hs4
  have lt_g1_g4 : g1 < g4 := by have := hB1.lt; omega
  have lt_g2_g4 : g2 < g4 := by have := hB2.lt; omega
  have ge_g4 : w.heap.size ≤ g4 := by have := hX.size; omega
  replace hX := hX.comp hu4
  replace hB1 := hB1.ext hu4
  replace hB2 := hB2.ext hu4
  refine s_store (v := .agg W18.toArray) szTry_59 W18_sz W18_one rfl rfl hB4 (by rw [W18_sz]; rfl) ?_
  intro u5 hk5 hT5
  replace hT5 : Blk u5 g4 59 W18 := hT5
  replace hX := hX.kp hk5 (by omega)
  replace hB1 := hB1.kp hk5 (by omega)
  replace hB2 := hB2.kp hk5 (by omega)
  clear hB4
  have hB4 := hT5
  rw [W18_eq] at hB4
  have hW : Sl ccell 3 u5 (some ⟨g4, 0, none⟩) ways := Blk.sl hce_c hB4
  clear hB4
  refine s_nil ?_
  refine then_normal ?_
  refine wp_seq ?_
  refine region_qd mixed (by kernel_rfl) ?_
  refine q_look (look_slice_arr Try.underlying59 szTry_26 rfl rfl) ?_
  refine q_look (look_loadN Try.underlying26 rfl szTry_26 rfl rfl rfl (ext_cell_n hB2)) ?_
  refine q_look (look_loadN Try.underlying26 rfl szTry_26 rfl rfl rfl (ext_cell_n hB1)) ?_
  refine q_call (vs := [_, _]) enTry_25 ⟨⟨_, rfl, rfl⟩, ⟨_, rfl, rfl⟩, trivial⟩ (fun wc hw => cext hw (less_any b a wc)) ?_
  refine q_call (vs := [_, _]) enTry_40 ⟨⟨_, rfl, rfl⟩, ⟨_, rfl, rfl⟩, trivial⟩ (fun wc hw => cext hw (contains_any ways (some ⟨g4, 0, none⟩) 6 (subW b a) wc (hW.ext hw) (show 6 ≤ maxLen by decide))) ?_
  refine q_look (look_assign rfl rfl) ?_
  refine q_nil ?_
  intro w1 hw1
  replace hX := hX.comp hw1
  replace hB1 := hB1.ext hw1
  replace hB2 := hB2.ext hw1
  replace hW := hW.ext hw1
  refine then_normal ?_
  refine wp_ret ?_
  exact res1 Try.results26 rfl ⟨ret_bool rfl, hX⟩

theorem bsearch_any (l : List Cl) (A : Option Addr) (c : Nat) (t : Cl) (w : World) (hA : Sl ccell 3 w A l) (hla : l.length ≤ maxLen) (hs : Asc l) :
    Calls Try.prog 33 #[.slice A l.length c, .agg (ccell t).toArray, .func (.func 32) #[] #[]] w fun e w' => e = .returned (.tuple #[.int .i64 (bsK l t : Int), .bool (decide (t ∈ l))]) ∧ Ext w w' := by
  refine calls_act Try.func33 rfl Try.ntmps33 rfl rfl ?_
  show Code.wp _ _ _ (act 49 [(0, true, .slice A l.length c), (1, true, .agg (ccell t).toArray), (2, true, .func (.func 32) #[] #[])] _) _
  have hX : Ext w w := Ext.rfl' w
  refine wp_seq ?_
  refine wp_region_lit ?_
  refine s_box rfl ?_
  intro g1 u1 hu1 hB1 hg1 hs1
  replace hB1 : Blk u1 g1 26 (ccell t) := hB1
  have ge_g1 : w.heap.size ≤ g1 := by have := hX.size; omega
  replace hX := hX.comp hu1
  refine s_look (look_assign rfl rfl) ?_
  refine s_look (look_assign rfl rfl) ?_
  refine s_nil ?_
  refine then_normal ?_
  refine wp_seq ?_
  refine region_s ?_
  refine q_look (look_move rfl rfl) ?_
  refine q_look (look_len_slice Try.underlying22 rfl rfl) ?_
  refine q_look (look_assign rfl rfl) ?_
  refine q_nil ?_
  rintro _ rfl
  refine then_normal ?_
  refine wp_seq ?_
  refine region_s ?_
  refine q_look (look_move rfl rfl) ?_
  refine q_look (look_assign rfl rfl) ?_
  refine q_look (look_assign rfl rfl) ?_
  refine q_nil ?_
  rintro _ rfl
  refine then_normal ?_
  refine wp_seq ?_
  refine wp_block ?_
  refine loop_act (fun (ls : Nat × Nat) => [(0, .slice A l.length c), (2, .func (.func 32) #[] #[]), (4, .pointer (some ⟨g1, 0, none⟩)), (8, .int .i64 (l.length : Int)), (9, .int .i64 (ls.1 : Int)), (10, .int .i64 (ls.2 : Int))]) (fun ls w' => (Ext w w') ∧ (Blk w' g1 26 (ccell t)) ∧ (ls.1 ≤ ls.2) ∧ (ls.2 ≤ l.length) ∧ (∀ k y, k < ls.1 → l[k]? = some y → cmpC y t < 0) ∧ (∀ k y, ls.2 ≤ k → l[k]? = some y → ¬ cmpC y t < 0)) (fun ls => ls.2 - ls.1) ((0, l.length)) ?_ ?_ ?_
  · exact ⟨rfl, rfl, rfl, rfl, rfl, rfl, trivial⟩
  · exact ⟨hX, hB1, Nat.zero_le _, Nat.le_refl _, (by intro k y hk; exact absurd hk (Nat.not_lt_zero _)), (by intro k y hk hy; have := (List.getElem?_eq_some_iff.1 hy).1; exact absurd this (Nat.not_lt.2 hk))⟩
  · rintro ⟨i, j⟩ σ wr hF
    obtain ⟨hX, hB1, hij, hj, hlo, hhi⟩ : (Ext w wr) ∧ (Blk wr g1 26 (ccell t)) ∧ (i ≤ j) ∧ (j ≤ l.length) ∧ (∀ k y, k < i → l[k]? = some y → cmpC y t < 0) ∧ (∀ k y, j ≤ k → l[k]? = some y → ¬ cmpC y t < 0) := hF
    show Code.wp _ _ _ (act 49 [(0, true, .slice A l.length c), (2, true, .func (.func 32) #[] #[]), (4, true, .pointer (some ⟨g1, 0, none⟩)), (8, true, .int .i64 (l.length : Int)), (9, true, .int .i64 (i : Int)), (10, true, .int .i64 (j : Int))] _) _
    refine wp_seq ?_
    refine wp_seq ?_
    refine region_s ?_
    refine q_look (look_move rfl rfl) ?_
    refine q_look (look_move rfl rfl) ?_
    refine q_look (look_lss rfl rfl rfl rfl) ?_
    refine q_nil ?_
    rintro _ rfl
    refine then_normal ?_
    refine cond_split rfl (fun hc17 => ?_) (fun hc17 => ?_)
    · have hlt : i < j := by have := nn_t hc17; omega
      refine wp_skip ?_
      refine then_normal ?_
      refine wp_block ?_
      refine wp_seq ?_
      refine region_s ?_
      refine q_look (look_move rfl rfl) ?_
      refine q_look (look_move rfl rfl) ?_
      refine q_look (look_addw rfl rfl rfl rfl) ?_
      refine q_look (look_conv_int Try.underlying87 Try.underlying3 rfl rfl (show _ = (((i + j : Nat)) : Int) by rw [← Int.natCast_add]; exact wrap_ui _ (by omega) (by have := maxLen_is; omega))) ?_
      refine q_look (look_shr (z := (((i + j) / 2 : Nat) : Int)) rfl rfl rfl rfl (by omega) (shr1 _)) ?_
      refine q_look (look_conv_int Try.underlying3 Try.underlying87 rfl rfl (wrap_I64 (by have := maxLen_is; unfold I64; omega))) ?_
      refine q_look (look_assign rfl rfl) ?_
      refine q_nil ?_
      rintro _ rfl
      obtain ⟨m, hm⟩ : ∃ m, m = (i + j) / 2 := ⟨_, rfl⟩
      rw [← hm]
      have hml : m < l.length := by omega
      obtain ⟨x, hxx⟩ := get_lt hml
      obtain ⟨b1, o1, rfl, _⟩ := (hA.ext hX).at_ hml
      refine then_normal ?_
      refine wp_seq ?_
      refine region_qd mixed (by kernel_rfl) ?_
      refine q_look (look_move rfl rfl) ?_
      refine q_look (look_move rfl rfl) ?_
      refine q_look (look_move rfl rfl) ?_
      refine q_look (look_indexAddr _ Try.underlying22 szTry_26 rfl rfl rfl rfl rfl (by omega)) ?_
      refine q_look (look_loadN Try.underlying26 rfl szTry_26 rfl rfl rfl (cs := ccell x) (extn ((hA.ext hX).rd m x hxx))) ?_
      refine q_look (look_loadN Try.underlying26 rfl szTry_26 rfl rfl rfl (ext_cell_n hB1)) ?_
      refine q_callv (cap := []) (vs := [_, _]) (f := 32) enTry_32 rfl ⟨⟨_, rfl, rfl⟩, ⟨_, rfl, rfl⟩, trivial⟩ (fun wc hw => cext hw (compare_any x t wc)) ?_
      refine q_look (look_lss rfl rfl rfl rfl) ?_
      refine q_nil ?_
      intro w1 hw1
      replace hX := hX.comp hw1
      replace hB1 := hB1.ext hw1
      refine then_normal ?_
      refine cond_split rfl (fun hc31 => ?_) (fun hc31 => ?_)
      · have hq0 : cmpC x t < 0 := nn_t hc31
        refine region_s ?_
        refine q_look (look_move rfl rfl) ?_
        refine q_look (look_add rfl rfl rfl rfl (by have := maxLen_is; unfold I64; omega)) ?_
        refine q_look (look_assign rfl rfl) ?_
        refine q_nil ?_
        rintro _ rfl
        refine inB_normal ?_
        exact loop_end ((m + 1, j)) (by simp only []; omega) ⟨rfl, rfl, rfl, rfl, rfl, rfl, trivial⟩ ⟨hX, hB1, by show m + 1 ≤ j; omega, hj, hs.lo hxx hq0, hhi⟩
      · have hq0 : ¬ cmpC x t < 0 := nn_f hc31
        refine region_s ?_
        refine q_look (look_move rfl rfl) ?_
        refine q_look (look_assign rfl rfl) ?_
        refine q_nil ?_
        rintro _ rfl
        refine inB_normal ?_
        exact loop_end ((i, m)) (by simp only []; omega) ⟨rfl, rfl, rfl, rfl, rfl, rfl, trivial⟩ ⟨hX, hB1, by show i ≤ m; omega, by show m ≤ l.length; omega, hlo, hs.hi hxx hq0⟩
    · obtain rfl : i = j := by have := nn_f hc17; omega
      refine wp_exit ?_
      refine then_exit ?_
      refine then_exit ?_
      refine inB_exit_same ?_
      refine then_normal ?_
      refine wp_seq ?_
      rcases Nat.lt_or_ge i l.length with hin | hin
      · obtain ⟨x, hxx⟩ := get_lt hin
        obtain ⟨b1, o1, rfl, _⟩ := (hA.ext hX).at_ hin
        refine region_qd mixed (by kernel_rfl) ?_
        refine q_look (look_move rfl rfl) ?_
        refine q_look (look_move rfl rfl) ?_
        refine q_look (look_move rfl rfl) ?_
        refine q_look (Look.as (look_lss rfl rfl rfl rfl) (v' := .bool true) (by rw [decide_eq_true (show (i : Int) < (l.length : Int) by omega)])) ?_
        refine q_look (look_move rfl rfl) ?_
        refine q_lookg rfl rfl rfl (fun hq => look_move rfl rfl) ?_
        refine q_lookg rfl rfl rfl (fun hq => look_move rfl rfl) ?_
        refine q_lookg rfl rfl rfl (fun hq => look_move rfl rfl) ?_
        refine q_lookg rfl rfl rfl (fun hq => look_indexAddr _ Try.underlying22 szTry_26 rfl hq rfl hq rfl (by omega)) ?_
        refine q_lookg rfl rfl rfl (fun hq => look_loadN Try.underlying26 rfl szTry_26 rfl rfl hq (cs := ccell x) (extn ((hA.ext hX).rd i x hxx))) ?_
        refine q_lookg rfl rfl rfl (fun hq => look_loadN Try.underlying26 rfl szTry_26 rfl rfl rfl (ext_cell_n hB1)) ?_
        refine q_callgv rfl rfl rfl (cap := []) (vs := [_, _]) (f := 32) enTry_32 (fun _ => rfl) (fun _ => ⟨⟨_, rfl, rfl⟩, ⟨_, rfl, rfl⟩, trivial⟩) (fun _ wc hw => cext hw (compare_any x t wc)) ?_
        refine q_lookg rfl rfl rfl (fun hq => look_eql rfl hq rfl rfl) ?_
        refine q_look (look_and rfl rfl rfl rfl) ?_
        refine q_look (look_assign rfl rfl) ?_
        refine q_look (look_assign rfl rfl) ?_
        refine q_nil ?_
        intro w2 hw2
        replace hX := hX.comp hw2
        replace hB1 := hB1.ext hw2
        refine then_normal ?_
        refine wp_ret ?_
        have htw : bsK l t = i := tw_len _ l i hj (fun k y hk hy => decide_eq_true (hlo k y hk hy)) (fun y hy => decide_eq_false (hhi i y (Nat.le_refl _) hy))
        exact res2 Try.results33 rfl rfl ⟨by rw [htw, asc_mem hlo hxx hs (hhi i x (Nat.le_refl _) hxx)]; rfl, hX⟩
      · refine region_qd mixed (by kernel_rfl) ?_
        refine q_look (look_move rfl rfl) ?_
        refine q_look (look_move rfl rfl) ?_
        refine q_look (look_move rfl rfl) ?_
        refine q_look (Look.as (look_lss rfl rfl rfl rfl) (v' := .bool false) (by rw [decide_eq_false (show ¬ (i : Int) < (l.length : Int) by omega)])) ?_
        refine q_look (look_move rfl rfl) ?_
        refine q_dead (v := .bool false) rfl rfl rfl rfl ?_
        refine q_dead (v := .bool false) rfl rfl rfl rfl ?_
        refine q_dead (v := .bool false) rfl rfl rfl rfl ?_
        refine q_dead (v := .bool false) rfl rfl rfl rfl ?_
        refine q_dead (v := .bool false) rfl rfl rfl rfl ?_
        refine q_dead (v := .bool false) rfl rfl rfl rfl ?_
        refine q_dead (v := .bool false) rfl rfl rfl rfl ?_
        refine q_dead (v := .bool false) rfl rfl rfl rfl ?_
        refine q_look (look_and rfl rfl rfl rfl) ?_
        refine q_look (look_assign rfl rfl) ?_
        refine q_look (look_assign rfl rfl) ?_
        refine q_nil ?_
        intro w3 hw3
        replace hX := hX.comp hw3
        replace hB1 := hB1.ext hw3
        refine then_normal ?_
        refine wp_ret ?_
        have htw : bsK l t = i := tw_len _ l i hj (fun k y hk hy => decide_eq_true (hlo k y hk hy)) (fun y hy => decide_eq_false (hhi i y (Nat.le_refl _) hy))
        exact res2 Try.results33 rfl rfl ⟨by rw [htw, asc_none (fun k y hk hy => hlo k y (by omega) hy)]; rfl, hX⟩

theorem blocked_any (g : Gr) (t : Cl) (w : World) (hG : GOk w g) (hs : Asc g.bl) :
    Calls Try.prog 18 #[.agg (gcell g).toArray, .agg (ccell t).toArray] w fun e w' => e = .returned (.bool (decide (t ∈ g.bl))) ∧ Ext w w' := by
  refine calls_act Try.func18 rfl Try.ntmps18 rfl rfl ?_
  show Code.wp _ _ _ (act 15 [(0, true, .agg (gcell g).toArray), (1, true, .agg (ccell t).toArray)] _) _
  have hX : Ext w w := Ext.rfl' w
  refine wp_seq ?_
  refine wp_region_lit ?_
  refine s_box rfl ?_
  intro g1 u1 hu1 hB1 hg1 hs1
  replace hB1 : Blk u1 g1 24 (gcell g) := hB1
  have ge_g1 : w.heap.size ≤ g1 := by have := hX.size; omega
  replace hX := hX.comp hu1
  refine s_box rfl ?_
  intro g2 u2 hu2 hB2 hg2 hs2
  replace hB2 : Blk u2 g2 26 (ccell t) := hB2
  have lt_g1_g2 : g1 < g2 := by have := hB1.lt; omega
  have ge_g2 : w.heap.size ≤ g2 := by have := hX.size; omega
  replace hX := hX.comp hu2
  replace hB1 := hB1.ext hu2
  refine s_look (look_assign rfl rfl) ?_
  refine s_nil ?_
  refine then_normal ?_
  refine wp_seq ?_
  refine region_q ?_
  refine q_look (look_fieldAddr Try.underlying24 rfl (fun _ _ => rfl) rfl rfl) ?_
  refine q_look (look_load1 Try.underlying22 rfl rfl rfl (ext_cell (hB1.cell rfl))) ?_
  refine q_look (look_loadN Try.underlying26 rfl szTry_26 rfl rfl rfl (ext_cell_n hB2)) ?_
  refine q_call (vs := [_, _, _]) enTry_33 ⟨⟨_, rfl, rfl⟩, ⟨_, rfl, rfl⟩, ⟨_, rfl, rfl⟩, trivial⟩ (fun wc hw => cext hw (bsearch_any g.bl g.A g.cap t wc (hG.sl.ext (hX.comp hw)) hG.len hs)) ?_
  refine q_look (look_move rfl rfl) ?_
  refine q_look (look_extract rfl rfl rfl) ?_
  refine q_look (look_extract rfl rfl rfl) ?_
  refine q_look (look_assign rfl rfl) ?_
  refine q_look (look_assign rfl rfl) ?_
  refine q_nil ?_
  intro w1 hw1
  replace hX := hX.comp hw1
  replace hB1 := hB1.ext hw1
  replace hB2 := hB2.ext hw1
  refine then_normal ?_
  refine wp_seq ?_
  refine region_s ?_
  refine q_look (look_move rfl rfl) ?_
  refine q_look (look_assign rfl rfl) ?_
  refine q_nil ?_
  rintro _ rfl
  refine then_normal ?_
  refine wp_ret ?_
  exact res1 Try.results18 rfl ⟨ret_bool rfl, hX⟩

theorem refblocked_any (g : Gr) (t : Cl) (w : World) (hG : GOk w g) :
    Calls Try.prog 21 #[.agg (gcell g).toArray, .agg (ccell t).toArray] w fun e w' => e = .returned (.bool (decide (t ∈ g.bl))) ∧ Ext w w' := by
  refine calls_act Try.func21 rfl Try.ntmps21 rfl rfl ?_
  show Code.wp _ _ _ (act 20 [(0, true, .agg (gcell g).toArray), (1, true, .agg (ccell t).toArray)] _) _
  have hX : Ext w w := Ext.rfl' w
  refine wp_seq ?_
  refine wp_region_lit ?_
  refine s_box rfl ?_
  intro g1 u1 hu1 hB1 hg1 hs1
  replace hB1 : Blk u1 g1 24 (gcell g) := hB1
  have ge_g1 : w.heap.size ≤ g1 := by have := hX.size; omega
  replace hX := hX.comp hu1
  refine s_box rfl ?_
  intro g2 u2 hu2 hB2 hg2 hs2
  replace hB2 : Blk u2 g2 26 (ccell t) := hB2
  have lt_g1_g2 : g1 < g2 := by have := hB1.lt; omega
  have ge_g2 : w.heap.size ≤ g2 := by have := hX.size; omega
  replace hX := hX.comp hu2
  replace hB1 := hB1.ext hu2
  refine s_look (look_assign rfl rfl) ?_
  refine s_nil ?_
  refine then_normal ?_
  refine wp_seq ?_
  refine wp_seq ?_
  refine region_s ?_
  refine q_look (look_assign rfl rfl) ?_
  refine q_nil ?_
  rintro _ rfl
  refine then_normal ?_
  refine wp_block ?_
  refine loop_act (fun (k : Nat) => [(2, .pointer (some ⟨g1, 0, none⟩)), (3, .pointer (some ⟨g2, 0, none⟩)), (5, .int .i64 (k : Int))]) (fun k w' => (Ext w w') ∧ (Blk w' g1 24 (gcell g)) ∧ (Blk w' g2 26 (ccell t)) ∧ (k ≤ g.bl.length) ∧ (decide (t ∈ g.bl) = decide (t ∈ g.bl.drop k))) (fun k => g.bl.length - k) (0) ?_ ?_ ?_
  · exact ⟨rfl, rfl, rfl, trivial⟩
  · exact ⟨hX, hB1, hB2, Nat.zero_le _, rfl⟩
  · rintro k σ wr hF
    obtain ⟨hX, hB1, hB2, hk, hf⟩ : (Ext w wr) ∧ (Blk wr g1 24 (gcell g)) ∧ (Blk wr g2 26 (ccell t)) ∧ (k ≤ g.bl.length) ∧ (decide (t ∈ g.bl) = decide (t ∈ g.bl.drop k)) := hF
    show Code.wp _ _ _ (act 20 [(2, true, .pointer (some ⟨g1, 0, none⟩)), (3, true, .pointer (some ⟨g2, 0, none⟩)), (5, true, .int .i64 (k : Int))] _) _
    refine wp_seq ?_
    refine wp_seq ?_
    refine region_s ?_
    refine q_look (look_move rfl rfl) ?_
    refine q_look (look_fieldAddr Try.underlying24 rfl (fun _ _ => rfl) rfl rfl) ?_
    refine q_look (look_load1 Try.underlying22 rfl rfl rfl (eqc (hB1.cell rfl))) ?_
    refine q_look (look_len_slice Try.underlying22 rfl rfl) ?_
    refine q_look (look_lss rfl rfl rfl rfl) ?_
    refine q_nil ?_
    rintro _ rfl
    refine then_normal ?_
    refine cond_split rfl (fun hc10 => ?_) (fun hc10 => ?_)
    · have hlt : k < g.bl.length := by have := nn_t hc10; omega
      obtain ⟨x, hxx⟩ := get_lt hlt
      obtain ⟨b1, o1, hA1, hr1⟩ := (hG.sl.ext hX).at_ hlt
      refine wp_skip ?_
      refine then_normal ?_
      refine wp_seq ?_
      refine wp_block ?_
      refine wp_seq ?_
      refine region_qd mixed (by kernel_rfl) ?_
      refine q_look (look_fieldAddr Try.underlying24 rfl (fun _ _ => rfl) rfl rfl) ?_
      refine q_look (Look.as (look_load1 Try.underlying22 rfl rfl rfl (ext_cell (hB1.cell rfl))) (v' := .slice (some ⟨b1, o1, none⟩) g.bl.length g.cap) (by rw [hA1])) ?_
      refine q_look (look_move rfl rfl) ?_
      refine q_look (look_indexAddr _ Try.underlying22 szTry_26 rfl rfl rfl rfl rfl (by omega)) ?_
      refine q_look (look_loadN Try.underlying26 rfl szTry_26 rfl rfl rfl (cs := ccell x) (extn (hr1 k x hxx))) ?_
      refine q_look (look_loadN Try.underlying26 rfl szTry_26 rfl rfl rfl (ext_cell_n hB2)) ?_
      refine q_look (look_eql_flat Try.underlying26 stood35 guard35 rfl rfl rfl rfl (eqC _ _)) ?_
      refine q_nil ?_
      intro w1 hw1
      replace hX := hX.comp hw1
      replace hB1 := hB1.ext hw1
      replace hB2 := hB2.ext hw1
      refine then_normal ?_
      refine cond_split rfl (fun hc19 => ?_) (fun hc19 => ?_)
      · have hq0 : x = t := nn_t hc19
        refine wp_seq ?_
        refine region_s ?_
        refine q_look (look_assign rfl rfl) ?_
        refine q_nil ?_
        rintro _ rfl
        refine then_normal ?_
        refine wp_ret ?_
        refine inB_ret ?_
        refine then_ret ?_
        refine then_ret ?_
        refine inB_ret ?_
        refine then_ret ?_
        exact res1 Try.results21 rfl ⟨ret_bool (by rw [hf, drop_get hxx, hq0]; simp), hX⟩
      · have hq0 : ¬ (x = t) := nn_f hc19
        refine wp_skip ?_
        refine inB_normal ?_
        refine then_normal ?_
        refine region_s ?_
        refine q_look (look_move rfl rfl) ?_
        refine q_look (look_add rfl rfl rfl rfl (by have := hG.len; have := maxLen_is; unfold I64; omega)) ?_
        refine q_look (look_assign rfl rfl) ?_
        refine q_nil ?_
        rintro _ rfl
        exact loop_end (k + 1) (by omega) ⟨rfl, rfl, rfl, trivial⟩ ⟨hX, hB1, hB2, by omega, by rw [hf, drop_get hxx]; simp [Ne.symm hq0]⟩
    · have hge : ¬ k < g.bl.length := by have := nn_f hc10; omega
      refine wp_exit ?_
      refine then_exit ?_
      refine then_exit ?_
      refine inB_exit_same ?_
      refine then_normal ?_
      refine wp_seq ?_
      refine region_s ?_
      refine q_look (look_assign rfl rfl) ?_
      refine q_nil ?_
      rintro _ rfl
      refine then_normal ?_
      refine wp_ret ?_
      exact res1 Try.results21 rfl ⟨ret_bool (by rw [hf, List.drop_eq_nil_of_le (by omega)]; simp), hX⟩

theorem before_any (a b : Cl) (w : World)  :
    Calls Try.prog 15 #[.agg (ccell a).toArray, .agg (ccell b).toArray] w fun e w' => e = .returned (.bool (befB a b)) ∧ Ext w w' := by
  refine calls_act Try.func15 rfl Try.ntmps15 rfl rfl ?_
  show Code.wp _ _ _ (act 38 [(0, true, .agg (ccell a).toArray), (1, true, .agg (ccell b).toArray)] _) _
  have hX : Ext w w := Ext.rfl' w
  refine wp_seq ?_
  refine wp_region_lit ?_
  refine s_box rfl ?_
  intro g1 u1 hu1 hB1 hg1 hs1
  replace hB1 : Blk u1 g1 26 (ccell a) := hB1
  have ge_g1 : w.heap.size ≤ g1 := by have := hX.size; omega
  replace hX := hX.comp hu1
  refine s_box rfl ?_
  intro g2 u2 hu2 hB2 hg2 hs2
  replace hB2 : Blk u2 g2 26 (ccell b) := hB2
  have lt_g1_g2 : g1 < g2 := by have := hB1.lt; omega
  have ge_g2 : w.heap.size ≤ g2 := by have := hX.size; omega
  replace hX := hX.comp hu2
  replace hB1 := hB1.ext hu2
  refine s_look (look_assign rfl rfl) ?_
  refine s_nil ?_
  refine then_normal ?_
  refine wp_seq ?_
  refine region_s ?_
  refine q_look (look_fieldAddr Try.underlying26 rfl (fun _ _ => rfl) rfl rfl) ?_
  refine q_look (look_load1 Try.underlying3 rfl rfl rfl (eqc (hB1.cell rfl))) ?_
  refine q_look (look_fieldAddr Try.underlying26 rfl (fun _ _ => rfl) rfl rfl) ?_
  refine q_look (look_load1 Try.underlying3 rfl rfl rfl (eqc (hB2.cell rfl))) ?_
  refine q_look (look_lss rfl rfl rfl rfl) ?_
  refine q_look (look_move rfl rfl) ?_
  refine q_lookg rfl rfl rfl (fun hq => look_fieldAddr Try.underlying26 rfl (fun _ _ => rfl) rfl rfl) ?_
  refine q_lookg rfl rfl rfl (fun hq => look_load1 Try.underlying3 rfl rfl hq (eqc (hB1.cell rfl))) ?_
  refine q_lookg rfl rfl rfl (fun hq => look_fieldAddr Try.underlying26 rfl (fun _ _ => rfl) rfl rfl) ?_
  refine q_lookg rfl rfl rfl (fun hq => look_load1 Try.underlying3 rfl rfl hq (eqc (hB2.cell rfl))) ?_
  refine q_lookg rfl rfl rfl (fun hq => look_eql rfl hq rfl hq) ?_
  refine q_lookg rfl rfl rfl (fun hq => look_move rfl hq) ?_
  refine q_lookg rfl rfl rfl (fun hq => look_fieldAddr Try.underlying26 rfl (fun _ _ => rfl) rfl rfl) ?_
  refine q_lookg rfl rfl rfl (fun hq => look_load1 Try.underlying3 rfl rfl hq (eqc (hB1.cell rfl))) ?_
  refine q_lookg rfl rfl rfl (fun hq => look_fieldAddr Try.underlying26 rfl (fun _ _ => rfl) rfl rfl) ?_
  refine q_lookg rfl rfl rfl (fun hq => look_load1 Try.underlying3 rfl rfl hq (eqc (hB2.cell rfl))) ?_
  refine q_lookg rfl rfl rfl (fun hq => look_lss rfl hq rfl hq) ?_
  refine q_lookg rfl rfl rfl (fun hq => look_move rfl hq) ?_
  refine q_lookg rfl rfl rfl (fun hq => look_fieldAddr Try.underlying26 rfl (fun _ _ => rfl) rfl rfl) ?_
  refine q_lookg rfl rfl rfl (fun hq => look_load1 Try.underlying3 rfl rfl hq (eqc (hB1.cell rfl))) ?_
  refine q_lookg rfl rfl rfl (fun hq => look_fieldAddr Try.underlying26 rfl (fun _ _ => rfl) rfl rfl) ?_
  refine q_lookg rfl rfl rfl (fun hq => look_load1 Try.underlying3 rfl rfl hq (eqc (hB2.cell rfl))) ?_
  refine q_lookg rfl rfl rfl (fun hq => look_eql rfl hq rfl hq) ?_
  refine q_lookg rfl rfl rfl (fun hq => look_move rfl hq) ?_
  refine q_lookg rfl rfl rfl (fun hq => look_fieldAddr Try.underlying26 rfl (fun _ _ => rfl) rfl rfl) ?_
  refine q_lookg rfl rfl rfl (fun hq => look_load1 Try.underlying3 rfl rfl hq (eqc (hB1.cell rfl))) ?_
  refine q_lookg rfl rfl rfl (fun hq => look_fieldAddr Try.underlying26 rfl (fun _ _ => rfl) rfl rfl) ?_
  refine q_lookg rfl rfl rfl (fun hq => look_load1 Try.underlying3 rfl rfl hq (eqc (hB2.cell rfl))) ?_
  refine q_lookg rfl rfl rfl (fun hq => look_lss rfl hq rfl hq) ?_
  refine q_lookg rfl rfl rfl (fun hq => look_and rfl hq rfl hq) ?_
  refine q_lookg rfl rfl rfl (fun hq => look_or rfl hq rfl hq) ?_
  refine q_lookg rfl rfl rfl (fun hq => look_and rfl hq rfl hq) ?_
  refine q_look (look_or rfl rfl rfl rfl) ?_
  refine q_look (look_assign rfl rfl) ?_
  refine q_nil ?_
  rintro _ rfl
  refine then_normal ?_
  refine wp_ret ?_
  exact res1 Try.results15 rfl ⟨ret_bool rfl, hX⟩

def szB (n : Int) : Bool := decide (1 ≤ n) && decide (n ≤ 24)
theorem size_any (n : Int) (w : World)  :
    Calls Try.prog 13 #[.int .i64 n] w fun e w' => e = .returned (.bool (szB n)) ∧ Ext w w' := by
  refine calls_act Try.func13 rfl Try.ntmps13 rfl rfl ?_
  show Code.wp _ _ _ (act 9 [(0, true, .int .i64 n)] _) _
  have hX : Ext w w := Ext.rfl' w
  refine wp_seq ?_
  refine region_s ?_
  refine q_look (look_assign rfl rfl) ?_
  refine q_nil ?_
  rintro _ rfl
  refine then_normal ?_
  refine wp_seq ?_
  refine region_s ?_
  refine q_look (look_move rfl rfl) ?_
  refine q_look (look_geq rfl rfl rfl rfl) ?_
  refine q_look (look_move rfl rfl) ?_
  refine q_lookg rfl rfl rfl (fun hq => look_move rfl rfl) ?_
  refine q_lookg rfl rfl rfl (fun hq => look_leq rfl hq rfl rfl) ?_
  refine q_look (look_and rfl rfl rfl rfl) ?_
  refine q_look (look_assign rfl rfl) ?_
  refine q_nil ?_
  rintro _ rfl
  refine then_normal ?_
  refine wp_ret ?_
  exact res1 Try.results13 rfl ⟨ret_bool rfl, hX⟩

end Go.Proofs.Ythddekipelbooaa
