/- The walks of chapter 44 (route): the reference's Path. -/
import Derived.Test.YthddekipelbooaaRd
namespace Go.Proofs.Ythddekipelbooaa
open Go Go.RowKit Core
set_option linter.unusedVariables false
set_option linter.unusedSimpArgs false
attribute [local irreducible] wpQuiet wpList wpH wpT Code.wp Calls bodyPost act


theorem CR.weak {base b0 gc : Nat} {w : World} {cs : List Int} (h : CR base w gc cs) (hb : b0 ≤ base) : CR b0 w gc cs := Core.Own.weak h hb
theorem CR.ge {base gc : Nat} {w : World} {cs : List Int} (h : CR base w gc cs) : base ≤ gc := (Core.Own.ge h rfl).1
theorem CR.grown {base gc : Nat} {w w' : World} {cs : List Int} {row : Option Nat} (h : CR base w gc cs) (k : w.grownBy w' row) (hne : row ≠ some gc) : CR base w' gc cs := Core.Own.grown h k (.inr (fun e => hne e.symm))
/-- A row of truth values of one's own, in block g. -/
def BR (base : Nat) (w : World) (g : Nat) (bs : List Bool) : Prop := Core.Own bocell 4 1 base w (.slice (some ⟨g, 0, none⟩) bs.length bs.length) bs
theorem BR.ext {base g : Nat} {w w' : World} {bs : List Bool} (h : BR base w g bs) (e : Ext w w') : BR base w' g bs := Core.Own.ext h e
theorem BR.kp {base g g' : Nat} {w w' : World} {bs : List Bool} (h : BR base w g bs) (k : Kp g' w w') (hne : g ≠ g') : BR base w' g bs := Core.Own.kp h k (fun e => hne (Option.some.inj e))
theorem BR.lt {base g : Nat} {w : World} {bs : List Bool} (h : BR base w g bs) : g < w.heap.size := (Core.Own.ge h rfl).2
theorem BR.grown {base g : Nat} {w w' : World} {bs : List Bool} {row : Option Nat} (h : BR base w g bs) (k : w.grownBy w' row) (hne : row ≠ some g) : BR base w' g bs := Core.Own.grown h k (.inr (fun e => hne e.symm))
theorem BR.rd {base g : Nat} {w : World} {bs : List Bool} (h : BR base w g bs) (i : Nat) (x : Bool) (hx : bs[i]? = some x) : ∀ (j : Nat) (v : Value), (bocell x)[j]? = some v → w.cell? ⟨g, 0 + i * 1 + j, none⟩ = some v := Core.Own.rd h hce_bo i x hx
theorem BR.sl {base g : Nat} {w : World} {bs : List Bool} (h : BR base w g bs) : Sl bocell 1 w (some ⟨g, 0, none⟩) bs := (Core.Own.slOf hce_bo h).1
theorem BR.of_set {base g k cap : Nat} {w : World} {bs : List Bool} {j : Nat} {u : Bool} (h : Core.Own bocell 4 1 base w (.slice (some ⟨g, 0, none⟩) k cap) (bs.set j u)) (hk : k = bs.length := by rfl) (hc : cap = bs.length := by rfl) : BR base w g (bs.set j u) := by
  subst hk; subst hc
  unfold BR; rw [List.length_set]; exact h
theorem plK_inj {g : Gr} {c d : Cl} (hc : inB g c = true) (hd : inB g d = true) (h : plK g c = plK g d) : c = d := (plI_inj (j := 0) (k := 0) hc hd (by omega) (by omega) (by unfold plI; rw [h])).1
theorem free_start {g : Gr} {bs : List Bool} (hl : (bs.length : Int) = g.nx * g.ny * g.nz) (h : ∀ (j : Nat), j < bs.length → bs[j]? = some true) : ∀ c, inB g c = true → bs[(plK g c).toNat]? = some (!decide (c ∈ g.bl.take 0)) := fun c hc => by
  have := plK_bd hc
  rw [h _ (by omega)]; rfl
theorem free_step {g : Gr} {bs : List Bool} {i : Nat} {y : Cl} (hy : g.bl[i]? = some y) (hyB : inB g y = true) (h : ∀ c, inB g c = true → bs[(plK g c).toNat]? = some (!decide (c ∈ g.bl.take i))) : ∀ c, inB g c = true → (bs.set (plK g y).toNat false)[(plK g c).toNat]? = some (!decide (c ∈ g.bl.take (i + 1))) := fun c hc => by
  have b1 := plK_bd hc
  have b2 := plK_bd hyB
  rw [List.getElem?_set, take_get hy]
  by_cases e : (plK g y).toNat = (plK g c).toNat
  · have e2 : c = y := plK_inj hc hyB (by omega)
    subst e2
    rw [if_pos e, if_pos (List.getElem?_eq_some_iff.1 (h c hc)).1]
    simp
  · rw [if_neg e, h c hc]
    have hne : c ≠ y := fun e2 => e (by rw [e2])
    congr 2
    rw [Bool.eq_iff_iff]
    simp [hne]
theorem dk_lt {i j : Nat} (hi : i < 6) (hj : j < 6) (h : Lt (dk i) (dk j)) : i < j := by
  have h1 : i = 0 ∨ i = 1 ∨ i = 2 ∨ i = 3 ∨ i = 4 ∨ i = 5 := by omega
  have h2 : j = 0 ∨ j = 1 ∨ j = 2 ∨ j = 3 ∨ j = 4 ∨ j = 5 := by omega
  rcases h1 with e | e | e | e | e | e <;> rcases h2 with e2 | e2 | e2 | e2 | e2 | e2 <;> subst e <;> subst e2 <;> first | omega | (exact absurd h (by unfold Lt dk; simp [ways]))
theorem lst_le {g : Gr} {bend v k : Int} {b c u e : Cl} (h : Lst g bend b c u v) (hf : Fre g e) (hw : csub e c ∈ ways) (hk : Lst g bend b e (csub e c) k) : v ≤ k + stepP bend u (csub e c) := by
  obtain ⟨⟨r, h1, h2, h3⟩, _⟩ := hk
  have := h.2 (e :: r) ⟨hf, hw, h1⟩ h2
  simp only [wc] at this; omega
theorem best_of_eq {g : Gr} {bend v k : Int} {b c u : Cl} {j : Nat} (hL : Lst g bend b c u v) (hj : j < 6) (hf : Fre g (cadd c (dk j))) (hk : Lst g bend b (cadd c (dk j)) (dk j) k) (he : k + stepP bend u (dk j) = v)
    (hno : ∀ j', j' < j → ∀ k', Fre g (cadd c (dk j')) → Lst g bend b (cadd c (dk j')) (dk j') k' → k' + stepP bend u (dk j') ≠ v) : Best g bend b c u (cadd c (dk j)) v := by
  refine ⟨hf, by rw [csub_cadd]; exact (dk_way hj).1, ⟨k, by rw [csub_cadd]; exact hk, by rw [csub_cadd]; exact he.symm⟩, fun e k' he2 hw hk' => ?_⟩
  have h1 := lst_le hL he2 hw hk'
  refine ⟨h1, fun hlt => ?_⟩
  obtain ⟨i, hi, ei⟩ := way_dk hw
  have e3 : e = cadd c (dk i) := by rw [ei, cadd_csub]
  rw [e3, Lt.cadd] at hlt
  have := hno i (dk_lt hi hj hlt) k' (by rw [← e3]; exact he2) (by rw [← e3, ei]; exact hk')
  rw [ei] at this
  omega
theorem some_cand {g : Gr} {bend v : Int} {b c u : Cl} (hb : 0 ≤ bend) (hL : Lst g bend b c u v) (hc : c ≠ b) : ∃ j k, j < 6 ∧ Fre g (cadd c (dk j)) ∧ Lst g bend b (cadd c (dk j)) (dk j) k ∧ k + stepP bend u (dk j) = v := by
  obtain ⟨r, h1, h2, h3⟩ := hL.1
  cases r with
  | nil => exact (hc h2).elim
  | cons d r =>
    obtain ⟨j, hj, ej⟩ := way_dk h1.2.1
    obtain ⟨k, k1, k2⟩ := Lst.of (bend := bend) hb (csub d c) h1.2.2 h2
    have h4 := lst_le hL h1.1 h1.2.1 k1
    simp only [wc] at h3
    refine ⟨j, k, hj, by rw [ej, cadd_csub]; exact h1.1, by rw [ej, cadd_csub]; exact k1, by rw [ej]; omega⟩
/-- Where the reference's Path stands. -/
structure At2 (g : Gr) (bend : Int) (a b c : Cl) (k : Nat) (v : Int) (r1 : List Cl) : Prop where
  fre : Fre g c
  k7 : k < 7
  lst : Lst g bend b c (dk k) v
  gd : ∀ r, Gd g bend b (dk k) c r → Gd g bend b c0 a (r1 ++ r)
  end_ : lastC a r1 = c
  len : (r1.length : Int) + v ≤ 100000000
theorem At2.next {g : Gr} {bend v kk : Int} {a b c : Cl} {k j : Nat} {r1 : List Cl} (hb : 0 ≤ bend) (h : At2 g bend a b c k v r1) (hc : c ≠ b) (hj : j < 6) (hf : Fre g (cadd c (dk j))) (hk : Lst g bend b (cadd c (dk j)) (dk j) kk) (he : kk + stepP bend (dk k) (dk j) = v)
    (hno : ∀ j', j' < j → ∀ k', Fre g (cadd c (dk j')) → Lst g bend b (cadd c (dk j')) (dk j') k' → k' + stepP bend (dk k) (dk j') ≠ v) : At2 g bend a b (cadd c (dk j)) j kk (r1 ++ [cadd c (dk j)]) := by
  have hB := best_of_eq h.lst hj hf hk he hno
  have hs := stepP_bd hb (dk k) (dk j)
  refine ⟨hf, by omega, hk, fun r hr => ?_, by rw [lastC_app]; rfl, ?_⟩
  · rw [List.append_assoc]
    exact h.gd _ ⟨hc, ⟨v, hB⟩, by rw [csub_cadd]; exact hr⟩
  · have := h.len
    rw [List.length_append, List.length_singleton]; omega
theorem cand_t {g : Gr} {cs : List Int} {t : Cl} {j : Nat} {x st v : Int} (h : (((inB g t && !decide (t ∈ g.bl)) && decide (0 ≤ x)) && decide (x + st = v)) = true) : Fre g t ∧ 0 ≤ x ∧ x + st = v := by
  obtain ⟨h1, h2⟩ := Bool.and_eq_true_iff.1 h
  obtain ⟨h3, h4⟩ := Bool.and_eq_true_iff.1 h1
  obtain ⟨h5, h6⟩ := Bool.and_eq_true_iff.1 h3
  exact ⟨⟨h5, nd_t h6⟩, nn_t h4, nn_t h2⟩
theorem cand_f {g : Gr} {t : Cl} {x st v : Int} (h : (((inB g t && !decide (t ∈ g.bl)) && decide (0 ≤ x)) && decide (x + st = v)) = false) (hf : Fre g t) (h0 : 0 ≤ x) : x + st ≠ v := fun e => by
  rw [hf.1, decide_eq_false hf.2, decide_eq_true h0, decide_eq_true e] at h; cases h
theorem fre_of {g : Gr} {t : Cl} (h : gq true (inB g t && !decide (t ∈ g.bl)) true = true) : Fre g t := by
  obtain ⟨h5, h6⟩ := Bool.and_eq_true_iff.1 (gq_t h)
  exact ⟨h5, nd_t h6⟩
theorem fre_of2 {g : Gr} {t : Cl} {x : Bool} (h : gq true ((inB g t && !decide (t ∈ g.bl)) && x) true = true) : Fre g t := by
  obtain ⟨h5, _⟩ := Bool.and_eq_true_iff.1 (gq_t h)
  obtain ⟨h5, h6⟩ := Bool.and_eq_true_iff.1 h5
  exact ⟨h5, nd_t h6⟩
def cAt (g : Gr) (cs : List Int) (c : Cl) (k : Nat) : Int := cs.getD (plI g c (k : Int)).toNat 0
theorem cAt_get {g : Gr} {cs : List Int} {c : Cl} {k : Nat} (hl : (cs.length : Int) = g.nx * g.ny * g.nz * 7) (hc : inB g c = true) (hk : k < 7) : cs[(plI g c (k : Int)).toNat]? = some (cAt g cs c k) := by
  have := plI_bd hc (nat7 hk)
  obtain ⟨x, hx⟩ := get_lt (show (plI g c (k : Int)).toNat < cs.length by omega)
  unfold cAt
  rw [getD_of hx]; exact hx
theorem cAt_kn {g : Gr} {cs : List Int} {c : Cl} {k : Nat} (hl : (cs.length : Int) = g.nx * g.ny * g.nz * 7) (hc : inB g c = true) (hk : k < 7) {v : Int} : kn g cs c k v ↔ cAt g cs c k = v ∧ 0 ≤ v := by
  unfold kn
  rw [cAt_get hl hc hk]
  simp


theorem set_true {bs : List Bool} {i : Nat} (h : ∀ (j : Nat), j < i → bs[j]? = some true) (hi : i < bs.length) : ∀ (j : Nat), j < i + 1 → (bs.set i true)[j]? = some true := fun j hj => by
  rw [List.getElem?_set]
  by_cases e : i = j
  · rw [if_pos e, if_pos hi]
  · rw [if_neg e]; exact h j (by omega)
theorem own_some {n0 k c : Nat} {w : World} {A : Option Addr} {l : List Cl} (h : Core.Own ccell 26 3 n0 w (.slice A k c) l) (hl : l ≠ []) : ∃ g, A = some ⟨g, 0, none⟩ := by
  rcases h.2 with ⟨_, e⟩ | ⟨g, cap, cur, he, _⟩
  · exact (hl (List.eq_nil_of_length_eq_zero e)).elim
  · simp only [Value.slice.injEq] at he; exact ⟨g, he.1⟩
theorem no_next {g : Gr} {bend v : Int} {b c : Cl} {k j : Nat} {cs : List Int} (hKn : KnR g bend b cs) (hno : ∀ j', j' < j → ∀ k', Fre g (cadd c (dk j')) → Lst g bend b (cadd c (dk j')) (dk j') k' → k' + stepP bend (dk k) (dk j') ≠ v) (hj : j < 6)
    (hcf : Fre g (cadd c (dk j)) → 0 ≤ cAt g cs (cadd c (dk j)) j → cAt g cs (cadd c (dk j)) j + stepP bend (dk k) (dk j) ≠ v) : ∀ j', j' < j + 1 → ∀ k', Fre g (cadd c (dk j')) → Lst g bend b (cadd c (dk j')) (dk j') k' → k' + stepP bend (dk k) (dk j') ≠ v := fun j' hj' k' hf hL => by
  by_cases e : j' = j
  · subst e
    have h1 := (cAt_kn hKn.len hf.1 (by omega)).1 (hKn.of hf (by omega) hL)
    rw [← h1.1]
    exact hcf hf (by rw [h1.1]; exact h1.2)
  · exact hno j' (by omega) k' hf hL

set_option maxRecDepth 100000 in
set_option maxHeartbeats 4000000 in
theorem refpath_any (g : Gr) (a b : Cl) (bend : Int) (w : World) (hG : GOk w g) :
    Calls Try.prog 6 #[.agg (gcell g).toArray, .agg (ccell a).toArray, .agg (ccell b).toArray, .int .i64 bend] w fun e w' => ∃ v ps cost err, e = .returned (.tuple #[v, .int .i64 cost, .int .i64 err]) ∧ Ext w w' ∧ Core.Own ccell 26 3 w.heap.size w' v ps ∧ PathS g a b bend ps cost err := by
  refine calls_act Try.func6 rfl Try.ntmps6 rfl rfl ?_
  show Code.wp _ _ _ (act 212 [(0, true, .agg (gcell g).toArray), (1, true, .agg (ccell a).toArray), (2, true, .agg (ccell b).toArray), (3, true, .int .i64 bend)] _) _
  have hX : Ext w w := Ext.rfl' w
  refine wp_seq ?_
  refine wp_region_lit ?_
  refine s_box rfl ?_
  intro g1 u1 hu1 hB1 hg1 hs1
  replace hB1 : Blk u1 g1 24 (gcell g) := hB1
  have ge_g1 : w.heap.size ≤ g1 := by have := hX.size; omega
  replace hX := hX.comp hu1
  refine s_box rfl ?_
  intro g2 u2 hu2 hB2 hg2 hs2
  replace hB2 : Blk u2 g2 26 (ccell a) := hB2
  have lt_g1_g2 : g1 < g2 := by have := hB1.lt; omega
  have ge_g2 : w.heap.size ≤ g2 := by have := hX.size; omega
  replace hX := hX.comp hu2
  replace hB1 := hB1.ext hu2
  refine s_box rfl ?_
  intro g3 u3 hu3 hB3 hg3 hs3
  replace hB3 : Blk u3 g3 26 (ccell b) := hB3
  have lt_g1_g3 : g1 < g3 := by have := hB1.lt; omega
  have lt_g2_g3 : g2 < g3 := by have := hB2.lt; omega
  have ge_g3 : w.heap.size ≤ g3 := by have := hX.size; omega
  replace hX := hX.comp hu3
  replace hB1 := hB1.ext hu3
  replace hB2 := hB2.ext hu3
  refine s_look (look_assign rfl rfl) ?_
  refine s_look (look_assign rfl rfl) ?_
  refine s_look (look_assign rfl rfl) ?_
  refine s_nil ?_
  refine then_normal ?_
  refine wp_seq ?_
  refine wp_seq ?_
  refine region_q ?_
  refine q_look (look_loadN Try.underlying24 rfl szTry_24 rfl rfl rfl (ext_cell_n hB1)) ?_
  refine q_call (vs := [_]) enTry_4 ⟨⟨_, rfl, rfl⟩, trivial⟩ (fun wc hw => cext hw (refcheckgrid_any g wc (hG.ext (hX.comp hw)))) ?_
  refine q_look (look_assign rfl rfl) ?_
  refine q_nil ?_
  intro w1 hw1
  replace hX := hX.comp hw1
  replace hB1 := hB1.ext hw1
  replace hB2 := hB2.ext hw1
  replace hB3 := hB3.ext hw1
  refine then_normal ?_
  refine wp_seq ?_
  refine region_s ?_
  refine q_look (look_move rfl rfl) ?_
  refine q_look (look_neq rfl rfl rfl rfl) ?_
  refine q_nil ?_
  rintro _ rfl
  refine then_normal ?_
  refine cond_split rfl (fun hc28 => ?_) (fun hc28 => ?_)
  · have h0 : ¬ chkP g = 0 := nd_t hc28
    refine wp_seq ?_
    refine region_s ?_
    refine q_look (look_move rfl rfl) ?_
    refine q_look (look_assign rfl rfl) ?_
    refine q_look (look_assign rfl rfl) ?_
    refine q_look (look_assign rfl rfl) ?_
    refine q_nil ?_
    rintro _ rfl
    refine then_normal ?_
    refine wp_ret ?_
    refine then_ret ?_
    exact res3 Try.results6 rfl rfl rfl ⟨_, [], _, _, rfl, hX, Own.nil _ _ _ _ _, by unfold PathS; rw [if_pos h0]; exact ⟨rfl, rfl, rfl⟩⟩
  · have h0 : chkP g = 0 := nd_f hc28
    have hok := chk_ok h0
    refine wp_skip ?_
    refine then_normal ?_
    refine wp_seq ?_
    refine wp_seq ?_
    refine region_q ?_
    refine q_look (look_loadN Try.underlying24 rfl szTry_24 rfl rfl rfl (ext_cell_n hB1)) ?_
    refine q_look (look_loadN Try.underlying26 rfl szTry_26 rfl rfl rfl (ext_cell_n hB2)) ?_
    refine q_call (vs := [_, _]) enTry_14 ⟨⟨_, rfl, rfl⟩, ⟨_, rfl, rfl⟩, trivial⟩ (fun wc hw => cext hw (refin_any g a wc)) ?_
    refine q_look (look_not rfl rfl) ?_
    refine q_look (look_move rfl rfl) ?_
    refine q_lookg rfl rfl rfl (fun hq => look_loadN Try.underlying24 rfl szTry_24 rfl rfl rfl (ext_cell_n hB1)) ?_
    refine q_lookg rfl rfl rfl (fun hq => look_loadN Try.underlying26 rfl szTry_26 rfl rfl rfl (ext_cell_n hB3)) ?_
    refine q_callg (vs := [_, _]) rfl rfl rfl enTry_14 (fun hq => ⟨⟨_, rfl, hq⟩, ⟨_, rfl, hq⟩, trivial⟩) (fun hq wc hw => cext hw (refin_any g b wc)) ?_
    refine q_lookg rfl rfl rfl (fun hq => look_not rfl hq) ?_
    refine q_look (look_or rfl rfl rfl rfl) ?_
    refine q_look (look_move rfl rfl) ?_
    refine q_lookg rfl rfl rfl (fun hq => look_move rfl rfl) ?_
    refine q_lookg rfl rfl rfl (fun hq => look_lss rfl hq rfl rfl) ?_
    refine q_look (look_or rfl rfl rfl rfl) ?_
    refine q_look (look_move rfl rfl) ?_
    refine q_lookg rfl rfl rfl (fun hq => look_move rfl rfl) ?_
    refine q_lookg rfl rfl rfl (fun hq => look_gtr rfl hq rfl rfl) ?_
    refine q_look (look_or rfl rfl rfl rfl) ?_
    refine q_nil ?_
    intro w2 hw2
    replace hX := hX.comp hw2
    replace hB1 := hB1.ext hw2
    replace hB2 := hB2.ext hw2
    replace hB3 := hB3.ext hw2
    refine then_normal ?_
    refine cond_split rfl (fun hc47 => ?_) (fun hc47 => ?_)
    · have hask : ¬ askB g a b bend = true := by rw [ask_eq] at hc47; intro h; rw [h] at hc47; cases hc47
      refine wp_seq ?_
      refine region_s ?_
      refine q_look (look_assign rfl rfl) ?_
      refine q_look (look_assign rfl rfl) ?_
      refine q_look (look_assign rfl rfl) ?_
      refine q_nil ?_
      rintro _ rfl
      refine then_normal ?_
      refine wp_ret ?_
      refine then_ret ?_
      exact res3 Try.results6 rfl rfl rfl ⟨_, [], _, _, rfl, hX, Own.nil _ _ _ _ _, by unfold PathS; rw [if_neg (fun h => h h0), if_pos hask]; exact ⟨rfl, rfl, rfl⟩⟩
    · have hask : askB g a b bend = true := by rw [ask_eq] at hc47; exact nt_f hc47
      have hb : 0 ≤ bend ∧ bend ≤ 1000 := (askB_iff.1 hask).2.2
      refine wp_skip ?_
      refine then_normal ?_
      refine wp_seq ?_
      refine wp_seq ?_
      refine region_q ?_
      refine q_look (look_loadN Try.underlying24 rfl szTry_24 rfl rfl rfl (ext_cell_n hB1)) ?_
      refine q_look (look_loadN Try.underlying26 rfl szTry_26 rfl rfl rfl (ext_cell_n hB2)) ?_
      refine q_call (vs := [_, _]) enTry_21 ⟨⟨_, rfl, rfl⟩, ⟨_, rfl, rfl⟩, trivial⟩ (fun wc hw => cext hw (refblocked_any g a wc (hG.ext (hX.comp hw)))) ?_
      refine q_look (look_move rfl rfl) ?_
      refine q_lookg rfl rfl rfl (fun hq => look_loadN Try.underlying24 rfl szTry_24 rfl rfl rfl (ext_cell_n hB1)) ?_
      refine q_lookg rfl rfl rfl (fun hq => look_loadN Try.underlying26 rfl szTry_26 rfl rfl rfl (ext_cell_n hB3)) ?_
      refine q_callg (vs := [_, _]) rfl rfl rfl enTry_21 (fun hq => ⟨⟨_, rfl, hq⟩, ⟨_, rfl, hq⟩, trivial⟩) (fun hq wc hw => cext hw (refblocked_any g b wc (hG.ext (hX.comp hw)))) ?_
      refine q_look (look_or rfl rfl rfl rfl) ?_
      refine q_nil ?_
      intro w3 hw3
      replace hX := hX.comp hw3
      replace hB1 := hB1.ext hw3
      replace hB2 := hB2.ext hw3
      replace hB3 := hB3.ext hw3
      refine then_normal ?_
      refine cond_split rfl (fun hc55 => ?_) (fun hc55 => ?_)
      · have hbl : a ∈ g.bl ∨ b ∈ g.bl := by simpa using hc55
        refine wp_seq ?_
        refine region_s ?_
        refine q_look (look_assign rfl rfl) ?_
        refine q_look (look_assign rfl rfl) ?_
        refine q_look (look_assign rfl rfl) ?_
        refine q_nil ?_
        rintro _ rfl
        refine then_normal ?_
        refine wp_ret ?_
        refine then_ret ?_
        exact res3 Try.results6 rfl rfl rfl ⟨_, [], _, _, rfl, hX, Own.nil _ _ _ _ _, by unfold PathS; rw [if_neg (fun h => h h0), if_neg (fun h => h hask), if_pos hbl]; exact ⟨rfl, rfl, rfl⟩⟩
      · have hbl : ¬ (a ∈ g.bl ∨ b ∈ g.bl) := by simpa using hc55
        have hfa : Fre g a := ⟨(askB_iff.1 hask).1, fun h => hbl (.inl h)⟩
        have hfb : Fre g b := ⟨(askB_iff.1 hask).2.1, fun h => hbl (.inr h)⟩
        have hs := hok.1
        have hvol := vol_bd hs
        obtain ⟨M, hM⟩ : ∃ M : Nat, g.nx * g.ny * g.nz = (M : Int) := ⟨(g.nx * g.ny * g.nz).toNat, by omega⟩
        obtain ⟨N, hN⟩ : ∃ N : Nat, g.nx * g.ny * g.nz * 7 = (N : Int) := ⟨(g.nx * g.ny * g.nz * 7).toNat, by omega⟩
        refine wp_skip ?_
        refine then_normal ?_
        refine wp_seq ?_
        refine wp_region_lit ?_
        refine s_look (look_fieldAddr Try.underlying24 rfl (fun _ _ => rfl) rfl rfl) ?_
        refine s_look (look_load1 Try.underlying3 rfl rfl rfl (eqc (hB1.cell rfl))) ?_
        refine s_look (look_fieldAddr Try.underlying24 rfl (fun _ _ => rfl) rfl rfl) ?_
        refine s_look (look_load1 Try.underlying3 rfl rfl rfl (eqc (hB1.cell rfl))) ?_
        refine s_look (look_mul rfl rfl rfl rfl (by unfold I64; omega)) ?_
        refine s_look (look_fieldAddr Try.underlying24 rfl (fun _ _ => rfl) rfl rfl) ?_
        refine s_look (look_load1 Try.underlying3 rfl rfl rfl (eqc (hB1.cell rfl))) ?_
        refine s_look (look_mul rfl rfl rfl rfl (by unfold I64; omega)) ?_
        refine s_make (ce := bocell) (zx := false) (m := M) Try.underlying54 zsbTry_4 rfl rfl rfl rfl hM hM (by omega) (by have := maxLen_is; omega) ?_
        intro g4 u4 hu4 hO4 hg4
        have ge_g4 : w.heap.size ≤ g4 := by have := hX.size; omega
        have lt_g1_g4 : g1 < g4 := by have := hB1.lt; omega
        have lt_g2_g4 : g2 < g4 := by have := hB2.lt; omega
        have lt_g3_g4 : g3 < g4 := by have := hB3.lt; omega
        have hF : BR w.heap.size u4 g4 (List.replicate M false) := by have h9 := hO4.weak hX.size; unfold BR; rw [List.length_replicate]; exact h9
        replace hX := hX.comp hu4
        replace hB1 := hB1.ext hu4
        replace hB2 := hB2.ext hu4
        replace hB3 := hB3.ext hu4
        refine s_look (look_assign rfl rfl) ?_
        refine s_nil ?_
        refine then_normal ?_
        refine wp_seq ?_
        refine wp_seq ?_
        refine region_s ?_
        refine q_look (look_assign rfl rfl) ?_
        refine q_nil ?_
        rintro _ rfl
        refine then_normal ?_
        refine wp_block ?_
        refine loop_act (fun (ls : Nat × List Bool) => [(3, .int .i64 bend), (4, .pointer (some ⟨g1, 0, none⟩)), (5, .pointer (some ⟨g2, 0, none⟩)), (6, .pointer (some ⟨g3, 0, none⟩)), (12, .slice (some ⟨g4, 0, none⟩) M M), (13, .int .i64 (ls.1 : Int))]) (fun ls w' => (Ext w w') ∧ (Blk w' g1 24 (gcell g)) ∧ (Blk w' g2 26 (ccell a)) ∧ (Blk w' g3 26 (ccell b)) ∧ (BR w.heap.size w' g4 ls.2) ∧ (ls.2.length = M) ∧ (ls.1 ≤ M) ∧ (∀ (j : Nat), j < ls.1 → ls.2[j]? = some true)) (fun ls => M - ls.1) ((0, List.replicate M false)) ?_ ?_ ?_
        · exact ⟨rfl, rfl, rfl, rfl, rfl, rfl, trivial⟩
        · exact ⟨hX, hB1, hB2, hB3, hF, List.length_replicate, Nat.zero_le _, fun j hj => absurd hj (Nat.not_lt_zero j)⟩
        · rintro ⟨i, bs⟩ σ wr hF
          obtain ⟨hX, hB1, hB2, hB3, hF, hlb, hi, hbs⟩ : (Ext w wr) ∧ (Blk wr g1 24 (gcell g)) ∧ (Blk wr g2 26 (ccell a)) ∧ (Blk wr g3 26 (ccell b)) ∧ (BR w.heap.size wr g4 bs) ∧ (bs.length = M) ∧ (i ≤ M) ∧ (∀ (j : Nat), j < i → bs[j]? = some true) := hF
          show Code.wp _ _ _ (act 212 [(3, true, .int .i64 bend), (4, true, .pointer (some ⟨g1, 0, none⟩)), (5, true, .pointer (some ⟨g2, 0, none⟩)), (6, true, .pointer (some ⟨g3, 0, none⟩)), (12, true, .slice (some ⟨g4, 0, none⟩) M M), (13, true, .int .i64 (i : Int))] _) _
          refine wp_seq ?_
          refine wp_seq ?_
          refine region_s ?_
          refine q_look (look_move rfl rfl) ?_
          refine q_look (look_move rfl rfl) ?_
          refine q_look (look_len_slice Try.underlying54 rfl rfl) ?_
          refine q_look (look_lss rfl rfl rfl rfl) ?_
          refine q_nil ?_
          rintro _ rfl
          refine then_normal ?_
          refine cond_split rfl (fun hc68 => ?_) (fun hc68 => ?_)
          · have hlt : i < M := by have := nn_t hc68; omega
            refine wp_skip ?_
            refine then_normal ?_
            refine wp_seq ?_
            refine wp_block ?_
            refine wp_region_lit ?_
            refine s_look (look_move rfl rfl) ?_
            refine s_look (look_move rfl rfl) ?_
            refine s_look (look_indexAddr _ Try.underlying54 szTry_4 rfl rfl rfl rfl rfl (by omega)) ?_
            refine s_storeRow (ce := bocell) (kv := vB) (u := true) (j := i) szTry_4 (fun _ => rfl) rfl rfl (by rfl) (by rfl) hF (by omega) (by omega) ?_
            intro u5 hk5 hO5
            have hT5 := BR.of_set hO5
            replace hX := hX.kp hk5 (by omega)
            replace hB1 := hB1.kp hk5 (by omega)
            replace hB2 := hB2.kp hk5 (by omega)
            replace hB3 := hB3.kp hk5 (by omega)
            clear hF
            have hF := hT5
            refine s_nil ?_
            refine inB_normal ?_
            refine then_normal ?_
            refine region_s ?_
            refine q_look (look_move rfl rfl) ?_
            refine q_look (look_add rfl rfl rfl rfl (by unfold I64; omega)) ?_
            refine q_look (look_assign rfl rfl) ?_
            refine q_nil ?_
            rintro _ rfl
            exact loop_end ((i + 1, bs.set i true)) (by simp only []; omega) ⟨rfl, rfl, rfl, rfl, rfl, rfl, trivial⟩ ⟨hX, hB1, hB2, hB3, hF, by show (bs.set i true).length = M; rw [List.length_set]; exact hlb, by show i + 1 ≤ M; omega, set_true hbs (by omega)⟩
          · have hiM : i = M := by have := nn_f hc68; omega
            refine wp_exit ?_
            refine then_exit ?_
            refine then_exit ?_
            refine inB_exit_same ?_
            refine then_normal ?_
            refine wp_seq ?_
            refine wp_region_lit ?_
            refine s_look (look_loadN Try.underlying24 rfl szTry_24 rfl rfl rfl (eqc_n hB1)) ?_
            refine s_look (look_build (pl := [(0, 4), (4, 1)]) (parts := [(0, .tmp 74)]) (vs := [(0, .agg (gcell g).toArray)]) (cells := tcell g (.slice none 0 0)) Try.underlying56 zeTry_56 (by kernel_rfl) ⟨⟨_, rfl, rfl⟩, trivial⟩ rfl (by kernel_rfl)) ?_
            refine s_alloc zeTry_56 ?_
            intro g6 u6 hu6 hB6 hg6 hs6
            have lt_g1_g6 : g1 < g6 := by have := hB1.lt; omega
            have lt_g2_g6 : g2 < g6 := by have := hB2.lt; omega
            have lt_g3_g6 : g3 < g6 := by have := hB3.lt; omega
            have lt_g4_g6 : g4 < g6 := by have := hF.lt; omega
            have ge_g6 : w.heap.size ≤ g6 := by have := hX.size; omega
            replace hX := hX.comp hu6
            replace hB1 := hB1.ext hu6
            replace hB2 := hB2.ext hu6
            replace hB3 := hB3.ext hu6
            replace hF := hF.ext hu6
            refine s_store szTry_56 rfl (by simp [ccell, gcell, itcell, rcell, tcell, Value.cells, Value.oneCell']) rfl rfl hB6 rfl ?_
            intro u7 hk7 hT7
            replace hT7 : Blk u7 g6 56 (tcell g (.slice none 0 0)) := hT7
            replace hX := hX.kp hk7 (by omega)
            replace hB1 := hB1.kp hk7 (by omega)
            replace hB2 := hB2.kp hk7 (by omega)
            replace hB3 := hB3.kp hk7 (by omega)
            replace hF := hF.kp hk7 (by omega)
            clear hB6
            have hB6 := hT7
            refine s_nil ?_
            have hfs := free_start (by rw [hlb]; exact hM.symm) (fun j hj => hbs j (by omega))
            refine then_normal ?_
            refine wp_seq ?_
            refine wp_seq ?_
            refine region_s ?_
            refine q_look (look_assign rfl rfl) ?_
            refine q_nil ?_
            rintro _ rfl
            refine then_normal ?_
            refine wp_block ?_
            refine loop_act (fun (ls : Nat × List Bool) => [(3, .int .i64 bend), (4, .pointer (some ⟨g1, 0, none⟩)), (5, .pointer (some ⟨g2, 0, none⟩)), (6, .pointer (some ⟨g3, 0, none⟩)), (12, .slice (some ⟨g4, 0, none⟩) M M), (14, .pointer (some ⟨g6, 0, none⟩)), (15, .int .i64 (ls.1 : Int))]) (fun ls w' => (Ext w w') ∧ (Blk w' g1 24 (gcell g)) ∧ (Blk w' g2 26 (ccell a)) ∧ (Blk w' g3 26 (ccell b)) ∧ (BR w.heap.size w' g4 ls.2) ∧ (Blk w' g6 56 (tcell g (.slice none 0 0))) ∧ (ls.2.length = M) ∧ (ls.1 ≤ g.bl.length) ∧ (∀ c, inB g c = true → ls.2[(plK g c).toNat]? = some (!decide (c ∈ g.bl.take ls.1)))) (fun ls => g.bl.length - ls.1) ((0, bs)) ?_ ?_ ?_
            · exact ⟨rfl, rfl, rfl, rfl, rfl, rfl, rfl, trivial⟩
            · exact ⟨hX, hB1, hB2, hB3, hF, hB6, hlb, Nat.zero_le _, hfs⟩
            · rintro ⟨i, bs⟩ σ wr hF
              obtain ⟨hX, hB1, hB2, hB3, hF, hB6, hlb, hi, hfs⟩ : (Ext w wr) ∧ (Blk wr g1 24 (gcell g)) ∧ (Blk wr g2 26 (ccell a)) ∧ (Blk wr g3 26 (ccell b)) ∧ (BR w.heap.size wr g4 bs) ∧ (Blk wr g6 56 (tcell g (.slice none 0 0))) ∧ (bs.length = M) ∧ (i ≤ g.bl.length) ∧ (∀ c, inB g c = true → bs[(plK g c).toNat]? = some (!decide (c ∈ g.bl.take i))) := hF
              show Code.wp _ _ _ (act 212 [(3, true, .int .i64 bend), (4, true, .pointer (some ⟨g1, 0, none⟩)), (5, true, .pointer (some ⟨g2, 0, none⟩)), (6, true, .pointer (some ⟨g3, 0, none⟩)), (12, true, .slice (some ⟨g4, 0, none⟩) M M), (14, true, .pointer (some ⟨g6, 0, none⟩)), (15, true, .int .i64 (i : Int))] _) _
              refine wp_seq ?_
              refine wp_seq ?_
              refine region_s ?_
              refine q_look (look_move rfl rfl) ?_
              refine q_look (look_fieldAddr Try.underlying24 rfl (fun _ _ => rfl) rfl rfl) ?_
              refine q_look (look_load1 Try.underlying22 rfl rfl rfl (eqc (hB1.cell rfl))) ?_
              refine q_look (look_len_slice Try.underlying22 rfl rfl) ?_
              refine q_look (look_lss rfl rfl rfl rfl) ?_
              refine q_nil ?_
              rintro _ rfl
              refine then_normal ?_
              refine cond_split rfl (fun hc80 => ?_) (fun hc80 => ?_)
              · have hlt : i < g.bl.length := by have := nn_t hc80; omega
                obtain ⟨y, hy⟩ := get_lt hlt
                have hyB := hok.2.1 y (mem_get hy)
                obtain ⟨b1, o1, hA1, hr1⟩ := (hG.sl.ext hX).at_ hlt
                have hYs : Sl ccell 3 _ (some ⟨b1, o1, none⟩) g.bl := hA1 ▸ (hG.sl.ext hX)
                have hyk := plK_bd hyB
                refine wp_skip ?_
                refine then_normal ?_
                refine wp_seq ?_
                refine wp_block ?_
                refine region_hl (fun W => Blk W g1 24 (gcell g) ∧ Blk W g6 56 (tcell g (.slice none 0 0)) ∧ Sl ccell 3 W (some ⟨b1, o1, none⟩) g.bl) [10] (tl := [_]) rfl [(0, true), (1, true), (2, true), (3, true), (4, true), (5, true), (6, true), (7, false), (8, true), (9, true)] mixed (by kernel_rfl) rfl (by kernel_rfl) (by repeat (first | exact pk_body | refine pk_then ?_ | refine pk_block ?_))  ?_
                intro u8 hR8
                replace hX := hX.comp hR8
                replace hB1 := hB1.ext hR8
                replace hB2 := hB2.ext hR8
                replace hB3 := hB3.ext hR8
                replace hF := hF.ext hR8
                replace hB6 := hB6.ext hR8
                replace hYs := hYs.ext hR8
                refine ⟨⟨hB1, hB6, hYs⟩, ?_⟩
                refine h_look rfl (look_move rfl rfl) ?_
                refine h_look rfl (look_loadN Try.underlying56 rfl szTry_56 rfl rfl rfl (fun w' hS j v hv => by rw [Nat.zero_add]; exact (hS.2.1).cell hv)) ?_
                refine h_look rfl (look_fieldAddr Try.underlying24 rfl (fun _ _ => rfl) rfl rfl) ?_
                refine h_look rfl (Look.as (look_load1 Try.underlying22 rfl rfl rfl (fun w' hS => (hS.1).cell rfl)) (v' := .slice (some ⟨b1, o1, none⟩) g.bl.length g.cap) (by rw [hA1])) ?_
                refine h_look rfl (look_move rfl rfl) ?_
                refine h_look rfl (look_indexAddr i Try.underlying22 szTry_26 rfl rfl rfl rfl rfl (by omega)) ?_
                refine h_look rfl (look_loadN Try.underlying26 rfl szTry_26 rfl rfl rfl (cs := ccell y) (fun w' hS => (hS.2.2.rd i y hy))) ?_
                refine h_seq rfl ?_ ⟨hB1, hB6, hYs⟩
                refine s_call (vs := [_, _, _]) enTry_22 ⟨⟨_, rfl, rfl⟩, ⟨_, rfl, rfl⟩, ⟨_, rfl, rfl⟩, trivial⟩ (place_any g (.slice none 0 0) y 0 _ hs hyB (by omega)) ?_
                rintro _ u9 ⟨rfl, hc9⟩
                refine ⟨_, rfl, ?_⟩
                replace hX := hX.comp hc9
                replace hB1 := hB1.ext hc9
                replace hB2 := hB2.ext hc9
                replace hB3 := hB3.ext hc9
                replace hF := hF.ext hc9
                replace hB6 := hB6.ext hc9
                replace hYs := hYs.ext hc9
                refine s_nil ?_
                refine then_normal ?_
                refine ⟨⟨hB1, hB6, hYs⟩, ?_⟩
                refine h_look rfl (Look.as (look_quo rfl rfl rfl rfl (plI_bd hyB (by omega)).1 (by have h8 : plI g y 0 < g.nx * g.ny * g.nz * 7 := (plI_bd hyB (by omega)).2; omega) (by omega)) (v' := .int .i64 (plK g y)) (by rw [(plI_dec (k := 0) hyB (by omega)).2.1])) ?_
                refine h_look rfl (look_indexAddr (plK g y).toNat Try.underlying54 szTry_4 rfl rfl rfl rfl (by omega) (by omega)) ?_
                refine h_nil ?_
                refine then_wpl ?_
                refine s_storeRow (ce := bocell) (kv := vB) (u := false) (j := (plK g y).toNat) szTry_4 (fun _ => rfl) rfl rfl (by rfl) (by rfl) hF (by omega) (by omega) ?_
                intro u10 hk10 hO10
                have hT10 := BR.of_set hO10
                replace hX := hX.kp hk10 (by omega)
                replace hB1 := hB1.kp hk10 (by omega)
                replace hB2 := hB2.kp hk10 (by omega)
                replace hB3 := hB3.kp hk10 (by omega)
                replace hB6 := hB6.kp hk10 (by omega)
                clear hF
                have hF := hT10
                refine s_nil ?_
                refine inB_normal ?_
                refine then_normal ?_
                refine region_s ?_
                refine q_look (look_move rfl rfl) ?_
                refine q_look (look_add rfl rfl rfl rfl (by have := hG.len; have := maxLen_is; unfold I64; omega)) ?_
                refine q_look (look_assign rfl rfl) ?_
                refine q_nil ?_
                rintro _ rfl
                exact loop_end ((i + 1, bs.set (plK g y).toNat false)) (by simp only []; omega) ⟨rfl, rfl, rfl, rfl, rfl, rfl, rfl, trivial⟩ ⟨hX, hB1, hB2, hB3, hF, hB6, by show (bs.set _ false).length = M; rw [List.length_set]; exact hlb, by show i + 1 ≤ g.bl.length; omega, free_step hy hyB hfs⟩
              · obtain rfl : i = g.bl.length := by have := nn_f hc80; omega
                rw [List.take_length] at hfs
                refine wp_exit ?_
                refine then_exit ?_
                refine then_exit ?_
                refine inB_exit_same ?_
                refine then_normal ?_
                refine wp_seq ?_
                refine wp_region_lit ?_
                refine s_look (look_loadN Try.underlying24 rfl szTry_24 rfl rfl rfl (eqc_n hB1)) ?_
                refine s_look (look_move rfl rfl) ?_
                refine s_look (look_loadN Try.underlying26 rfl szTry_26 rfl rfl rfl (eqc_n hB3)) ?_
                refine s_look (look_move rfl rfl) ?_
                have hLe := least_any g b bend bs g4 0 bs.length N _ hN hs hfb hb hF.sl (by rw [hlb]; exact hM.symm) hfs
                rw [hlb] at hLe
                refine s_call (vs := [_, _, _, _]) enTry_23 ⟨⟨_, rfl, rfl⟩, ⟨_, rfl, rfl⟩, ⟨_, rfl, rfl⟩, ⟨_, rfl, rfl⟩, trivial⟩ hLe ?_
                rintro _ u11 ⟨gc, cs, rfl, hc11, hC, hKn, hvb⟩
                refine ⟨_, rfl, ?_⟩
                have hgc := hC.ge
                replace hC := hC.weak hX.size
                have lt_g1_gc : g1 < gc := by have := hB1.lt; omega
                have lt_g2_gc : g2 < gc := by have := hB2.lt; omega
                have lt_g3_gc : g3 < gc := by have := hB3.lt; omega
                have lt_g4_gc : g4 < gc := by have := hF.lt; omega
                have lt_g6_gc : g6 < gc := by have := hB6.lt; omega
                have ge_gc : w.heap.size ≤ gc := by have := hX.size; omega
                replace hX := hX.comp hc11
                replace hB1 := hB1.ext hc11
                replace hB2 := hB2.ext hc11
                replace hB3 := hB3.ext hc11
                replace hF := hF.ext hc11
                replace hB6 := hB6.ext hc11
                have hcl : cs.length = N := by have := hKn.len; omega
                refine s_store szTry_56 rfl (by simp [ccell, gcell, itcell, rcell, tcell, Value.cells, Value.oneCell']) rfl rfl hB6 rfl ?_
                intro u12 hk12 hT12
                replace hT12 : Blk u12 g6 56 (tcell g (.slice (some ⟨gc, 0, none⟩) N N)) := hT12
                replace hX := hX.kp hk12 (by omega)
                replace hB1 := hB1.kp hk12 (by omega)
                replace hB2 := hB2.kp hk12 (by omega)
                replace hB3 := hB3.kp hk12 (by omega)
                replace hF := hF.kp hk12 (by omega)
                replace hC := hC.kp hk12 (by omega)
                clear hB6
                have hB6 := hT12
                refine s_nil ?_
                refine then_normal ?_
                refine wp_seq ?_
                have hpa := plI_bd (k := 6) hfa.1 (by omega)
                obtain ⟨now, hnow⟩ := get_lt (show (plI g a 6).toNat < cs.length by omega)
                have hnv := hvb _ _ hnow
                refine region_qd mixed (by kernel_rfl) ?_
                refine q_look (look_fieldAddr Try.underlying56 rfl (fun _ _ => rfl) rfl rfl) ?_
                refine q_look (look_load1 Try.underlying37 rfl rfl rfl (ext_cell (hB6.cell rfl))) ?_
                refine q_look (look_loadN Try.underlying56 rfl szTry_56 rfl rfl rfl (ext_cell_n hB6)) ?_
                refine q_look (look_loadN Try.underlying26 rfl szTry_26 rfl rfl rfl (ext_cell_n hB2)) ?_
                refine q_call (vs := [_, _, _]) enTry_22 ⟨⟨_, rfl, rfl⟩, ⟨_, rfl, rfl⟩, ⟨_, rfl, rfl⟩, trivial⟩ (fun wc hw => cext hw (place_any g (.slice (some ⟨gc, 0, none⟩) N N) a 6 wc hs hfa.1 (by omega))) ?_
                refine q_look (look_indexAddr (plI g a 6).toNat Try.underlying37 szTry_3 rfl rfl rfl rfl (by omega) (by omega)) ?_
                refine q_look (look_load1 Try.underlying3 rfl rfl rfl (ext_cell ((hC.rd (plI g a 6).toNat now hnow) 0 _ rfl))) ?_
                refine q_look (look_assign rfl rfl) ?_
                refine q_nil ?_
                intro w4 hw4
                replace hX := hX.comp hw4
                replace hB1 := hB1.ext hw4
                replace hB2 := hB2.ext hw4
                replace hB3 := hB3.ext hw4
                replace hF := hF.ext hw4
                replace hB6 := hB6.ext hw4
                replace hC := hC.ext hw4
                refine then_normal ?_
                refine wp_seq ?_
                refine wp_seq ?_
                refine region_s ?_
                refine q_look (look_move rfl rfl) ?_
                refine q_look (look_lss rfl rfl rfl rfl) ?_
                refine q_nil ?_
                rintro _ rfl
                refine then_normal ?_
                refine cond_split rfl (fun hc106 => ?_) (fun hc106 => ?_)
                · have hneg : now < 0 := nn_t hc106
                  have hno : ¬ ∃ r, wk g a r ∧ lastC a r = b := by
                    rintro ⟨r, r1, r2⟩
                    obtain ⟨v, v1, v2⟩ := hKn.cm r a 6 r1 hfa r2 (by omega)
                    have e9 : some now = some v := hnow.symm.trans v1.1
                    have := Option.some.inj e9; have := v1.2; omega
                  refine wp_seq ?_
                  refine region_s ?_
                  refine q_look (look_assign rfl rfl) ?_
                  refine q_look (look_assign rfl rfl) ?_
                  refine q_look (look_assign rfl rfl) ?_
                  refine q_nil ?_
                  rintro _ rfl
                  refine then_normal ?_
                  refine wp_ret ?_
                  refine then_ret ?_
                  exact res3 Try.results6 rfl rfl rfl ⟨_, [], _, _, rfl, hX, Own.nil _ _ _ _ _, by unfold PathS; rw [if_neg (fun h => h h0), if_neg (fun h => h hask), if_neg hbl]; exact .inr ⟨hno, rfl, rfl, rfl⟩⟩
                · have hpos : 0 ≤ now := by have := nn_f hc106; omega
                  have hLa : Lst g bend b a c0 now := hKn.lst hfa.1 (k := 6) (by omega) ⟨hnow, hpos⟩
                  have hAt : At2 g bend a b a 6 now [] := ⟨hfa, by omega, hLa, fun r hr => hr, rfl, by simp; omega⟩
                  refine wp_skip ?_
                  refine then_normal ?_
                  refine wp_seq ?_
                  refine wp_region_lit ?_
                  refine s_look (look_loadN Try.underlying26 rfl szTry_26 rfl rfl rfl (eqc_n hB2)) ?_
                  refine s_buildSlice (parts := [(0, .tmp 107)]) (vs := [(0, .agg (ccell a).toArray)]) (cells := ccell a) Try.underlying22 szTry_26 zeTry_26 rfl rfl ⟨⟨_, rfl, rfl⟩, trivial⟩ rfl (by kernel_rfl) ?_
                  intro g13 u13 hu13 hB13 hg13 hs13
                  have lt_g1_g13 : g1 < g13 := by have := hB1.lt; omega
                  have lt_g2_g13 : g2 < g13 := by have := hB2.lt; omega
                  have lt_g3_g13 : g3 < g13 := by have := hB3.lt; omega
                  have lt_g4_g13 : g4 < g13 := by have := hF.lt; omega
                  have lt_g6_g13 : g6 < g13 := by have := hB6.lt; omega
                  have lt_gc_g13 : gc < g13 := by have := hC.lt; omega
                  have ge_g13 : w.heap.size ≤ g13 := by have := hX.size; omega
                  replace hX := hX.comp hu13
                  replace hB1 := hB1.ext hu13
                  replace hB2 := hB2.ext hu13
                  replace hB3 := hB3.ext hu13
                  replace hF := hF.ext hu13
                  replace hB6 := hB6.ext hu13
                  replace hC := hC.ext hu13
                  have hO := Own.one (ce := ccell) (x := a) (base := w.heap.size) hB13 ge_g13 rfl
                  have ne_hO_g1 : Value.ownBlock (.slice (some ⟨g13, 0, none⟩) 1 1) ≠ some g1 := by simp [Value.ownBlock]; have := lt_g1_g13; omega
                  have ne_hO_g2 : Value.ownBlock (.slice (some ⟨g13, 0, none⟩) 1 1) ≠ some g2 := by simp [Value.ownBlock]; have := lt_g2_g13; omega
                  have ne_hO_g3 : Value.ownBlock (.slice (some ⟨g13, 0, none⟩) 1 1) ≠ some g3 := by simp [Value.ownBlock]; have := lt_g3_g13; omega
                  have ne_hO_g4 : Value.ownBlock (.slice (some ⟨g13, 0, none⟩) 1 1) ≠ some g4 := by simp [Value.ownBlock]; have := lt_g4_g13; omega
                  have ne_hO_g6 : Value.ownBlock (.slice (some ⟨g13, 0, none⟩) 1 1) ≠ some g6 := by simp [Value.ownBlock]; have := lt_g6_g13; omega
                  have ne_hO_gc : Value.ownBlock (.slice (some ⟨g13, 0, none⟩) 1 1) ≠ some gc := by simp [Value.ownBlock]; have := lt_gc_g13; omega
                  refine s_look (look_assign rfl rfl) ?_
                  refine s_nil ?_
                  refine then_normal ?_
                  refine wp_seq ?_
                  refine region_s ?_
                  refine q_look (look_assign rfl rfl) ?_
                  refine q_nil ?_
                  rintro _ rfl
                  refine then_normal ?_
                  refine wp_seq ?_
                  refine wp_region_lit ?_
                  refine s_call (vs := []) enTry_24 trivial (refways_any _) ?_
                  rintro _ u14 ⟨rfl, hc14⟩
                  refine ⟨_, rfl, ?_⟩
                  replace hX := hX.comp hc14
                  replace hB1 := hB1.ext hc14
                  replace hB2 := hB2.ext hc14
                  replace hB3 := hB3.ext hc14
                  replace hF := hF.ext hc14
                  replace hB6 := hB6.ext hc14
                  replace hC := hC.ext hc14
                  replace hO := hO.ext hc14
                  refine s_alloc zeTry_59 ?_
                  intro g15 u15 hu15 hB15 hg15 hs15
                  have lt_g1_g15 : g1 < g15 := by have := hB1.lt; omega
                  have lt_g2_g15 : g2 < g15 := by have := hB2.lt; omega
                  have lt_g3_g15 : g3 < g15 := by have := hB3.lt; omega
                  have lt_g4_g15 : g4 < g15 := by have := hF.lt; omega
                  have lt_g6_g15 : g6 < g15 := by have := hB6.lt; omega
                  have lt_gc_g15 : gc < g15 := by have := hC.lt; omega
                  have ne_hO_g15 : (Value.ownBlock (.slice (some ⟨g13, 0, none⟩) 1 1)) ≠ some g15 := hO.ne_new (by omega)
                  have ge_g15 : w.heap.size ≤ g15 := by have := hX.size; omega
                  replace hX := hX.comp hu15
                  replace hB1 := hB1.ext hu15
                  replace hB2 := hB2.ext hu15
                  replace hB3 := hB3.ext hu15
                  replace hF := hF.ext hu15
                  replace hB6 := hB6.ext hu15
                  replace hC := hC.ext hu15
                  replace hO := hO.ext hu15
                  refine s_store (v := .agg W18.toArray) szTry_59 W18_sz W18_one rfl rfl hB15 (by rw [W18_sz]; rfl) ?_
                  intro u16 hk16 hT16
                  replace hT16 : Blk u16 g15 59 W18 := hT16
                  replace hX := hX.kp hk16 (by omega)
                  replace hB1 := hB1.kp hk16 (by omega)
                  replace hB2 := hB2.kp hk16 (by omega)
                  replace hB3 := hB3.kp hk16 (by omega)
                  replace hF := hF.kp hk16 (by omega)
                  replace hB6 := hB6.kp hk16 (by omega)
                  replace hC := hC.kp hk16 (by omega)
                  replace hO := hO.kp hk16 ne_hO_g15
                  clear hB15
                  have hB15 := hT16
                  rw [W18_eq] at hB15
                  refine s_nil ?_
                  refine then_normal ?_
                  refine wp_seq ?_
                  refine wp_block ?_
                  refine loop_act (fun (ls : Cl × Nat × Int × List Cl × Nat × Nat) => [(3, .int .i64 bend), (4, .pointer (some ⟨g1, 0, none⟩)), (6, .pointer (some ⟨g3, 0, none⟩)), (12, .slice (some ⟨g4, 0, none⟩) M M), (14, .pointer (some ⟨g6, 0, none⟩)), (16, .int .i64 now), (17, .slice (some ⟨ls.2.2.2.2.1, 0, none⟩) (a :: ls.2.2.2.1).length ls.2.2.2.2.2), (18, .int .i64 (ls.2.1 : Int)), (19, .pointer (some ⟨g15, 0, none⟩))]) (fun ls w' => (Ext w w') ∧ (Blk w' g1 24 (gcell g)) ∧ (Blk w' g3 26 (ccell b)) ∧ (BR w.heap.size w' g4 bs) ∧ (Blk w' g6 56 (tcell g (.slice (some ⟨gc, 0, none⟩) N N))) ∧ (CR w.heap.size w' gc cs) ∧ (Blk w' g15 59 (ways.flatMap ccell)) ∧ (Core.Own ccell 26 3 w.heap.size w' (.slice (some ⟨ls.2.2.2.2.1, 0, none⟩) (a :: ls.2.2.2.1).length ls.2.2.2.2.2) (a :: ls.2.2.2.1)) ∧ (Value.ownBlock (.slice (some ⟨ls.2.2.2.2.1, 0, none⟩) (a :: ls.2.2.2.1).length ls.2.2.2.2.2) ≠ some g1) ∧ (Value.ownBlock (.slice (some ⟨ls.2.2.2.2.1, 0, none⟩) (a :: ls.2.2.2.1).length ls.2.2.2.2.2) ≠ some g3) ∧ (Value.ownBlock (.slice (some ⟨ls.2.2.2.2.1, 0, none⟩) (a :: ls.2.2.2.1).length ls.2.2.2.2.2) ≠ some g4) ∧ (Value.ownBlock (.slice (some ⟨ls.2.2.2.2.1, 0, none⟩) (a :: ls.2.2.2.1).length ls.2.2.2.2.2) ≠ some g6) ∧ (Value.ownBlock (.slice (some ⟨ls.2.2.2.2.1, 0, none⟩) (a :: ls.2.2.2.1).length ls.2.2.2.2.2) ≠ some gc) ∧ (Value.ownBlock (.slice (some ⟨ls.2.2.2.2.1, 0, none⟩) (a :: ls.2.2.2.1).length ls.2.2.2.2.2) ≠ some g15) ∧ (At2 g bend a b ls.1 ls.2.1 ls.2.2.1 ls.2.2.2.1)) (fun ls => ls.2.2.1.toNat) ((a, 6, now, [], g13, 1)) ?_ ?_ ?_
                  · exact ⟨rfl, rfl, rfl, rfl, rfl, rfl, rfl, rfl, rfl, trivial⟩
                  · exact ⟨hX, hB1, hB3, hF, hB6, hC, hB15, hO, ne_hO_g1, ne_hO_g3, ne_hO_g4, ne_hO_g6, ne_hO_gc, ne_hO_g15, hAt⟩
                  · rintro ⟨c, k, v, r1, go, co⟩ σ wr hF
                    obtain ⟨hX, hB1, hB3, hF, hB6, hC, hB15, hO, ne_hO_g1, ne_hO_g3, ne_hO_g4, ne_hO_g6, ne_hO_gc, ne_hO_g15, hAt⟩ : (Ext w wr) ∧ (Blk wr g1 24 (gcell g)) ∧ (Blk wr g3 26 (ccell b)) ∧ (BR w.heap.size wr g4 bs) ∧ (Blk wr g6 56 (tcell g (.slice (some ⟨gc, 0, none⟩) N N))) ∧ (CR w.heap.size wr gc cs) ∧ (Blk wr g15 59 (ways.flatMap ccell)) ∧ (Core.Own ccell 26 3 w.heap.size wr (.slice (some ⟨go, 0, none⟩) (a :: r1).length co) (a :: r1)) ∧ (Value.ownBlock (.slice (some ⟨go, 0, none⟩) (a :: r1).length co) ≠ some g1) ∧ (Value.ownBlock (.slice (some ⟨go, 0, none⟩) (a :: r1).length co) ≠ some g3) ∧ (Value.ownBlock (.slice (some ⟨go, 0, none⟩) (a :: r1).length co) ≠ some g4) ∧ (Value.ownBlock (.slice (some ⟨go, 0, none⟩) (a :: r1).length co) ≠ some g6) ∧ (Value.ownBlock (.slice (some ⟨go, 0, none⟩) (a :: r1).length co) ≠ some gc) ∧ (Value.ownBlock (.slice (some ⟨go, 0, none⟩) (a :: r1).length co) ≠ some g15) ∧ (At2 g bend a b c k v r1) := hF
                    show Code.wp _ _ _ (act 212 [(3, true, .int .i64 bend), (4, true, .pointer (some ⟨g1, 0, none⟩)), (6, true, .pointer (some ⟨g3, 0, none⟩)), (12, true, .slice (some ⟨g4, 0, none⟩) M M), (14, true, .pointer (some ⟨g6, 0, none⟩)), (16, true, .int .i64 now), (17, true, .slice (some ⟨go, 0, none⟩) (a :: r1).length co), (18, true, .int .i64 (k : Int)), (19, true, .pointer (some ⟨g15, 0, none⟩))] _) _
                    refine wp_seq ?_
                    refine wp_seq ?_
                    have hln := hAt.len
                    have hv0 := hAt.lst.1.nn hb.1
                    refine region_qd mixed (by kernel_rfl) ?_
                    refine q_look (look_move rfl rfl) ?_
                    refine q_look (look_move rfl rfl) ?_
                    refine q_look (look_len_slice Try.underlying22 rfl rfl) ?_
                    refine q_look (look_sub rfl rfl rfl rfl (by simp only [List.length_cons]; unfold I64; omega)) ?_
                    refine q_look (look_indexAddr r1.length Try.underlying22 szTry_26 rfl rfl rfl rfl (by simp only [List.length_cons]; omega) (by simp)) ?_
                    refine q_look (look_loadN Try.underlying26 rfl szTry_26 rfl rfl rfl (cs := ccell c) (extn (hO.rd hce_c r1.length c (by rw [lastC_get, hAt.end_])))) ?_
                    refine q_look (look_loadN Try.underlying26 rfl szTry_26 rfl rfl rfl (ext_cell_n hB3)) ?_
                    refine q_look (look_neq_flat Try.underlying26 stood35 guard35 rfl rfl rfl rfl (eqC _ _)) ?_
                    refine q_nil ?_
                    intro w5 hw5
                    replace hX := hX.comp hw5
                    replace hB1 := hB1.ext hw5
                    replace hB3 := hB3.ext hw5
                    replace hF := hF.ext hw5
                    replace hB6 := hB6.ext hw5
                    replace hC := hC.ext hw5
                    replace hB15 := hB15.ext hw5
                    replace hO := hO.ext hw5
                    refine then_normal ?_
                    refine cond_split rfl (fun hc117 => ?_) (fun hc117 => ?_)
                    · have hcb : c ≠ b := nd_t hc117
                      have hk7 := hAt.k7
                      have hkn := hKn.of hAt.fre hk7 hAt.lst
                      have hpc := plI_bd hAt.fre.1 (nat7 hk7)
                      refine wp_skip ?_
                      refine then_normal ?_
                      refine wp_block ?_
                      refine wp_seq ?_
                      refine wp_region_lit ?_
                      refine s_look (look_move rfl rfl) ?_
                      refine s_look (look_move rfl rfl) ?_
                      refine s_look (look_len_slice Try.underlying22 rfl rfl) ?_
                      refine s_look (look_sub rfl rfl rfl rfl (by simp only [List.length_cons]; unfold I64; omega)) ?_
                      refine s_look (look_indexAddr r1.length Try.underlying22 szTry_26 rfl rfl rfl rfl (by simp only [List.length_cons]; omega) (by simp)) ?_
                      refine s_look (look_loadN Try.underlying26 rfl szTry_26 rfl rfl rfl (cs := ccell c) (eqn (hO.rd hce_c r1.length c (by rw [lastC_get, hAt.end_])))) ?_
                      refine s_alloc zeTry_26 ?_
                      intro g17 u17 hu17 hB17 hg17 hs17
                      have lt_g1_g17 : g1 < g17 := by have := hB1.lt; omega
                      have lt_g3_g17 : g3 < g17 := by have := hB3.lt; omega
                      have lt_g4_g17 : g4 < g17 := by have := hF.lt; omega
                      have lt_g6_g17 : g6 < g17 := by have := hB6.lt; omega
                      have lt_gc_g17 : gc < g17 := by have := hC.lt; omega
                      have lt_g15_g17 : g15 < g17 := by have := hB15.lt; omega
                      have ne_hO_g17 : (Value.ownBlock (.slice (some ⟨go, 0, none⟩) (a :: r1).length co)) ≠ some g17 := hO.ne_new (by omega)
                      have ge_g17 : w.heap.size ≤ g17 := by have := hX.size; omega
                      replace hX := hX.comp hu17
                      replace hB1 := hB1.ext hu17
                      replace hB3 := hB3.ext hu17
                      replace hF := hF.ext hu17
                      replace hB6 := hB6.ext hu17
                      replace hC := hC.ext hu17
                      replace hB15 := hB15.ext hu17
                      replace hO := hO.ext hu17
                      refine s_store szTry_26 rfl (by simp [ccell, gcell, itcell, rcell, tcell, Value.cells, Value.oneCell']) rfl rfl hB17 rfl ?_
                      intro u18 hk18 hT18
                      replace hT18 : Blk u18 g17 26 (ccell c) := hT18
                      replace hX := hX.kp hk18 (by omega)
                      replace hB1 := hB1.kp hk18 (by omega)
                      replace hB3 := hB3.kp hk18 (by omega)
                      replace hF := hF.kp hk18 (by omega)
                      replace hB6 := hB6.kp hk18 (by omega)
                      replace hC := hC.kp hk18 (by omega)
                      replace hB15 := hB15.kp hk18 (by omega)
                      replace hO := hO.kp hk18 ne_hO_g17
                      clear hB17
                      have hB17 := hT18
                      refine s_nil ?_
                      refine then_normal ?_
                      refine wp_seq ?_
                      refine region_qd mixed (by kernel_rfl) ?_
                      refine q_look (look_fieldAddr Try.underlying56 rfl (fun _ _ => rfl) rfl rfl) ?_
                      refine q_look (look_load1 Try.underlying37 rfl rfl rfl (ext_cell (hB6.cell rfl))) ?_
                      refine q_look (look_loadN Try.underlying56 rfl szTry_56 rfl rfl rfl (ext_cell_n hB6)) ?_
                      refine q_look (look_loadN Try.underlying26 rfl szTry_26 rfl rfl rfl (ext_cell_n hB17)) ?_
                      refine q_look (look_move rfl rfl) ?_
                      refine q_call (vs := [_, _, _]) enTry_22 ⟨⟨_, rfl, rfl⟩, ⟨_, rfl, rfl⟩, ⟨_, rfl, rfl⟩, trivial⟩ (fun wc hw => cext hw (place_any g (.slice (some ⟨gc, 0, none⟩) N N) c (k : Int) wc hs hAt.fre.1 (nat7 hk7))) ?_
                      refine q_look (look_indexAddr (plI g c (k : Int)).toNat Try.underlying37 szTry_3 rfl rfl rfl rfl (by omega) (by omega)) ?_
                      refine q_look (look_load1 Try.underlying3 rfl rfl rfl (ext_cell ((hC.rd (plI g c (k : Int)).toNat v hkn.1) 0 _ rfl))) ?_
                      refine q_look (look_assign rfl rfl) ?_
                      refine q_nil ?_
                      intro w6 hw6
                      replace hX := hX.comp hw6
                      replace hB1 := hB1.ext hw6
                      replace hB3 := hB3.ext hw6
                      replace hF := hF.ext hw6
                      replace hB6 := hB6.ext hw6
                      replace hC := hC.ext hw6
                      replace hB15 := hB15.ext hw6
                      replace hB17 := hB17.ext hw6
                      replace hO := hO.ext hw6
                      refine then_normal ?_
                      refine wp_seq ?_
                      refine region_s ?_
                      refine q_look (look_assign rfl rfl) ?_
                      refine q_nil ?_
                      rintro _ rfl
                      refine then_normal ?_
                      refine wp_block ?_
                      refine loop_act (fun (j : Nat) => [(3, .int .i64 bend), (4, .pointer (some ⟨g1, 0, none⟩)), (6, .pointer (some ⟨g3, 0, none⟩)), (12, .slice (some ⟨g4, 0, none⟩) M M), (14, .pointer (some ⟨g6, 0, none⟩)), (16, .int .i64 now), (17, .slice (some ⟨go, 0, none⟩) (a :: r1).length co), (18, .int .i64 (k : Int)), (19, .pointer (some ⟨g15, 0, none⟩)), (20, .pointer (some ⟨g17, 0, none⟩)), (21, .int .i64 v), (22, .int .i64 (j : Int))]) (fun j w' => (Ext w w') ∧ (Blk w' g1 24 (gcell g)) ∧ (Blk w' g3 26 (ccell b)) ∧ (BR w.heap.size w' g4 bs) ∧ (Blk w' g6 56 (tcell g (.slice (some ⟨gc, 0, none⟩) N N))) ∧ (CR w.heap.size w' gc cs) ∧ (Blk w' g15 59 (ways.flatMap ccell)) ∧ (Core.Own ccell 26 3 w.heap.size w' (.slice (some ⟨go, 0, none⟩) (a :: r1).length co) (a :: r1)) ∧ (Value.ownBlock (.slice (some ⟨go, 0, none⟩) (a :: r1).length co) ≠ some g1) ∧ (Value.ownBlock (.slice (some ⟨go, 0, none⟩) (a :: r1).length co) ≠ some g3) ∧ (Value.ownBlock (.slice (some ⟨go, 0, none⟩) (a :: r1).length co) ≠ some g4) ∧ (Value.ownBlock (.slice (some ⟨go, 0, none⟩) (a :: r1).length co) ≠ some g6) ∧ (Value.ownBlock (.slice (some ⟨go, 0, none⟩) (a :: r1).length co) ≠ some gc) ∧ (Value.ownBlock (.slice (some ⟨go, 0, none⟩) (a :: r1).length co) ≠ some g15) ∧ (Blk w' g17 26 (ccell c)) ∧ (Value.ownBlock (.slice (some ⟨go, 0, none⟩) (a :: r1).length co) ≠ some g17) ∧ (j ≤ 6) ∧ (∀ j', j' < j → ∀ k', Fre g (cadd c (dk j')) → Lst g bend b (cadd c (dk j')) (dk j') k' → k' + stepP bend (dk k) (dk j') ≠ v)) (fun j => 6 - j) (0) ?_ ?_ ?_
                      · exact ⟨rfl, rfl, rfl, rfl, rfl, rfl, rfl, rfl, rfl, rfl, rfl, rfl, trivial⟩
                      · exact ⟨hX, hB1, hB3, hF, hB6, hC, hB15, hO, ne_hO_g1, ne_hO_g3, ne_hO_g4, ne_hO_g6, ne_hO_gc, ne_hO_g15, hB17, ne_hO_g17, Nat.zero_le _, fun j' h => absurd h (Nat.not_lt_zero j')⟩
                      · rintro j σ wr hF
                        obtain ⟨hX, hB1, hB3, hF, hB6, hC, hB15, hO, ne_hO_g1, ne_hO_g3, ne_hO_g4, ne_hO_g6, ne_hO_gc, ne_hO_g15, hB17, ne_hO_g17, hj, hno⟩ : (Ext w wr) ∧ (Blk wr g1 24 (gcell g)) ∧ (Blk wr g3 26 (ccell b)) ∧ (BR w.heap.size wr g4 bs) ∧ (Blk wr g6 56 (tcell g (.slice (some ⟨gc, 0, none⟩) N N))) ∧ (CR w.heap.size wr gc cs) ∧ (Blk wr g15 59 (ways.flatMap ccell)) ∧ (Core.Own ccell 26 3 w.heap.size wr (.slice (some ⟨go, 0, none⟩) (a :: r1).length co) (a :: r1)) ∧ (Value.ownBlock (.slice (some ⟨go, 0, none⟩) (a :: r1).length co) ≠ some g1) ∧ (Value.ownBlock (.slice (some ⟨go, 0, none⟩) (a :: r1).length co) ≠ some g3) ∧ (Value.ownBlock (.slice (some ⟨go, 0, none⟩) (a :: r1).length co) ≠ some g4) ∧ (Value.ownBlock (.slice (some ⟨go, 0, none⟩) (a :: r1).length co) ≠ some g6) ∧ (Value.ownBlock (.slice (some ⟨go, 0, none⟩) (a :: r1).length co) ≠ some gc) ∧ (Value.ownBlock (.slice (some ⟨go, 0, none⟩) (a :: r1).length co) ≠ some g15) ∧ (Blk wr g17 26 (ccell c)) ∧ (Value.ownBlock (.slice (some ⟨go, 0, none⟩) (a :: r1).length co) ≠ some g17) ∧ (j ≤ 6) ∧ (∀ j', j' < j → ∀ k', Fre g (cadd c (dk j')) → Lst g bend b (cadd c (dk j')) (dk j') k' → k' + stepP bend (dk k) (dk j') ≠ v) := hF
                        show Code.wp _ _ _ (act 212 [(3, true, .int .i64 bend), (4, true, .pointer (some ⟨g1, 0, none⟩)), (6, true, .pointer (some ⟨g3, 0, none⟩)), (12, true, .slice (some ⟨g4, 0, none⟩) M M), (14, true, .pointer (some ⟨g6, 0, none⟩)), (16, true, .int .i64 now), (17, true, .slice (some ⟨go, 0, none⟩) (a :: r1).length co), (18, true, .int .i64 (k : Int)), (19, true, .pointer (some ⟨g15, 0, none⟩)), (20, true, .pointer (some ⟨g17, 0, none⟩)), (21, true, .int .i64 v), (22, true, .int .i64 (j : Int))] _) _
                        refine wp_seq ?_
                        refine wp_seq ?_
                        refine region_s ?_
                        refine q_look (look_move rfl rfl) ?_
                        refine q_look (look_lss rfl rfl rfl rfl) ?_
                        refine q_nil ?_
                        rintro _ rfl
                        refine then_normal ?_
                        refine cond_split rfl (fun hc133 => ?_) (fun hc133 => ?_)
                        · have hj6 : j < 6 := by have := nn_t hc133; omega
                          have hdw := dk_way hj6
                          have h24 := inB_24 hs hAt.fre.1
                          obtain ⟨t, ht⟩ : ∃ t, t = cadd c (dk j) := ⟨_, rfl⟩
                          obtain ⟨u, hu⟩ : ∃ u, u = dk j := ⟨_, rfl⟩
                          have hdu : ways[j]? = some u := hu ▸ hdw.2
                          have hw1 := way_one.1 (mem_get hdu)
                          refine wp_skip ?_
                          refine then_normal ?_
                          refine wp_seq ?_
                          refine wp_block ?_
                          refine wp_seq ?_
                          refine region_h (fun W => Blk W g17 26 (ccell c) ∧ Blk W g15 59 (ways.flatMap ccell)) [(0, true), (1, true), (2, true), (3, true), (4, true), (5, true), (6, true), (7, true), (8, true), (9, true), (10, true), (11, true), (12, true), (13, true), (14, true), (15, true), (16, true), (17, true), (18, true), (19, true), (20, true), (21, true), (22, false), (23, false)] mixed (by kernel_rfl) rfl (by kernel_rfl) (by repeat (first | exact pk_body | refine pk_then ?_ | refine pk_block ?_))  ?_
                          intro u19 hR19
                          replace hX := hX.comp hR19
                          replace hB1 := hB1.ext hR19
                          replace hB3 := hB3.ext hR19
                          replace hF := hF.ext hR19
                          replace hB6 := hB6.ext hR19
                          replace hC := hC.ext hR19
                          replace hB15 := hB15.ext hR19
                          replace hB17 := hB17.ext hR19
                          replace hO := hO.ext hR19
                          refine ⟨⟨hB17, hB15⟩, ?_⟩
                          refine h_look rfl (look_fieldAddr Try.underlying26 rfl (fun _ _ => rfl) rfl rfl) ?_
                          refine h_look rfl (look_load1 Try.underlying3 rfl rfl rfl (fun w' hS => (hS.1).cell rfl)) ?_
                          refine h_look rfl (look_move rfl rfl) ?_
                          refine h_look rfl (look_indexAddr_arr j Try.underlying59 szTry_26 rfl rfl rfl rfl rfl (by omega)) ?_
                          refine h_look rfl (look_fieldAddr Try.underlying26 rfl (fun _ _ => rfl) rfl rfl) ?_
                          refine h_look rfl (look_load1 Try.underlying3 rfl rfl rfl (fun w' hS => ((Blk.sl hce_c hS.2).rd j u hdu) _ _ rfl)) ?_
                          refine h_look rfl (look_add rfl rfl rfl rfl (by unfold I64; omega)) ?_
                          refine h_look rfl (look_fieldAddr Try.underlying26 rfl (fun _ _ => rfl) rfl rfl) ?_
                          refine h_look rfl (look_load1 Try.underlying3 rfl rfl rfl (fun w' hS => (hS.1).cell rfl)) ?_
                          refine h_look rfl (look_move rfl rfl) ?_
                          refine h_look rfl (look_indexAddr_arr j Try.underlying59 szTry_26 rfl rfl rfl rfl rfl (by omega)) ?_
                          refine h_look rfl (look_fieldAddr Try.underlying26 rfl (fun _ _ => rfl) rfl rfl) ?_
                          refine h_look rfl (look_load1 Try.underlying3 rfl rfl rfl (fun w' hS => ((Blk.sl hce_c hS.2).rd j u hdu) _ _ rfl)) ?_
                          refine h_look rfl (look_add rfl rfl rfl rfl (by unfold I64; omega)) ?_
                          refine h_look rfl (look_fieldAddr Try.underlying26 rfl (fun _ _ => rfl) rfl rfl) ?_
                          refine h_look rfl (look_load1 Try.underlying3 rfl rfl rfl (fun w' hS => (hS.1).cell rfl)) ?_
                          refine h_look rfl (look_move rfl rfl) ?_
                          refine h_look rfl (look_indexAddr_arr j Try.underlying59 szTry_26 rfl rfl rfl rfl rfl (by omega)) ?_
                          refine h_look rfl (look_fieldAddr Try.underlying26 rfl (fun _ _ => rfl) rfl rfl) ?_
                          refine h_look rfl (look_load1 Try.underlying3 rfl rfl rfl (fun w' hS => ((Blk.sl hce_c hS.2).rd j u hdu) _ _ rfl)) ?_
                          refine h_look rfl (look_add rfl rfl rfl rfl (by unfold I64; omega)) ?_
                          refine h_look rfl (look_build (pl := [(0, 1), (1, 1), (2, 1)]) (parts := [(0, .tmp 142), (1, .tmp 149), (2, .tmp 156)]) (vs := [(0, .int .i64 (c.x + u.x)), (1, .int .i64 (c.y + u.y)), (2, .int .i64 (c.z + u.z))]) (cells := ccell (cadd c u)) Try.underlying26 zeTry_26 (by kernel_rfl) ⟨⟨_, rfl, rfl⟩, ⟨_, rfl, rfl⟩, ⟨_, rfl, rfl⟩, trivial⟩ rfl (by kernel_rfl)) ?_
                          refine h_seq rfl ?_ ⟨hB17, hB15⟩
                          refine s_alloc zeTry_26 ?_
                          intro g20 u20 hu20 hB20 hg20 hs20
                          have lt_g1_g20 : g1 < g20 := by have := hB1.lt; omega
                          have lt_g3_g20 : g3 < g20 := by have := hB3.lt; omega
                          have lt_g4_g20 : g4 < g20 := by have := hF.lt; omega
                          have lt_g6_g20 : g6 < g20 := by have := hB6.lt; omega
                          have lt_gc_g20 : gc < g20 := by have := hC.lt; omega
                          have lt_g15_g20 : g15 < g20 := by have := hB15.lt; omega
                          have lt_g17_g20 : g17 < g20 := by have := hB17.lt; omega
                          have ne_hO_g20 : (Value.ownBlock (.slice (some ⟨go, 0, none⟩) (a :: r1).length co)) ≠ some g20 := hO.ne_new (by omega)
                          have ge_g20 : w.heap.size ≤ g20 := by have := hX.size; omega
                          replace hX := hX.comp hu20
                          replace hB1 := hB1.ext hu20
                          replace hB3 := hB3.ext hu20
                          replace hF := hF.ext hu20
                          replace hB6 := hB6.ext hu20
                          replace hC := hC.ext hu20
                          replace hB15 := hB15.ext hu20
                          replace hB17 := hB17.ext hu20
                          replace hO := hO.ext hu20
                          refine s_nil ?_
                          refine then_normal ?_
                          refine ⟨⟨hB17, hB15⟩, ?_⟩
                          refine h_seq rfl ?_ ⟨hB17, hB15⟩
                          refine s_store szTry_26 rfl (by simp [ccell, gcell, itcell, rcell, tcell, Value.cells, Value.oneCell']) rfl rfl hB20 rfl ?_
                          intro u21 hk21 hT21
                          replace hT21 : Blk u21 g20 26 (ccell (cadd c u)) := hT21
                          replace hX := hX.kp hk21 (by omega)
                          replace hB1 := hB1.kp hk21 (by omega)
                          replace hB3 := hB3.kp hk21 (by omega)
                          replace hF := hF.kp hk21 (by omega)
                          replace hB6 := hB6.kp hk21 (by omega)
                          replace hC := hC.kp hk21 (by omega)
                          replace hB15 := hB15.kp hk21 (by omega)
                          replace hB17 := hB17.kp hk21 (by omega)
                          replace hO := hO.kp hk21 ne_hO_g20
                          clear hB20
                          have hB20 := hT21
                          refine s_nil ?_
                          refine then_normal ?_
                          refine ⟨⟨hB17, hB15⟩, ?_⟩
                          refine h_nil ?_
                          rw [hu, ← ht] at hB20
                          refine then_normal ?_
                          refine wp_seq ?_
                          refine region_s ?_
                          refine q_look (look_assign rfl rfl) ?_
                          refine q_nil ?_
                          rintro _ rfl
                          refine then_normal ?_
                          refine wp_seq ?_
                          refine wp_seq ?_
                          refine region_s ?_
                          refine q_look (look_move rfl rfl) ?_
                          refine q_look (look_lss rfl rfl rfl rfl) ?_
                          refine q_look (look_move rfl rfl) ?_
                          refine q_lookg rfl rfl rfl (fun hq => look_move rfl rfl) ?_
                          refine q_lookg rfl rfl rfl (fun hq => look_move rfl rfl) ?_
                          refine q_lookg rfl rfl rfl (fun hq => look_neq rfl hq rfl hq) ?_
                          refine q_look (look_and rfl rfl rfl rfl) ?_
                          refine q_nil ?_
                          rintro _ rfl
                          refine then_normal ?_
                          refine cond_split rfl (fun hc164 => ?_) (fun hc164 => ?_)
                          · have hst := step_t (bend := bend) hc164 hk7 hj6
                            refine region_s ?_
                            refine q_look (look_move rfl rfl) ?_
                            refine q_look (look_move rfl rfl) ?_
                            refine q_look (look_add rfl rfl rfl rfl (by unfold I64; omega)) ?_
                            refine q_look (look_assign rfl rfl) ?_
                            refine q_nil ?_
                            rintro _ rfl
                            refine then_normal ?_
                            refine wp_seq ?_
                            refine region_qd mixed (by kernel_rfl) ?_
                            refine q_look (look_loadN Try.underlying24 rfl szTry_24 rfl rfl rfl (ext_cell_n hB1)) ?_
                            refine q_look (look_loadN Try.underlying26 rfl szTry_26 rfl rfl rfl (ext_cell_n hB20)) ?_
                            refine q_call (vs := [_, _]) enTry_14 ⟨⟨_, rfl, rfl⟩, ⟨_, rfl, rfl⟩, trivial⟩ (fun wc hw => cext hw (refin_any g t wc)) ?_
                            refine q_look (look_move rfl rfl) ?_
                            refine q_lookg rfl rfl rfl (fun hq => look_move rfl rfl) ?_
                            refine q_lookg rfl rfl rfl (fun hq => look_loadN Try.underlying56 rfl szTry_56 rfl rfl rfl (ext_cell_n hB6)) ?_
                            refine q_lookg rfl rfl rfl (fun hq => look_loadN Try.underlying26 rfl szTry_26 rfl rfl rfl (ext_cell_n hB20)) ?_
                            refine q_callg (vs := [_, _, _]) rfl rfl rfl enTry_22 (fun hq => ⟨⟨_, rfl, hq⟩, ⟨_, rfl, hq⟩, ⟨_, rfl, rfl⟩, trivial⟩) (fun hq wc hw => cext hw (place_any g (.slice (some ⟨gc, 0, none⟩) N N) t 0 wc hs (gq_t hq) (by omega))) ?_
                            refine q_lookg rfl rfl rfl (fun hq => Look.as (look_quo rfl hq rfl rfl (plI_bd (gq_t hq) (by omega)).1 (by have h8 : plI g t 0 < g.nx * g.ny * g.nz * 7 := (plI_bd (gq_t hq) (by omega)).2; omega) (by omega)) (v' := .int .i64 (plK g t)) (by rw [(plI_dec (k := 0) (gq_t hq) (by omega)).2.1])) ?_
                            refine q_lookg rfl rfl rfl (fun hq => look_indexAddr (plK g t).toNat Try.underlying54 szTry_4 rfl hq rfl hq (by have := plK_bd (gq_t hq); omega) (by have := plK_bd (gq_t hq); omega)) ?_
                            refine q_lookg rfl rfl rfl (fun hq => look_load1 Try.underlying4 rfl rfl hq (ext_cell ((hF.rd (plK g t).toNat (!decide (t ∈ g.bl)) (hfs t (gq_t hq))) 0 _ rfl))) ?_
                            refine q_look (look_and rfl rfl rfl rfl) ?_
                            refine q_look (look_move rfl rfl) ?_
                            refine q_lookg rfl rfl rfl (fun hq => look_fieldAddr Try.underlying56 rfl (fun _ _ => rfl) rfl rfl) ?_
                            refine q_lookg rfl rfl rfl (fun hq => look_load1 Try.underlying37 rfl rfl hq (ext_cell (hB6.cell rfl))) ?_
                            refine q_lookg rfl rfl rfl (fun hq => look_loadN Try.underlying56 rfl szTry_56 rfl rfl rfl (ext_cell_n hB6)) ?_
                            refine q_lookg rfl rfl rfl (fun hq => look_loadN Try.underlying26 rfl szTry_26 rfl rfl rfl (ext_cell_n hB20)) ?_
                            refine q_lookg rfl rfl rfl (fun hq => look_move rfl rfl) ?_
                            refine q_callg (vs := [_, _, _]) rfl rfl rfl enTry_22 (fun hq => ⟨⟨_, rfl, hq⟩, ⟨_, rfl, hq⟩, ⟨_, rfl, hq⟩, trivial⟩) (fun hq wc hw => cext hw (place_any g (.slice (some ⟨gc, 0, none⟩) N N) t (j : Int) wc hs (fre_of hq).1 (by omega))) ?_
                            refine q_lookg rfl rfl rfl (fun hq => look_indexAddr (plI g t (j : Int)).toNat Try.underlying37 szTry_3 rfl hq rfl hq (by have := plI_bd (fre_of hq).1 (nat7 (show j < 7 by omega)); omega) (by have := plI_bd (fre_of hq).1 (nat7 (show j < 7 by omega)); omega)) ?_
                            refine q_lookg rfl rfl rfl (fun hq => look_load1 Try.underlying3 rfl rfl hq (ext_cell ((hC.rd (plI g t (j : Int)).toNat (cAt g cs t j) (cAt_get hKn.len (fre_of hq).1 (by omega))) 0 _ rfl))) ?_
                            refine q_lookg rfl rfl rfl (fun hq => look_geq rfl hq rfl rfl) ?_
                            refine q_look (look_and rfl rfl rfl rfl) ?_
                            refine q_look (look_move rfl rfl) ?_
                            refine q_lookg rfl rfl rfl (fun hq => look_fieldAddr Try.underlying56 rfl (fun _ _ => rfl) rfl rfl) ?_
                            refine q_lookg rfl rfl rfl (fun hq => look_load1 Try.underlying37 rfl rfl hq (ext_cell (hB6.cell rfl))) ?_
                            refine q_lookg rfl rfl rfl (fun hq => look_loadN Try.underlying56 rfl szTry_56 rfl rfl rfl (ext_cell_n hB6)) ?_
                            refine q_lookg rfl rfl rfl (fun hq => look_loadN Try.underlying26 rfl szTry_26 rfl rfl rfl (ext_cell_n hB20)) ?_
                            refine q_lookg rfl rfl rfl (fun hq => look_move rfl rfl) ?_
                            refine q_callg (vs := [_, _, _]) rfl rfl rfl enTry_22 (fun hq => ⟨⟨_, rfl, hq⟩, ⟨_, rfl, hq⟩, ⟨_, rfl, hq⟩, trivial⟩) (fun hq wc hw => cext hw (place_any g (.slice (some ⟨gc, 0, none⟩) N N) t (j : Int) wc hs (fre_of2 hq).1 (by omega))) ?_
                            refine q_lookg rfl rfl rfl (fun hq => look_indexAddr (plI g t (j : Int)).toNat Try.underlying37 szTry_3 rfl hq rfl hq (by have := plI_bd (fre_of2 hq).1 (nat7 (show j < 7 by omega)); omega) (by have := plI_bd (fre_of2 hq).1 (nat7 (show j < 7 by omega)); omega)) ?_
                            refine q_lookg rfl rfl rfl (fun hq => look_load1 Try.underlying3 rfl rfl hq (ext_cell ((hC.rd (plI g t (j : Int)).toNat (cAt g cs t j) (cAt_get hKn.len (fre_of2 hq).1 (by omega))) 0 _ rfl))) ?_
                            refine q_lookg rfl rfl rfl (fun hq => look_move rfl rfl) ?_
                            refine q_lookg rfl rfl rfl (fun hq => look_add rfl hq rfl hq (by have h8 := cAt_get hKn.len (fre_of2 hq).1 (show j < 7 by omega); have h9 := hvb _ _ h8; have h10 := hKn.val _ _ h8; unfold I64; omega)) ?_
                            refine q_lookg rfl rfl rfl (fun hq => look_move rfl rfl) ?_
                            refine q_lookg rfl rfl rfl (fun hq => look_eql rfl hq rfl hq) ?_
                            refine q_look (look_and rfl rfl rfl rfl) ?_
                            refine q_nil ?_
                            intro w7 hw7
                            replace hX := hX.comp hw7
                            replace hB1 := hB1.ext hw7
                            replace hB3 := hB3.ext hw7
                            replace hF := hF.ext hw7
                            replace hB6 := hB6.ext hw7
                            replace hC := hC.ext hw7
                            replace hB15 := hB15.ext hw7
                            replace hB17 := hB17.ext hw7
                            replace hB20 := hB20.ext hw7
                            replace hO := hO.ext hw7
                            refine then_normal ?_
                            refine cond_split rfl (fun hc204 => ?_) (fun hc204 => ?_)
                            · obtain ⟨htf, hx0, hxe⟩ := cand_t (cs := cs) (j := j) hc204
                              rw [← hst] at hxe
                              have hkt : kn g cs t j (cAt g cs t j) := ⟨cAt_get hKn.len htf.1 (by omega), hx0⟩
                              have hlt := hKn.lst htf.1 (by omega) hkt
                              obtain ⟨kk, hkk⟩ : ∃ kk, kk = (cAt g cs t j) := ⟨_, rfl⟩
                              rw [← hkk] at hxe hlt hx0
                              rw [ht] at htf hlt
                              have hNx := hAt.next hb.1 hcb hj6 htf hlt hxe hno
                              have hsb := stepP_bd hb.1 (dk k) (dk j)
                              refine wp_seq ?_
                              refine wp_region_lit ?_
                              refine s_look (look_move rfl rfl) ?_
                              refine s_look (look_loadN Try.underlying26 rfl szTry_26 rfl rfl rfl (eqc_n hB20)) ?_
                              refine s_buildSlice (parts := [(0, .tmp 206)]) (vs := [(0, .agg (ccell t).toArray)]) (cells := ccell t) Try.underlying22 szTry_26 zeTry_26 rfl rfl ⟨⟨_, rfl, rfl⟩, trivial⟩ rfl (by kernel_rfl) ?_
                              intro g22 u22 hu22 hB22 hg22 hs22
                              have lt_g1_g22 : g1 < g22 := by have := hB1.lt; omega
                              have lt_g3_g22 : g3 < g22 := by have := hB3.lt; omega
                              have lt_g4_g22 : g4 < g22 := by have := hF.lt; omega
                              have lt_g6_g22 : g6 < g22 := by have := hB6.lt; omega
                              have lt_gc_g22 : gc < g22 := by have := hC.lt; omega
                              have lt_g15_g22 : g15 < g22 := by have := hB15.lt; omega
                              have lt_g17_g22 : g17 < g22 := by have := hB17.lt; omega
                              have lt_g20_g22 : g20 < g22 := by have := hB20.lt; omega
                              have ne_hO_g22 : (Value.ownBlock (.slice (some ⟨go, 0, none⟩) (a :: r1).length co)) ≠ some g22 := hO.ne_new (by omega)
                              have ge_g22 : w.heap.size ≤ g22 := by have := hX.size; omega
                              replace hX := hX.comp hu22
                              replace hB1 := hB1.ext hu22
                              replace hB3 := hB3.ext hu22
                              replace hF := hF.ext hu22
                              replace hB6 := hB6.ext hu22
                              replace hC := hC.ext hu22
                              replace hB15 := hB15.ext hu22
                              replace hB17 := hB17.ext hu22
                              replace hB20 := hB20.ext hu22
                              replace hO := hO.ext hu22
                              have hsz23 := hX.size
                              refine s_appendL (ce := ccell) (news := [t]) Try.underlying22 zsbTry_26 rfl rfl rfl hO rfl (Blk.src (x := t) rfl (by simp [ccell, Value.oneCell']) hB22) (by have := maxLen_is; simp only [List.length_cons, List.length_nil]; omega) (by simp only [List.length_cons, List.length_nil]; omega) (by omega) ?_
                              intro v23 u23 hN23 hgr23 hat23
                              replace hX := hX.grow hO (Nat.le_refl _) hgr23
                              have hn_hB1 := hB1.grown hgr23 ne_hO_g1
                              have hn_hB3 := hB3.grown hgr23 ne_hO_g3
                              have hn_hF := hF.grown hgr23 ne_hO_g4
                              have hn_hB6 := hB6.grown hgr23 ne_hO_g6
                              have hn_hC := hC.grown hgr23 ne_hO_gc
                              have hn_hB15 := hB15.grown hgr23 ne_hO_g15
                              have hn_hB17 := hB17.grown hgr23 ne_hO_g17
                              have hn_hB20 := hB20.grown hgr23 ne_hO_g20
                              replace ne_hO_g1 := ne_app ne_hO_g1 hB1.lt hat23
                              replace ne_hO_g3 := ne_app ne_hO_g3 hB3.lt hat23
                              replace ne_hO_g4 := ne_app ne_hO_g4 hF.lt hat23
                              replace ne_hO_g6 := ne_app ne_hO_g6 hB6.lt hat23
                              replace ne_hO_gc := ne_app ne_hO_gc hC.lt hat23
                              replace ne_hO_g15 := ne_app ne_hO_g15 hB15.lt hat23
                              replace ne_hO_g17 := ne_app ne_hO_g17 hB17.lt hat23
                              replace ne_hO_g20 := ne_app ne_hO_g20 hB20.lt hat23
                              clear hB1
                              have hB1 := hn_hB1
                              clear hn_hB1
                              clear hB3
                              have hB3 := hn_hB3
                              clear hn_hB3
                              clear hF
                              have hF := hn_hF
                              clear hn_hF
                              clear hB6
                              have hB6 := hn_hB6
                              clear hn_hB6
                              clear hC
                              have hC := hn_hC
                              clear hn_hC
                              clear hB15
                              have hB15 := hn_hB15
                              clear hn_hB15
                              clear hB17
                              have hB17 := hn_hB17
                              clear hn_hB17
                              clear hB20
                              have hB20 := hn_hB20
                              clear hn_hB20
                              clear hO
                              have hO := hN23
                              rw [ht] at hO
                              obtain ⟨A24, co24, rfl, _⟩ := hO.sl hce_c
                              obtain ⟨go24, rfl⟩ := own_some hO (by simp)
                              refine s_look (look_assign rfl rfl) ?_
                              refine s_nil ?_
                              refine then_normal ?_
                              refine wp_seq ?_
                              refine region_s ?_
                              refine q_look (look_move rfl rfl) ?_
                              refine q_look (look_assign rfl rfl) ?_
                              refine q_nil ?_
                              rintro _ rfl
                              refine then_normal ?_
                              refine wp_exit ?_
                              refine inB_exit_other rfl ?_
                              refine then_exit ?_
                              refine then_exit ?_
                              refine inB_exit_same ?_
                              refine inB_normal ?_
                              exact loop_end ((cadd c (dk j), j, kk, r1 ++ [cadd c (dk j)], go24, co24)) (by show kk.toNat < v.toNat; omega) ⟨rfl, rfl, rfl, rfl, rfl, rfl, rfl, rfl, rfl, trivial⟩ ⟨hX, hB1, hB3, hF, hB6, hC, hB15, hO, ne_hO_g1, ne_hO_g3, ne_hO_g4, ne_hO_g6, ne_hO_gc, ne_hO_g15, hNx⟩
                            · have hcf : Fre g (cadd c (dk j)) → 0 ≤ cAt g cs (cadd c (dk j)) j → cAt g cs (cadd c (dk j)) j + stepP bend (dk k) (dk j) ≠ v := by rw [← ht, hst]; exact cand_f hc204
                              refine wp_skip ?_
                              refine inB_normal ?_
                              refine then_normal ?_
                              refine region_s ?_
                              refine q_look (look_move rfl rfl) ?_
                              refine q_look (look_add rfl rfl rfl rfl (by unfold I64; omega)) ?_
                              refine q_look (look_assign rfl rfl) ?_
                              refine q_nil ?_
                              rintro _ rfl
                              exact loop_end (j + 1) (by omega) ⟨rfl, rfl, rfl, rfl, rfl, rfl, rfl, rfl, rfl, rfl, rfl, rfl, trivial⟩ ⟨hX, hB1, hB3, hF, hB6, hC, hB15, hO, ne_hO_g1, ne_hO_g3, ne_hO_g4, ne_hO_g6, ne_hO_gc, ne_hO_g15, hB17, ne_hO_g17, by omega, no_next hKn hno hj6 hcf⟩
                          · have hst := step_f (bend := bend) hc164 hk7 hj6
                            refine wp_skip ?_
                            refine then_normal ?_
                            refine wp_seq ?_
                            refine region_qd mixed (by kernel_rfl) ?_
                            refine q_look (look_loadN Try.underlying24 rfl szTry_24 rfl rfl rfl (ext_cell_n hB1)) ?_
                            refine q_look (look_loadN Try.underlying26 rfl szTry_26 rfl rfl rfl (ext_cell_n hB20)) ?_
                            refine q_call (vs := [_, _]) enTry_14 ⟨⟨_, rfl, rfl⟩, ⟨_, rfl, rfl⟩, trivial⟩ (fun wc hw => cext hw (refin_any g t wc)) ?_
                            refine q_look (look_move rfl rfl) ?_
                            refine q_lookg rfl rfl rfl (fun hq => look_move rfl rfl) ?_
                            refine q_lookg rfl rfl rfl (fun hq => look_loadN Try.underlying56 rfl szTry_56 rfl rfl rfl (ext_cell_n hB6)) ?_
                            refine q_lookg rfl rfl rfl (fun hq => look_loadN Try.underlying26 rfl szTry_26 rfl rfl rfl (ext_cell_n hB20)) ?_
                            refine q_callg (vs := [_, _, _]) rfl rfl rfl enTry_22 (fun hq => ⟨⟨_, rfl, hq⟩, ⟨_, rfl, hq⟩, ⟨_, rfl, rfl⟩, trivial⟩) (fun hq wc hw => cext hw (place_any g (.slice (some ⟨gc, 0, none⟩) N N) t 0 wc hs (gq_t hq) (by omega))) ?_
                            refine q_lookg rfl rfl rfl (fun hq => Look.as (look_quo rfl hq rfl rfl (plI_bd (gq_t hq) (by omega)).1 (by have h8 : plI g t 0 < g.nx * g.ny * g.nz * 7 := (plI_bd (gq_t hq) (by omega)).2; omega) (by omega)) (v' := .int .i64 (plK g t)) (by rw [(plI_dec (k := 0) (gq_t hq) (by omega)).2.1])) ?_
                            refine q_lookg rfl rfl rfl (fun hq => look_indexAddr (plK g t).toNat Try.underlying54 szTry_4 rfl hq rfl hq (by have := plK_bd (gq_t hq); omega) (by have := plK_bd (gq_t hq); omega)) ?_
                            refine q_lookg rfl rfl rfl (fun hq => look_load1 Try.underlying4 rfl rfl hq (ext_cell ((hF.rd (plK g t).toNat (!decide (t ∈ g.bl)) (hfs t (gq_t hq))) 0 _ rfl))) ?_
                            refine q_look (look_and rfl rfl rfl rfl) ?_
                            refine q_look (look_move rfl rfl) ?_
                            refine q_lookg rfl rfl rfl (fun hq => look_fieldAddr Try.underlying56 rfl (fun _ _ => rfl) rfl rfl) ?_
                            refine q_lookg rfl rfl rfl (fun hq => look_load1 Try.underlying37 rfl rfl hq (ext_cell (hB6.cell rfl))) ?_
                            refine q_lookg rfl rfl rfl (fun hq => look_loadN Try.underlying56 rfl szTry_56 rfl rfl rfl (ext_cell_n hB6)) ?_
                            refine q_lookg rfl rfl rfl (fun hq => look_loadN Try.underlying26 rfl szTry_26 rfl rfl rfl (ext_cell_n hB20)) ?_
                            refine q_lookg rfl rfl rfl (fun hq => look_move rfl rfl) ?_
                            refine q_callg (vs := [_, _, _]) rfl rfl rfl enTry_22 (fun hq => ⟨⟨_, rfl, hq⟩, ⟨_, rfl, hq⟩, ⟨_, rfl, hq⟩, trivial⟩) (fun hq wc hw => cext hw (place_any g (.slice (some ⟨gc, 0, none⟩) N N) t (j : Int) wc hs (fre_of hq).1 (by omega))) ?_
                            refine q_lookg rfl rfl rfl (fun hq => look_indexAddr (plI g t (j : Int)).toNat Try.underlying37 szTry_3 rfl hq rfl hq (by have := plI_bd (fre_of hq).1 (nat7 (show j < 7 by omega)); omega) (by have := plI_bd (fre_of hq).1 (nat7 (show j < 7 by omega)); omega)) ?_
                            refine q_lookg rfl rfl rfl (fun hq => look_load1 Try.underlying3 rfl rfl hq (ext_cell ((hC.rd (plI g t (j : Int)).toNat (cAt g cs t j) (cAt_get hKn.len (fre_of hq).1 (by omega))) 0 _ rfl))) ?_
                            refine q_lookg rfl rfl rfl (fun hq => look_geq rfl hq rfl rfl) ?_
                            refine q_look (look_and rfl rfl rfl rfl) ?_
                            refine q_look (look_move rfl rfl) ?_
                            refine q_lookg rfl rfl rfl (fun hq => look_fieldAddr Try.underlying56 rfl (fun _ _ => rfl) rfl rfl) ?_
                            refine q_lookg rfl rfl rfl (fun hq => look_load1 Try.underlying37 rfl rfl hq (ext_cell (hB6.cell rfl))) ?_
                            refine q_lookg rfl rfl rfl (fun hq => look_loadN Try.underlying56 rfl szTry_56 rfl rfl rfl (ext_cell_n hB6)) ?_
                            refine q_lookg rfl rfl rfl (fun hq => look_loadN Try.underlying26 rfl szTry_26 rfl rfl rfl (ext_cell_n hB20)) ?_
                            refine q_lookg rfl rfl rfl (fun hq => look_move rfl rfl) ?_
                            refine q_callg (vs := [_, _, _]) rfl rfl rfl enTry_22 (fun hq => ⟨⟨_, rfl, hq⟩, ⟨_, rfl, hq⟩, ⟨_, rfl, hq⟩, trivial⟩) (fun hq wc hw => cext hw (place_any g (.slice (some ⟨gc, 0, none⟩) N N) t (j : Int) wc hs (fre_of2 hq).1 (by omega))) ?_
                            refine q_lookg rfl rfl rfl (fun hq => look_indexAddr (plI g t (j : Int)).toNat Try.underlying37 szTry_3 rfl hq rfl hq (by have := plI_bd (fre_of2 hq).1 (nat7 (show j < 7 by omega)); omega) (by have := plI_bd (fre_of2 hq).1 (nat7 (show j < 7 by omega)); omega)) ?_
                            refine q_lookg rfl rfl rfl (fun hq => look_load1 Try.underlying3 rfl rfl hq (ext_cell ((hC.rd (plI g t (j : Int)).toNat (cAt g cs t j) (cAt_get hKn.len (fre_of2 hq).1 (by omega))) 0 _ rfl))) ?_
                            refine q_lookg rfl rfl rfl (fun hq => look_move rfl rfl) ?_
                            refine q_lookg rfl rfl rfl (fun hq => look_add rfl hq rfl hq (by have h8 := cAt_get hKn.len (fre_of2 hq).1 (show j < 7 by omega); have h9 := hvb _ _ h8; have h10 := hKn.val _ _ h8; unfold I64; omega)) ?_
                            refine q_lookg rfl rfl rfl (fun hq => look_move rfl rfl) ?_
                            refine q_lookg rfl rfl rfl (fun hq => look_eql rfl hq rfl hq) ?_
                            refine q_look (look_and rfl rfl rfl rfl) ?_
                            refine q_nil ?_
                            intro w8 hw8
                            replace hX := hX.comp hw8
                            replace hB1 := hB1.ext hw8
                            replace hB3 := hB3.ext hw8
                            replace hF := hF.ext hw8
                            replace hB6 := hB6.ext hw8
                            replace hC := hC.ext hw8
                            replace hB15 := hB15.ext hw8
                            replace hB17 := hB17.ext hw8
                            replace hB20 := hB20.ext hw8
                            replace hO := hO.ext hw8
                            refine then_normal ?_
                            refine cond_split rfl (fun hc204 => ?_) (fun hc204 => ?_)
                            · obtain ⟨htf, hx0, hxe⟩ := cand_t (cs := cs) (j := j) hc204
                              rw [← hst] at hxe
                              have hkt : kn g cs t j (cAt g cs t j) := ⟨cAt_get hKn.len htf.1 (by omega), hx0⟩
                              have hlt := hKn.lst htf.1 (by omega) hkt
                              obtain ⟨kk, hkk⟩ : ∃ kk, kk = (cAt g cs t j) := ⟨_, rfl⟩
                              rw [← hkk] at hxe hlt hx0
                              rw [ht] at htf hlt
                              have hNx := hAt.next hb.1 hcb hj6 htf hlt hxe hno
                              have hsb := stepP_bd hb.1 (dk k) (dk j)
                              refine wp_seq ?_
                              refine wp_region_lit ?_
                              refine s_look (look_move rfl rfl) ?_
                              refine s_look (look_loadN Try.underlying26 rfl szTry_26 rfl rfl rfl (eqc_n hB20)) ?_
                              refine s_buildSlice (parts := [(0, .tmp 206)]) (vs := [(0, .agg (ccell t).toArray)]) (cells := ccell t) Try.underlying22 szTry_26 zeTry_26 rfl rfl ⟨⟨_, rfl, rfl⟩, trivial⟩ rfl (by kernel_rfl) ?_
                              intro g25 u25 hu25 hB25 hg25 hs25
                              have lt_g1_g25 : g1 < g25 := by have := hB1.lt; omega
                              have lt_g3_g25 : g3 < g25 := by have := hB3.lt; omega
                              have lt_g4_g25 : g4 < g25 := by have := hF.lt; omega
                              have lt_g6_g25 : g6 < g25 := by have := hB6.lt; omega
                              have lt_gc_g25 : gc < g25 := by have := hC.lt; omega
                              have lt_g15_g25 : g15 < g25 := by have := hB15.lt; omega
                              have lt_g17_g25 : g17 < g25 := by have := hB17.lt; omega
                              have lt_g20_g25 : g20 < g25 := by have := hB20.lt; omega
                              have ne_hO_g25 : (Value.ownBlock (.slice (some ⟨go, 0, none⟩) (a :: r1).length co)) ≠ some g25 := hO.ne_new (by omega)
                              have ge_g25 : w.heap.size ≤ g25 := by have := hX.size; omega
                              replace hX := hX.comp hu25
                              replace hB1 := hB1.ext hu25
                              replace hB3 := hB3.ext hu25
                              replace hF := hF.ext hu25
                              replace hB6 := hB6.ext hu25
                              replace hC := hC.ext hu25
                              replace hB15 := hB15.ext hu25
                              replace hB17 := hB17.ext hu25
                              replace hB20 := hB20.ext hu25
                              replace hO := hO.ext hu25
                              have hsz26 := hX.size
                              refine s_appendL (ce := ccell) (news := [t]) Try.underlying22 zsbTry_26 rfl rfl rfl hO rfl (Blk.src (x := t) rfl (by simp [ccell, Value.oneCell']) hB25) (by have := maxLen_is; simp only [List.length_cons, List.length_nil]; omega) (by simp only [List.length_cons, List.length_nil]; omega) (by omega) ?_
                              intro v26 u26 hN26 hgr26 hat26
                              replace hX := hX.grow hO (Nat.le_refl _) hgr26
                              have hn_hB1 := hB1.grown hgr26 ne_hO_g1
                              have hn_hB3 := hB3.grown hgr26 ne_hO_g3
                              have hn_hF := hF.grown hgr26 ne_hO_g4
                              have hn_hB6 := hB6.grown hgr26 ne_hO_g6
                              have hn_hC := hC.grown hgr26 ne_hO_gc
                              have hn_hB15 := hB15.grown hgr26 ne_hO_g15
                              have hn_hB17 := hB17.grown hgr26 ne_hO_g17
                              have hn_hB20 := hB20.grown hgr26 ne_hO_g20
                              replace ne_hO_g1 := ne_app ne_hO_g1 hB1.lt hat26
                              replace ne_hO_g3 := ne_app ne_hO_g3 hB3.lt hat26
                              replace ne_hO_g4 := ne_app ne_hO_g4 hF.lt hat26
                              replace ne_hO_g6 := ne_app ne_hO_g6 hB6.lt hat26
                              replace ne_hO_gc := ne_app ne_hO_gc hC.lt hat26
                              replace ne_hO_g15 := ne_app ne_hO_g15 hB15.lt hat26
                              replace ne_hO_g17 := ne_app ne_hO_g17 hB17.lt hat26
                              replace ne_hO_g20 := ne_app ne_hO_g20 hB20.lt hat26
                              clear hB1
                              have hB1 := hn_hB1
                              clear hn_hB1
                              clear hB3
                              have hB3 := hn_hB3
                              clear hn_hB3
                              clear hF
                              have hF := hn_hF
                              clear hn_hF
                              clear hB6
                              have hB6 := hn_hB6
                              clear hn_hB6
                              clear hC
                              have hC := hn_hC
                              clear hn_hC
                              clear hB15
                              have hB15 := hn_hB15
                              clear hn_hB15
                              clear hB17
                              have hB17 := hn_hB17
                              clear hn_hB17
                              clear hB20
                              have hB20 := hn_hB20
                              clear hn_hB20
                              clear hO
                              have hO := hN26
                              rw [ht] at hO
                              obtain ⟨A27, co27, rfl, _⟩ := hO.sl hce_c
                              obtain ⟨go27, rfl⟩ := own_some hO (by simp)
                              refine s_look (look_assign rfl rfl) ?_
                              refine s_nil ?_
                              refine then_normal ?_
                              refine wp_seq ?_
                              refine region_s ?_
                              refine q_look (look_move rfl rfl) ?_
                              refine q_look (look_assign rfl rfl) ?_
                              refine q_nil ?_
                              rintro _ rfl
                              refine then_normal ?_
                              refine wp_exit ?_
                              refine inB_exit_other rfl ?_
                              refine then_exit ?_
                              refine then_exit ?_
                              refine inB_exit_same ?_
                              refine inB_normal ?_
                              exact loop_end ((cadd c (dk j), j, kk, r1 ++ [cadd c (dk j)], go27, co27)) (by show kk.toNat < v.toNat; omega) ⟨rfl, rfl, rfl, rfl, rfl, rfl, rfl, rfl, rfl, trivial⟩ ⟨hX, hB1, hB3, hF, hB6, hC, hB15, hO, ne_hO_g1, ne_hO_g3, ne_hO_g4, ne_hO_g6, ne_hO_gc, ne_hO_g15, hNx⟩
                            · have hcf : Fre g (cadd c (dk j)) → 0 ≤ cAt g cs (cadd c (dk j)) j → cAt g cs (cadd c (dk j)) j + stepP bend (dk k) (dk j) ≠ v := by rw [← ht, hst]; exact cand_f hc204
                              refine wp_skip ?_
                              refine inB_normal ?_
                              refine then_normal ?_
                              refine region_s ?_
                              refine q_look (look_move rfl rfl) ?_
                              refine q_look (look_add rfl rfl rfl rfl (by unfold I64; omega)) ?_
                              refine q_look (look_assign rfl rfl) ?_
                              refine q_nil ?_
                              rintro _ rfl
                              exact loop_end (j + 1) (by omega) ⟨rfl, rfl, rfl, rfl, rfl, rfl, rfl, rfl, rfl, rfl, rfl, rfl, trivial⟩ ⟨hX, hB1, hB3, hF, hB6, hC, hB15, hO, ne_hO_g1, ne_hO_g3, ne_hO_g4, ne_hO_g6, ne_hO_gc, ne_hO_g15, hB17, ne_hO_g17, by omega, no_next hKn hno hj6 hcf⟩
                        · have hj6 : ¬ j < 6 := by have := nn_f hc133; omega
                          obtain ⟨j0, k0, a1, a2, a3, a4⟩ := some_cand hb.1 hAt.lst hcb
                          exact (hno j0 (by omega) k0 a2 a3 a4).elim
                    · have hcb : c = b := nd_f hc117
                      subst hcb
                      have hG1 := hAt.gd [] rfl
                      rw [List.append_nil] at hG1
                      have hco := hLa.uniq (hG1.lst hb.1).2.2
                      refine wp_exit ?_
                      refine then_exit ?_
                      refine then_exit ?_
                      refine inB_exit_same ?_
                      refine then_normal ?_
                      refine wp_seq ?_
                      refine region_s ?_
                      refine q_look (look_move rfl rfl) ?_
                      refine q_look (look_move rfl rfl) ?_
                      refine q_look (look_assign rfl rfl) ?_
                      refine q_look (look_assign rfl rfl) ?_
                      refine q_look (look_assign rfl rfl) ?_
                      refine q_nil ?_
                      rintro _ rfl
                      refine then_normal ?_
                      refine wp_ret ?_
                      exact res3 Try.results6 rfl rfl rfl ⟨_, _, _, _, rfl, hX, hO, by unfold PathS; rw [if_neg (fun h => h h0), if_neg (fun h => h hask), if_neg hbl]; exact .inl ⟨r1, rfl, hG1, hco, rfl⟩⟩

end Go.Proofs.Ythddekipelbooaa
