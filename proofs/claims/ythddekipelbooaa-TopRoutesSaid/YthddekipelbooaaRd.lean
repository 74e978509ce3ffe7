/- The walks of chapter 44 (route): the reference's place and least. -/
import Derived.Test.YthddekipelbooaaRc
import Derived.Test.YthddekipelbooaaM
namespace Go.Proofs.Ythddekipelbooaa
open Go Go.RowKit Core
set_option linter.unusedVariables false
set_option linter.unusedSimpArgs false
attribute [local irreducible] wpQuiet wpList wpH wpT Code.wp Calls bodyPost act

theorem zsbTry_37 : (Try.prog.info? 37).map (fun i => (i.zero, i.size, i.bytes)) = some (some (.slice none 0 0), 1, 24) := by kernel_rfl

def tcell (g : Gr) (v : Value) : List Value := [.int .i64 g.nx, .int .i64 g.ny, .int .i64 g.nz, .slice g.A g.bl.length g.cap, v]
def zG : Gr := ⟨0, 0, 0, none, [], 0⟩
theorem pl_max {g : Gr} {c : Cl} (hs : szA g = true) (h : inB g c = true) : (0 ≤ c.x * g.ny ∧ c.x * g.ny ≤ 576) ∧ (0 ≤ (c.x * g.ny + c.y) * g.nz ∧ (c.x * g.ny + c.y) * g.nz ≤ 14400) ∧ 0 ≤ plK g c ∧ plK g c < 13824 := by
  obtain ⟨h1, h2, h3⟩ := szA_iff.1 hs
  have hb := inB_24 hs h
  have h4 := mul_bd (a := c.x) (b := g.ny) (A := 24) (B := 24) (by omega) (by omega) (by omega) (by omega)
  have h5 := mul_bd (a := c.x * g.ny + c.y) (b := g.nz) (A := 600) (B := 24) (by omega) (by omega) (by omega) (by omega)
  have h6 := plK_bd h
  have h7 := vol_bd hs
  omega
theorem CR.of_set {base g k cap : Nat} {w : World} {cs : List Int} {j : Nat} {u : Int} (h : Core.Own icell 3 1 base w (.slice (some ⟨g, 0, none⟩) k cap) (cs.set j u)) (hk : k = cs.length := by rfl) (hc : cap = cs.length := by rfl) : CR base w g (cs.set j u) := by
  subst hk; subst hc
  unfold CR; rw [List.length_set]; exact h
theorem Own.reb {α : Type} {ce : α → List Value} {e : TypeId} {size base g k c : Nat} {w : World} {l : List α} (h : Core.Own ce e size base w (.slice (some ⟨g, 0, none⟩) k c) l) : Core.Own ce e size g w (.slice (some ⟨g, 0, none⟩) k c) l := by
  refine ⟨h.1, ?_⟩
  rcases h.2 with ⟨e, _⟩ | ⟨g', cap, cur, he, hb, rest⟩
  · cases e
  · have he2 := he
    simp only [Value.slice.injEq, Option.some.injEq, Addr.mk.injEq] at he2
    obtain ⟨⟨rfl, _, _⟩, _, _⟩ := he2
    exact .inr ⟨g, cap, cur, he, Nat.le_refl _, rest⟩
theorem RW.one {n0 : Nat} {w : World} {gv : Nat} (h : Core.Own scv 37 1 n0 w (.slice (some ⟨gv, 0, none⟩) 1 1) [.slice none 0 0]) : RW n0 w gv 1 [.slice none 0 0] [[]] := by
  refine ⟨h, rfl, fun i vi l h1 h2 => ?_, fun i vi h1 => ?_, fun i j vi vj hij h1 h2 => ?_⟩
  · cases i with
    | zero => cases h1; cases h2; exact Own.nil _ _ _ _ _
    | succ i => simp at h1
  · cases i with
    | zero => cases h1; intro e; cases e
    | succ i => simp at h1
  · cases i with
    | zero => cases h1; intro k e; cases e
    | succ i => simp at h1
theorem bl_t {g : Gr} {c : Cl} (h : (!inB g c || !(!decide (c ∈ g.bl))) = true) : ¬ Fre g c := by
  rintro ⟨h1, h2⟩
  rw [h1, decide_eq_false h2] at h; cases h
theorem bl_f {g : Gr} {c : Cl} (h : (!inB g c || !(!decide (c ∈ g.bl))) = false) : Fre g c := by
  obtain ⟨h1, h2⟩ := or_f h
  refine ⟨nt_f h1, of_decide_eq_false ?_⟩
  rw [Bool.not_not] at h2; exact h2
theorem set_minus {cs : List Int} {i : Nat} (h : ∀ (j : Nat) (v : Int), j < i → cs[j]? = some v → v = -1) : ∀ (j : Nat) (v : Int), j < i + 1 → (cs.set i (-1))[j]? = some v → v = -1 := fun j v hj hv => by
  rw [List.getElem?_set] at hv
  split at hv
  · split at hv
    · exact (Option.some.inj hv).symm
    · cases hv
  · exact h j v (by omega) hv
theorem range_snoc {α : Type} (f : Nat → α) (k : Nat) : (List.range k).map f ++ [f k] = (List.range (k + 1)).map f := by rw [List.range_succ, List.map_append]; rfl

theorem place_any (g : Gr) (v : Value) (c : Cl) (k : Int) (w : World) (hs : szA g = true) (hc : inB g c = true) (hk : 0 ≤ k ∧ k < 7) :
    Calls Try.prog 22 #[.agg (tcell g (v)).toArray, .agg (ccell c).toArray, .int .i64 k] w fun e w' => e = .returned (.int .i64 (plI g c k)) ∧ Ext w w' := by
  refine calls_act Try.func22 rfl Try.ntmps22 rfl rfl ?_
  show Code.wp _ _ _ (act 26 [(0, true, .agg (tcell g (v)).toArray), (1, true, .agg (ccell c).toArray), (2, true, .int .i64 k)] _) _
  have hX : Ext w w := Ext.rfl' w
  refine wp_seq ?_
  refine wp_region_lit ?_
  refine s_box rfl ?_
  intro g1 u1 hu1 hB1 hg1 hs1
  replace hB1 : Blk u1 g1 56 (tcell g v) := hB1
  have ge_g1 : w.heap.size ≤ g1 := by have := hX.size; omega
  replace hX := hX.comp hu1
  refine s_box rfl ?_
  intro g2 u2 hu2 hB2 hg2 hs2
  replace hB2 : Blk u2 g2 26 (ccell c) := hB2
  have lt_g1_g2 : g1 < g2 := by have := hB1.lt; omega
  have ge_g2 : w.heap.size ≤ g2 := by have := hX.size; omega
  replace hX := hX.comp hu2
  replace hB1 := hB1.ext hu2
  refine s_look (look_assign rfl rfl) ?_
  refine s_nil ?_
  refine then_normal ?_
  refine wp_seq ?_
  refine region_s ?_
  refine q_look (look_fieldAddr Try.underlying26 rfl (fun _ _ => rfl) rfl rfl) ?_
  refine q_look (look_load1 Try.underlying3 rfl rfl rfl (eqc (hB2.cell rfl))) ?_
  refine q_look (look_fieldAddr Try.underlying56 rfl (fun _ _ => rfl) rfl rfl) ?_
  refine q_look (look_fieldAddr Try.underlying24 rfl (fun _ _ => rfl) rfl rfl) ?_
  refine q_look (look_load1 Try.underlying3 rfl rfl rfl (eqc (hB1.cell rfl))) ?_
  refine q_look (look_mul rfl rfl rfl rfl (by have := pl_max hs hc; have e : plK g c = (c.x * g.ny + c.y) * g.nz + c.z := rfl; have := inB_24 hs hc; unfold I64; omega)) ?_
  refine q_look (look_fieldAddr Try.underlying26 rfl (fun _ _ => rfl) rfl rfl) ?_
  refine q_look (look_load1 Try.underlying3 rfl rfl rfl (eqc (hB2.cell rfl))) ?_
  refine q_look (look_add rfl rfl rfl rfl (by have := pl_max hs hc; have e : plK g c = (c.x * g.ny + c.y) * g.nz + c.z := rfl; have := inB_24 hs hc; unfold I64; omega)) ?_
  refine q_look (look_fieldAddr Try.underlying56 rfl (fun _ _ => rfl) rfl rfl) ?_
  refine q_look (look_fieldAddr Try.underlying24 rfl (fun _ _ => rfl) rfl rfl) ?_
  refine q_look (look_load1 Try.underlying3 rfl rfl rfl (eqc (hB1.cell rfl))) ?_
  refine q_look (look_mul rfl rfl rfl rfl (by have := pl_max hs hc; have e : plK g c = (c.x * g.ny + c.y) * g.nz + c.z := rfl; have := inB_24 hs hc; unfold I64; omega)) ?_
  refine q_look (look_fieldAddr Try.underlying26 rfl (fun _ _ => rfl) rfl rfl) ?_
  refine q_look (look_load1 Try.underlying3 rfl rfl rfl (eqc (hB2.cell rfl))) ?_
  refine q_look (look_add rfl rfl rfl rfl (by have := pl_max hs hc; have e : plK g c = (c.x * g.ny + c.y) * g.nz + c.z := rfl; have := inB_24 hs hc; unfold I64; omega)) ?_
  refine q_look (look_mul rfl rfl rfl rfl (by have := pl_max hs hc; have e : plK g c = (c.x * g.ny + c.y) * g.nz + c.z := rfl; have := inB_24 hs hc; unfold I64; omega)) ?_
  refine q_look (look_move rfl rfl) ?_
  refine q_look (look_add rfl rfl rfl rfl (by have := pl_max hs hc; have e : plK g c = (c.x * g.ny + c.y) * g.nz + c.z := rfl; have := inB_24 hs hc; unfold I64; omega)) ?_
  refine q_look (look_assign rfl rfl) ?_
  refine q_nil ?_
  rintro _ rfl
  refine then_normal ?_
  refine wp_ret ?_
  exact res1 Try.results22 rfl ⟨ret_int rfl, hX⟩


theorem one_get {l l' : List Int} {m : Nat} (h : [l][m]? = some l') : l' = l := by
  cases m with
  | zero => exact (Option.some.inj h).symm
  | succ m => simp at h
theorem hC_len {g : Gr} {bend : Int} {b : Cl} {E : Cl → Nat → Prop} {cs : List Int} {ls : List (List Int)} {n i N : Nat} (h : RI g bend b E cs ls n i) (hN : g.nx * g.ny * g.nz * 7 = (N : Int)) : cs.length = N := by have := h.len; omega
theorem step_t {bend : Int} {bf k : Nat} (h : (decide ((bf : Int) < 6) && !decide ((bf : Int) = (k : Int))) = true) (hb : bf < 7) (hk : k < 6) : stepP bend (dk bf) (dk k) = 1 + bend := by
  have h1 := nn_t (Bool.and_eq_true_iff.1 h).1
  have h2 := nd_t (Bool.and_eq_true_iff.1 h).2
  rw [step_dk hb hk, if_pos ⟨by omega, by omega⟩]
theorem step_f {bend : Int} {bf k : Nat} (h : (decide ((bf : Int) < 6) && !decide ((bf : Int) = (k : Int))) = false) (hb : bf < 7) (hk : k < 6) : stepP bend (dk bf) (dk k) = 1 := by
  rw [step_dk hb hk, if_neg]
  rintro ⟨h1, h2⟩
  rw [decide_eq_true (show (bf : Int) < 6 by omega), decide_eq_false (show ¬ (bf : Int) = (k : Int) by omega)] at h
  cases h
theorem cov_next {g : Gr} {bend : Int} {cs : List Int} {ls ls' : List (List Int)} {n i k bf mm : Nat} {c fr : Cl} (hfr : fr = csub c (dk k)) (hP : (∀ c' k' x, Cv g cs ls n i c' k' x → Cv g cs ls' n i c' k' x) ∧ Cv g cs ls' n i fr bf (mm : Int)) (hm : (mm : Int) = (n : Int) + stepP bend (dk bf) (dk k))
    (h : ∀ j, j < bf → Cv g cs ls n i (csub c (dk k)) j ((n : Int) + stepP bend (dk j) (dk k))) : ∀ j, j < bf + 1 → Cv g cs ls' n i (csub c (dk k)) j ((n : Int) + stepP bend (dk j) (dk k)) := fun j hj => by
  by_cases e : j = bf
  · subst e; rw [← hfr, ← hm]; exact hP.2
  · exact hP.1 _ _ _ (h j (by omega))

set_option maxHeartbeats 4000000 in
set_option maxRecDepth 100000 in
theorem least_any (g : Gr) (b : Cl) (bend : Int) (frs : List Bool) (bfr ofr fc N : Nat) (w : World) (hN : g.nx * g.ny * g.nz * 7 = (N : Int)) (hs : szA g = true) (hfb : Fre g b) (hb : 0 ≤ bend ∧ bend ≤ 1000) (hFr : Sl bocell 1 w (some ⟨bfr, ofr, none⟩) frs) (hfl : (frs.length : Int) = g.nx * g.ny * g.nz) (hfr : ∀ c, inB g c = true → frs[(plK g c).toNat]? = some (!decide (c ∈ g.bl))) :
    Calls Try.prog 23 #[.agg (gcell g).toArray, .slice (some ⟨bfr, ofr, none⟩) frs.length fc, .agg (ccell b).toArray, .int .i64 bend] w fun e w' => ∃ gc cs, e = .returned (.agg (tcell g (.slice (some ⟨gc, 0, none⟩) N N)).toArray) ∧ Ext w w' ∧ CR w.heap.size w' gc cs ∧ KnR g bend b cs ∧ ∀ (j : Nat) (v : Int), cs[j]? = some v → v ≤ 100000000 := by
  refine calls_act Try.func23 rfl Try.ntmps23 rfl rfl ?_
  show Code.wp _ _ _ (act 177 [(0, true, .agg (gcell g).toArray), (1, true, .slice (some ⟨bfr, ofr, none⟩) frs.length fc), (2, true, .agg (ccell b).toArray), (3, true, .int .i64 bend)] _) _
  have hX : Ext w w := Ext.rfl' w
  have hN3 : N ≤ 96768 := by have := vol_bd hs; omega
  refine wp_seq ?_
  refine wp_region_lit ?_
  refine s_box rfl ?_
  intro g1 u1 hu1 hB1 hg1 hs1
  replace hB1 : Blk u1 g1 24 (gcell g) := hB1
  have ge_g1 : w.heap.size ≤ g1 := by have := hX.size; omega
  replace hX := hX.comp hu1
  refine s_box rfl ?_
  intro g2 u2 hu2 hB2 hg2 hs2
  replace hB2 : Blk u2 g2 26 (ccell b) := hB2
  have lt_g1_g2 : g1 < g2 := by have := hB1.lt; omega
  have ge_g2 : w.heap.size ≤ g2 := by have := hX.size; omega
  replace hX := hX.comp hu2
  replace hB1 := hB1.ext hu2
  refine s_alloc zeTry_56 ?_
  intro g3 u3 hu3 hB3 hg3 hs3
  have lt_g1_g3 : g1 < g3 := by have := hB1.lt; omega
  have lt_g2_g3 : g2 < g3 := by have := hB2.lt; omega
  have ge_g3 : w.heap.size ≤ g3 := by have := hX.size; omega
  replace hX := hX.comp hu3
  replace hB1 := hB1.ext hu3
  replace hB2 := hB2.ext hu3
  refine s_nil ?_
  refine then_normal ?_
  refine seq_cut (ds := []) (n := 177) (fun (cs : Nat × Nat) => [(1, .slice (some ⟨bfr, ofr, none⟩) frs.length fc), (3, .int .i64 bend), (4, .pointer (some ⟨g1, 0, none⟩)), (6, .pointer (some ⟨g2, 0, none⟩)), (8, .pointer (some ⟨g3, 0, none⟩)), (9, .pointer (some ⟨cs.1, 0, none⟩))]) (fun cs w' => (Ext w w') ∧ (Blk w' g1 24 (gcell g)) ∧ (Blk w' g2 26 (ccell b)) ∧ (Blk w' g3 56 (tcell zG (.slice none 0 0))) ∧ (Blk w' cs.1 56 (tcell g (.slice (some ⟨cs.2, 0, none⟩) N N))) ∧ (CR w.heap.size w' cs.2 (List.replicate N 0)) ∧ (cs.1 ≠ cs.2 ∧ g3 < cs.1 ∧ g3 < cs.2 ∧ w.heap.size ≤ cs.1 ∧ w.heap.size ≤ cs.2)) ?_ ?_
  · refine region_t (fun W => Blk W g1 24 (gcell g)) (.eager 0 (.eager 1 (.eager 2 (.eager 3 (.eager 4 (.eager 5 (.eager 6 (.eager 7 (.eager 8 (.eager 9 (.fork 10 12 (.eager 11 (.alone 12 (.alone 13 .nil))) (.alone 10 (.eager 11 (.alone 13 .nil)))))))))))))) mixed (by kernel_rfl) rfl (by kernel_rfl) (by repeat (first | exact pk_body | refine pk_then ?_ | refine pk_block ?_))  ?_
    intro u4 hR4
    replace hX := hX.comp hR4
    replace hB1 := hB1.ext hR4
    replace hB2 := hB2.ext hR4
    replace hB3 := hB3.ext hR4
    refine ⟨hB1, ?_⟩
    refine t_look rfl (look_loadN Try.underlying24 rfl szTry_24 rfl rfl rfl (fun w' hS j v hv => by rw [Nat.zero_add]; exact (hS).cell hv)) ?_
    refine t_look rfl (look_fieldAddr Try.underlying24 rfl (fun _ _ => rfl) rfl rfl) ?_
    refine t_look rfl (look_load1 Try.underlying3 rfl rfl rfl (fun w' hS => (hS).cell rfl)) ?_
    refine t_look rfl (look_fieldAddr Try.underlying24 rfl (fun _ _ => rfl) rfl rfl) ?_
    refine t_look rfl (look_load1 Try.underlying3 rfl rfl rfl (fun w' hS => (hS).cell rfl)) ?_
    refine t_look rfl (look_mul rfl rfl rfl rfl (by have := vol_bd hs; unfold I64; omega)) ?_
    refine t_look rfl (look_fieldAddr Try.underlying24 rfl (fun _ _ => rfl) rfl rfl) ?_
    refine t_look rfl (look_load1 Try.underlying3 rfl rfl rfl (fun w' hS => (hS).cell rfl)) ?_
    refine t_look rfl (look_mul rfl rfl rfl rfl (by have := vol_bd hs; unfold I64; omega)) ?_
    refine t_look rfl (look_mul rfl rfl rfl rfl (by have := vol_bd hs; unfold I64; omega)) ?_
    refine t_fork rfl rfl ?_ ?_
    · refine s_make (ce := icell) (zx := 0) (m := N) Try.underlying37 zsbTry_3 rfl rfl rfl rfl hN hN (by omega) (by have := maxLen_is; omega) ?_
      intro g5 u5 hu5 hO5 hg5
      have ge_g5 : w.heap.size ≤ g5 := by have := hX.size; omega
      have lt_g1_g5 : g1 < g5 := by have := hB1.lt; omega
      have lt_g2_g5 : g2 < g5 := by have := hB2.lt; omega
      have lt_g3_g5 : g3 < g5 := by have := hB3.lt; omega
      have hC : CR w.heap.size u5 g5 (List.replicate N 0) := by have h9 := hO5.weak hX.size; unfold CR; rw [List.length_replicate]; exact h9
      replace hX := hX.comp hu5
      replace hB1 := hB1.ext hu5
      replace hB2 := hB2.ext hu5
      replace hB3 := hB3.ext hu5
      refine s_nil ?_
      refine then_normal ?_
      refine ⟨hB1, ?_⟩
      refine t_look rfl (look_build (pl := [(0, 4), (4, 1)]) (parts := [(0, .tmp 23), (1, .tmp 33)]) (vs := [(0, .agg (gcell g).toArray), (1, .slice (some ⟨g5, 0, none⟩) N N)]) (cells := tcell g (.slice (some ⟨g5, 0, none⟩) N N)) Try.underlying56 zeTry_56 (by kernel_rfl) ⟨⟨_, rfl, rfl⟩, ⟨_, rfl, rfl⟩, trivial⟩ rfl (by kernel_rfl)) ?_
      refine t_seq rfl ?_
      refine s_alloc zeTry_56 ?_
      intro g6 u6 hu6 hB6 hg6 hs6
      have lt_g1_g6 : g1 < g6 := by have := hB1.lt; omega
      have lt_g2_g6 : g2 < g6 := by have := hB2.lt; omega
      have lt_g3_g6 : g3 < g6 := by have := hB3.lt; omega
      have lt_g5_g6 : g5 < g6 := by have := hC.lt; omega
      have ge_g6 : w.heap.size ≤ g6 := by have := hX.size; omega
      replace hX := hX.comp hu6
      replace hB1 := hB1.ext hu6
      replace hB2 := hB2.ext hu6
      replace hB3 := hB3.ext hu6
      replace hC := hC.ext hu6
      refine s_nil ?_
      refine then_normal ?_
      refine ⟨hB1, ?_⟩
      refine t_seq rfl ?_
      refine s_store szTry_56 rfl (by simp [ccell, gcell, itcell, rcell, tcell, Value.cells, Value.oneCell']) rfl rfl hB6 rfl ?_
      intro u7 hk7 hT7
      replace hT7 : Blk u7 g6 56 (tcell g (.slice (some ⟨g5, 0, none⟩) N N)) := hT7
      replace hX := hX.kp hk7 (by omega)
      replace hB1 := hB1.kp hk7 (by omega)
      replace hB2 := hB2.kp hk7 (by omega)
      replace hB3 := hB3.kp hk7 (by omega)
      replace hC := hC.kp hk7 (by omega)
      clear hB6
      have hB6 := hT7
      refine s_nil ?_
      refine then_normal ?_
      refine ⟨hB1, ?_⟩
      refine t_nil ?_
      exact cut_end (g6, g5) ⟨rfl, rfl, rfl, rfl, rfl, rfl, trivial⟩ ⟨hX, hB1, hB2, hB3, hB6, hC, (by omega)⟩
    · refine s_alloc zeTry_56 ?_
      intro g8 u8 hu8 hB8 hg8 hs8
      have lt_g1_g8 : g1 < g8 := by have := hB1.lt; omega
      have lt_g2_g8 : g2 < g8 := by have := hB2.lt; omega
      have lt_g3_g8 : g3 < g8 := by have := hB3.lt; omega
      have ge_g8 : w.heap.size ≤ g8 := by have := hX.size; omega
      replace hX := hX.comp hu8
      replace hB1 := hB1.ext hu8
      replace hB2 := hB2.ext hu8
      replace hB3 := hB3.ext hu8
      refine s_nil ?_
      refine then_normal ?_
      refine ⟨hB1, ?_⟩
      refine t_seq rfl ?_
      refine s_make (ce := icell) (zx := 0) (m := N) Try.underlying37 zsbTry_3 rfl rfl rfl rfl hN hN (by omega) (by have := maxLen_is; omega) ?_
      intro g9 u9 hu9 hO9 hg9
      have ge_g9 : w.heap.size ≤ g9 := by have := hX.size; omega
      have lt_g1_g9 : g1 < g9 := by have := hB1.lt; omega
      have lt_g2_g9 : g2 < g9 := by have := hB2.lt; omega
      have lt_g3_g9 : g3 < g9 := by have := hB3.lt; omega
      have lt_g8_g9 : g8 < g9 := by have := hB8.lt; omega
      have hC : CR w.heap.size u9 g9 (List.replicate N 0) := by have h9 := hO9.weak hX.size; unfold CR; rw [List.length_replicate]; exact h9
      replace hX := hX.comp hu9
      replace hB1 := hB1.ext hu9
      replace hB2 := hB2.ext hu9
      replace hB3 := hB3.ext hu9
      replace hB8 := hB8.ext hu9
      refine s_nil ?_
      refine then_normal ?_
      refine ⟨hB1, ?_⟩
      refine t_look rfl (look_build (pl := [(0, 4), (4, 1)]) (parts := [(0, .tmp 23), (1, .tmp 33)]) (vs := [(0, .agg (gcell g).toArray), (1, .slice (some ⟨g9, 0, none⟩) N N)]) (cells := tcell g (.slice (some ⟨g9, 0, none⟩) N N)) Try.underlying56 zeTry_56 (by kernel_rfl) ⟨⟨_, rfl, rfl⟩, ⟨_, rfl, rfl⟩, trivial⟩ rfl (by kernel_rfl)) ?_
      refine t_seq rfl ?_
      refine s_store szTry_56 rfl (by simp [ccell, gcell, itcell, rcell, tcell, Value.cells, Value.oneCell']) rfl rfl hB8 rfl ?_
      intro u10 hk10 hT10
      replace hT10 : Blk u10 g8 56 (tcell g (.slice (some ⟨g9, 0, none⟩) N N)) := hT10
      replace hX := hX.kp hk10 (by omega)
      replace hB1 := hB1.kp hk10 (by omega)
      replace hB2 := hB2.kp hk10 (by omega)
      replace hB3 := hB3.kp hk10 (by omega)
      replace hC := hC.kp hk10 (by omega)
      clear hB8
      have hB8 := hT10
      refine s_nil ?_
      refine then_normal ?_
      refine ⟨hB1, ?_⟩
      refine t_nil ?_
      exact cut_end (g8, g9) ⟨rfl, rfl, rfl, rfl, rfl, rfl, trivial⟩ ⟨hX, hB1, hB2, hB3, hB8, hC, (by omega)⟩
  · rintro ⟨g9, gc⟩ σ wr hF
    obtain ⟨hX, hB1, hB2, hB3, hB9, hC, ho⟩ : (Ext w wr) ∧ (Blk wr g1 24 (gcell g)) ∧ (Blk wr g2 26 (ccell b)) ∧ (Blk wr g3 56 (tcell zG (.slice none 0 0))) ∧ (Blk wr g9 56 (tcell g (.slice (some ⟨gc, 0, none⟩) N N))) ∧ (CR w.heap.size wr gc (List.replicate N 0)) ∧ (g9 ≠ gc ∧ g3 < g9 ∧ g3 < gc ∧ w.heap.size ≤ g9 ∧ w.heap.size ≤ gc) := hF
    show Code.wp _ _ _ (act 177 [(1, true, .slice (some ⟨bfr, ofr, none⟩) frs.length fc), (3, true, .int .i64 bend), (4, true, .pointer (some ⟨g1, 0, none⟩)), (6, true, .pointer (some ⟨g2, 0, none⟩)), (8, true, .pointer (some ⟨g3, 0, none⟩)), (9, true, .pointer (some ⟨g9, 0, none⟩))] _) _
    refine wp_seq ?_
    refine wp_seq ?_
    refine region_s ?_
    refine q_look (look_assign rfl rfl) ?_
    refine q_nil ?_
    rintro _ rfl
    have hN3 : N ≤ 96768 := by have := vol_bd hs; omega
    refine then_normal ?_
    refine wp_block ?_
    refine loop_act (fun (ls : Nat × List Int) => [(1, .slice (some ⟨bfr, ofr, none⟩) frs.length fc), (3, .int .i64 bend), (4, .pointer (some ⟨g1, 0, none⟩)), (6, .pointer (some ⟨g2, 0, none⟩)), (8, .pointer (some ⟨g3, 0, none⟩)), (9, .pointer (some ⟨g9, 0, none⟩)), (10, .int .i64 (ls.1 : Int))]) (fun ls w' => (Ext w w') ∧ (Blk w' g1 24 (gcell g)) ∧ (Blk w' g2 26 (ccell b)) ∧ (Blk w' g3 56 (tcell zG (.slice none 0 0))) ∧ (Blk w' g9 56 (tcell g (.slice (some ⟨gc, 0, none⟩) N N))) ∧ (CR w.heap.size w' gc ls.2) ∧ (ls.2.length = N) ∧ (ls.1 ≤ N) ∧ (∀ (j : Nat) (v : Int), j < ls.1 → ls.2[j]? = some v → v = -1)) (fun ls => N - ls.1) ((0, List.replicate N 0)) ?_ ?_ ?_
    · exact ⟨rfl, rfl, rfl, rfl, rfl, rfl, rfl, trivial⟩
    · exact ⟨hX, hB1, hB2, hB3, hB9, hC, List.length_replicate, Nat.zero_le _, fun j v hj _ => absurd hj (Nat.not_lt_zero j)⟩
    · rintro ⟨i, cs⟩ σ wr hF
      obtain ⟨hX, hB1, hB2, hB3, hB9, hC, hlc, hi, hcs⟩ : (Ext w wr) ∧ (Blk wr g1 24 (gcell g)) ∧ (Blk wr g2 26 (ccell b)) ∧ (Blk wr g3 56 (tcell zG (.slice none 0 0))) ∧ (Blk wr g9 56 (tcell g (.slice (some ⟨gc, 0, none⟩) N N))) ∧ (CR w.heap.size wr gc cs) ∧ (cs.length = N) ∧ (i ≤ N) ∧ (∀ (j : Nat) (v : Int), j < i → cs[j]? = some v → v = -1) := hF
      show Code.wp _ _ _ (act 177 [(1, true, .slice (some ⟨bfr, ofr, none⟩) frs.length fc), (3, true, .int .i64 bend), (4, true, .pointer (some ⟨g1, 0, none⟩)), (6, true, .pointer (some ⟨g2, 0, none⟩)), (8, true, .pointer (some ⟨g3, 0, none⟩)), (9, true, .pointer (some ⟨g9, 0, none⟩)), (10, true, .int .i64 (i : Int))] _) _
      refine wp_seq ?_
      refine wp_seq ?_
      refine region_s ?_
      refine q_look (look_move rfl rfl) ?_
      refine q_look (look_fieldAddr Try.underlying56 rfl (fun _ _ => rfl) rfl rfl) ?_
      refine q_look (look_load1 Try.underlying37 rfl rfl rfl (eqc (hB9.cell rfl))) ?_
      refine q_look (look_len_slice Try.underlying37 rfl rfl) ?_
      refine q_look (look_lss rfl rfl rfl rfl) ?_
      refine q_nil ?_
      rintro _ rfl
      refine then_normal ?_
      refine cond_split rfl (fun hc39 => ?_) (fun hc39 => ?_)
      · have hlt : i < N := by have := nn_t hc39; omega
        refine wp_skip ?_
        refine then_normal ?_
        refine wp_seq ?_
        refine wp_block ?_
        refine wp_region_lit ?_
        refine s_look (look_fieldAddr Try.underlying56 rfl (fun _ _ => rfl) rfl rfl) ?_
        refine s_look (look_load1 Try.underlying37 rfl rfl rfl (eqc (hB9.cell rfl))) ?_
        refine s_look (look_move rfl rfl) ?_
        refine s_look (look_indexAddr _ Try.underlying37 szTry_3 rfl rfl rfl rfl rfl (by omega)) ?_
        refine s_storeRow (ce := icell) (kv := vI) (u := -1) (j := i) szTry_3 (fun _ => rfl) rfl rfl (by rfl) (by rfl) hC (by omega) (by omega) ?_
        intro u11 hk11 hO11
        have hT11 := CR.of_set hO11
        replace hX := hX.kp hk11 (by omega)
        replace hB1 := hB1.kp hk11 (by omega)
        replace hB2 := hB2.kp hk11 (by omega)
        replace hB3 := hB3.kp hk11 (by omega)
        replace hB9 := hB9.kp hk11 (by omega)
        clear hC
        have hC := hT11
        refine s_nil ?_
        refine inB_normal ?_
        refine then_normal ?_
        refine region_s ?_
        refine q_look (look_move rfl rfl) ?_
        refine q_look (look_add rfl rfl rfl rfl (by unfold I64; omega)) ?_
        refine q_look (look_assign rfl rfl) ?_
        refine q_nil ?_
        rintro _ rfl
        exact loop_end ((i + 1, cs.set i (-1))) (by simp only []; omega) ⟨rfl, rfl, rfl, rfl, rfl, rfl, rfl, trivial⟩ ⟨hX, hB1, hB2, hB3, hB9, hC, by show (cs.set i (-1)).length = N; rw [List.length_set]; exact hlc, by show i + 1 ≤ N; omega, set_minus hcs⟩
      · have hge : ¬ i < N := by have := nn_f hc39; omega
        replace hcs : ∀ (j : Nat) (v : Int), cs[j]? = some v → v = -1 := fun j v hv => hcs j v (by have := (List.getElem?_eq_some_iff.1 hv).1; omega) hv
        refine wp_exit ?_
        refine then_exit ?_
        refine then_exit ?_
        refine inB_exit_same ?_
        refine then_normal ?_
        refine wp_seq ?_
        refine wp_region_lit ?_
        refine s_call (vs := []) enTry_24 trivial (refways_any _) ?_
        rintro _ u12 ⟨rfl, hc12⟩
        refine ⟨_, rfl, ?_⟩
        replace hX := hX.comp hc12
        replace hB1 := hB1.ext hc12
        replace hB2 := hB2.ext hc12
        replace hB3 := hB3.ext hc12
        replace hB9 := hB9.ext hc12
        replace hC := hC.ext hc12
        refine s_alloc zeTry_59 ?_
        intro g13 u13 hu13 hB13 hg13 hs13
        have lt_g1_g13 : g1 < g13 := by have := hB1.lt; omega
        have lt_g2_g13 : g2 < g13 := by have := hB2.lt; omega
        have lt_g3_g13 : g3 < g13 := by have := hB3.lt; omega
        have lt_g9_g13 : g9 < g13 := by have := hB9.lt; omega
        have lt_gc_g13 : gc < g13 := by have := hC.lt; omega
        have ge_g13 : w.heap.size ≤ g13 := by have := hX.size; omega
        replace hX := hX.comp hu13
        replace hB1 := hB1.ext hu13
        replace hB2 := hB2.ext hu13
        replace hB3 := hB3.ext hu13
        replace hB9 := hB9.ext hu13
        replace hC := hC.ext hu13
        refine s_store (v := .agg W18.toArray) szTry_59 W18_sz W18_one rfl rfl hB13 (by rw [W18_sz]; rfl) ?_
        intro u14 hk14 hT14
        replace hT14 : Blk u14 g13 59 W18 := hT14
        replace hX := hX.kp hk14 (by omega)
        replace hB1 := hB1.kp hk14 (by omega)
        replace hB2 := hB2.kp hk14 (by omega)
        replace hB3 := hB3.kp hk14 (by omega)
        replace hB9 := hB9.kp hk14 (by omega)
        replace hC := hC.kp hk14 (by omega)
        clear hB13
        have hB13 := hT14
        rw [W18_eq] at hB13
        refine s_nil ?_
        refine then_normal ?_
        refine wp_seq ?_
        refine wp_region_lit ?_
        refine s_make (ce := scv) (zx := Value.slice none 0 0) (m := 1) Try.underlying80 zsbTry_37 rfl rfl rfl rfl rfl rfl (by decide) (by decide) ?_
        intro g15 u15 hu15 hO15 hg15
        have ge_g15 : w.heap.size ≤ g15 := by have := hX.size; omega
        have lt_g1_g15 : g1 < g15 := by have := hB1.lt; omega
        have lt_g2_g15 : g2 < g15 := by have := hB2.lt; omega
        have lt_g3_g15 : g3 < g15 := by have := hB3.lt; omega
        have lt_g9_g15 : g9 < g15 := by have := hB9.lt; omega
        have lt_gc_g15 : gc < g15 := by have := hC.lt; omega
        have lt_g13_g15 : g13 < g15 := by have := hB13.lt; omega
        replace hX := hX.comp hu15
        replace hB1 := hB1.ext hu15
        replace hB2 := hB2.ext hu15
        replace hB3 := hB3.ext hu15
        replace hB9 := hB9.ext hu15
        replace hC := hC.ext hu15
        replace hB13 := hB13.ext hu15
        have hQ := RW.one (Own.reb hO15)
        obtain ⟨n0, hn0⟩ : ∃ n, n = g15 := ⟨_, rfl⟩
        obtain ⟨gv, hgv⟩ : ∃ n, n = g15 := ⟨_, rfl⟩
        have hn : w.heap.size ≤ n0 := by omega
        rw [← hgv] at hQ ⊢
        replace hQ : RW n0 u15 gv 1 [.slice none 0 0] [[]] := by rw [hn0, ← hgv]; exact hQ
        have spg1 : RSep gv [.slice none 0 0] g1 := RSep.old hQ (by omega)
        have spg2 : RSep gv [.slice none 0 0] g2 := RSep.old hQ (by omega)
        have spg3 : RSep gv [.slice none 0 0] g3 := RSep.old hQ (by omega)
        have spg9 : RSep gv [.slice none 0 0] g9 := RSep.old hQ (by omega)
        have spgc : RSep gv [.slice none 0 0] gc := RSep.old hQ (by omega)
        have spg13 : RSep gv [.slice none 0 0] g13 := RSep.old hQ (by omega)
        refine s_look (look_assign rfl rfl) ?_
        refine s_nil ?_
        refine then_normal ?_
        refine wp_seq ?_
        refine wp_seq ?_
        refine region_s ?_
        refine q_look (look_assign rfl rfl) ?_
        refine q_nil ?_
        rintro _ rfl
        refine then_normal ?_
        refine wp_block ?_
        refine loop_act (fun (ls : Nat × Value × List Int) => [(1, .slice (some ⟨bfr, ofr, none⟩) frs.length fc), (3, .int .i64 bend), (4, .pointer (some ⟨g1, 0, none⟩)), (6, .pointer (some ⟨g2, 0, none⟩)), (8, .pointer (some ⟨g3, 0, none⟩)), (9, .pointer (some ⟨g9, 0, none⟩)), (11, .pointer (some ⟨g13, 0, none⟩)), (12, .slice (some ⟨gv, 0, none⟩) 1 1), (13, .int .i64 (ls.1 : Int))]) (fun ls w' => (Ext w w') ∧ (Blk w' g1 24 (gcell g)) ∧ (Blk w' g2 26 (ccell b)) ∧ (Blk w' g3 56 (tcell zG (.slice none 0 0))) ∧ (Blk w' g9 56 (tcell g (.slice (some ⟨gc, 0, none⟩) N N))) ∧ (Blk w' g13 59 (ways.flatMap ccell)) ∧ (CR w.heap.size w' gc cs) ∧ (RSep gv [ls.2.1] g1) ∧ (RSep gv [ls.2.1] g2) ∧ (RSep gv [ls.2.1] g3) ∧ (RSep gv [ls.2.1] g9) ∧ (RSep gv [ls.2.1] gc) ∧ (RSep gv [ls.2.1] g13) ∧ (RW n0 w' gv 1 [ls.2.1] [ls.2.2]) ∧ (ls.1 ≤ 7) ∧ (ls.2.2 = (List.range ls.1).map fun kk => plI g b ((kk : Nat) : Int))) (fun ls => 7 - ls.1) ((0, .slice none 0 0, [])) ?_ ?_ ?_
        · exact ⟨rfl, rfl, rfl, rfl, rfl, rfl, rfl, rfl, rfl, trivial⟩
        · exact ⟨hX, hB1, hB2, hB3, hB9, hB13, hC, spg1, spg2, spg3, spg9, spgc, spg13, hQ, Nat.zero_le _, rfl⟩
        · rintro ⟨k, vi, l⟩ σ wr hF
          obtain ⟨hX, hB1, hB2, hB3, hB9, hB13, hC, spg1, spg2, spg3, spg9, spgc, spg13, hQ, hk, hl⟩ : (Ext w wr) ∧ (Blk wr g1 24 (gcell g)) ∧ (Blk wr g2 26 (ccell b)) ∧ (Blk wr g3 56 (tcell zG (.slice none 0 0))) ∧ (Blk wr g9 56 (tcell g (.slice (some ⟨gc, 0, none⟩) N N))) ∧ (Blk wr g13 59 (ways.flatMap ccell)) ∧ (CR w.heap.size wr gc cs) ∧ (RSep gv [vi] g1) ∧ (RSep gv [vi] g2) ∧ (RSep gv [vi] g3) ∧ (RSep gv [vi] g9) ∧ (RSep gv [vi] gc) ∧ (RSep gv [vi] g13) ∧ (RW n0 wr gv 1 [vi] [l]) ∧ (k ≤ 7) ∧ (l = (List.range k).map fun kk => plI g b ((kk : Nat) : Int)) := hF
          show Code.wp _ _ _ (act 177 [(1, true, .slice (some ⟨bfr, ofr, none⟩) frs.length fc), (3, true, .int .i64 bend), (4, true, .pointer (some ⟨g1, 0, none⟩)), (6, true, .pointer (some ⟨g2, 0, none⟩)), (8, true, .pointer (some ⟨g3, 0, none⟩)), (9, true, .pointer (some ⟨g9, 0, none⟩)), (11, true, .pointer (some ⟨g13, 0, none⟩)), (12, true, .slice (some ⟨gv, 0, none⟩) 1 1), (13, true, .int .i64 (k : Int))] _) _
          refine wp_seq ?_
          refine wp_seq ?_
          refine region_s ?_
          refine q_look (look_move rfl rfl) ?_
          refine q_look (look_lss rfl rfl rfl rfl) ?_
          refine q_nil ?_
          rintro _ rfl
          refine then_normal ?_
          refine cond_split rfl (fun hc49 => ?_) (fun hc49 => ?_)
          · have hk7 : (k : Int) < 7 := nn_t hc49
            refine wp_skip ?_
            refine then_normal ?_
            refine wp_seq ?_
            refine wp_block ?_
            have hll : l.length = k := by rw [hl]; simp
            refine region_g (fun W => Blk W g9 56 (tcell g (.slice (some ⟨gc, 0, none⟩) N N)) ∧ Blk W g2 26 (ccell b) ∧ RW n0 W gv 1 [vi] [l]) [9, 11] [(0, 2), (1, 2), (2, 2), (3, 1), (4, 1), (5, 1), (6, 2), (7, 0), (8, 0), (9, 3), (10, 2), (11, 3)] mixed (by kernel_rfl) rfl (by kernel_rfl) (by repeat (first | exact pk_body | refine pk_then ?_ | refine pk_block ?_)) ?_
            intro u16 hR16
            replace hQ := hQ.ext hR16
            replace hX := hX.comp hR16
            replace hB1 := hB1.ext hR16
            replace hB2 := hB2.ext hR16
            replace hB3 := hB3.ext hR16
            replace hB9 := hB9.ext hR16
            replace hC := hC.ext hR16
            replace hB13 := hB13.ext hR16
            refine ⟨⟨hB9, hB2, hQ⟩, ?_⟩
            refine g_pure rfl (look_move rfl rfl) ?_
            refine g_pure rfl (look_move rfl rfl) ?_
            refine g_pure rfl (look_indexAddr 0 Try.underlying80 szTry_37 rfl rfl rfl rfl rfl (by omega)) ?_
            refine g_look rfl (look_load1 Try.underlying37 rfl rfl rfl (fun w' hS => (hS.2.2.own.rd hce_s 0 vi rfl) 0 _ rfl)) ?_
            refine g_look rfl (look_loadN Try.underlying56 rfl szTry_56 rfl rfl rfl (fun w' hS j v hv => by rw [Nat.zero_add]; exact (hS.1).cell hv)) ?_
            refine g_look rfl (look_loadN Try.underlying26 rfl szTry_26 rfl rfl rfl (fun w' hS j v hv => by rw [Nat.zero_add]; exact (hS.2.1).cell hv)) ?_
            refine g_pure rfl (look_move rfl rfl) ?_
            refine g_seq rfl ?_ ⟨hB9, hB2, hQ⟩
            refine s_call (vs := [_, _, _]) enTry_22 ⟨⟨_, rfl, rfl⟩, ⟨_, rfl, rfl⟩, ⟨_, rfl, rfl⟩, trivial⟩ (place_any g (.slice (some ⟨gc, 0, none⟩) N N) b (k : Int) _ hs hfb.1 (by omega)) ?_
            rintro _ u17 ⟨rfl, hc17⟩
            refine ⟨_, rfl, ?_⟩
            replace hQ := hQ.ext hc17
            replace hX := hX.comp hc17
            replace hB1 := hB1.ext hc17
            replace hB2 := hB2.ext hc17
            replace hB3 := hB3.ext hc17
            replace hB9 := hB9.ext hc17
            replace hC := hC.ext hc17
            replace hB13 := hB13.ext hc17
            refine s_nil ?_
            refine then_normal ?_
            refine ⟨⟨hB9, hB2, hQ⟩, ?_⟩
            refine g_seq rfl ?_ ⟨hB9, hB2, hQ⟩
            refine s_buildSlice (parts := [(0, .tmp 59)]) (vs := [(0, .int .i64 (plI g b (k : Int)))]) (cells := icell (plI g b (k : Int))) Try.underlying37 szTry_3 zeTry_3 rfl rfl ⟨⟨_, rfl, rfl⟩, trivial⟩ rfl (by kernel_rfl) ?_
            intro g18 u18 hu18 hB18 hg18 hs18
            have spg18 : RSep gv [vi] g18 := RSep.new hQ (by omega)
            have lt_g1_g18 : g1 < g18 := by have := hB1.lt; omega
            have lt_g2_g18 : g2 < g18 := by have := hB2.lt; omega
            have lt_g3_g18 : g3 < g18 := by have := hB3.lt; omega
            have lt_g9_g18 : g9 < g18 := by have := hB9.lt; omega
            have lt_gc_g18 : gc < g18 := by have := hC.lt; omega
            have lt_g13_g18 : g13 < g18 := by have := hB13.lt; omega
            have ge_g18 : w.heap.size ≤ g18 := by have := hX.size; omega
            replace hQ := hQ.ext hu18
            replace hX := hX.comp hu18
            replace hB1 := hB1.ext hu18
            replace hB2 := hB2.ext hu18
            replace hB3 := hB3.ext hu18
            replace hB9 := hB9.ext hu18
            replace hC := hC.ext hu18
            replace hB13 := hB13.ext hu18
            refine s_nil ?_
            refine then_normal ?_
            refine ⟨⟨hB9, hB2, hQ⟩, ?_⟩
            refine g_late rfl ?_
            refine s_appendL (ce := icell) (news := [plI g b (k : Int)]) Try.underlying37 zsbTry_3 rfl rfl rfl (hQ.row _ vi l (show [vi][0]? = some vi from rfl) (show [l][0]? = some l from rfl)) rfl (Blk.src (x := plI g b (k : Int)) rfl (by simp [icell, Value.oneCell']) hB18) (by have := maxLen_is; simp only [List.length_cons, List.length_nil]; omega) (by simp only [List.length_cons, List.length_nil]; omega) (by have := hQ.lt; omega) ?_
            intro v19 u19 hN19 hgr19 hat19
            have hO19 := hQ.mid (show [vi][0]? = some vi from rfl) hgr19
            obtain ⟨hone19, hone19'⟩ := own_oneI hN19
            refine s_nil ?_
            refine then_g ?_
            refine g_pure rfl (look_indexAddr 0 Try.underlying80 szTry_37 rfl rfl rfl rfl rfl (by omega)) ?_
            refine g_late rfl ?_
            refine s_storeRow (ce := scv) (kv := fun v => v) (u := v19) (j := 0) szTry_37 (fun _ => rfl) hone19 hone19' (by rfl) (by rfl) hO19 (by omega) (by simp) ?_
            intro u20 hk20 hT20
            obtain ⟨hq20, hm20⟩ := RW.push hQ (show [vi][0]? = some vi from rfl) (show [l][0]? = some l from rfl) hN19 hgr19 hat19 hk20 hT20
            replace hX := Ext.rm hX hm20 hQ hn
            have tpg1 := (hm20.blk _ hB1.lt spg1).2
            have tpg2 := (hm20.blk _ hB2.lt spg2).2
            have tpg3 := (hm20.blk _ hB3.lt spg3).2
            have tpg9 := (hm20.blk _ hB9.lt spg9).2
            have tpgc := (hm20.blk _ hC.lt spgc).2
            have tpg13 := (hm20.blk _ hB13.lt spg13).2
            replace hB1 := Blk.rm hB1 hm20 spg1
            replace hB2 := Blk.rm hB2 hm20 spg2
            replace hB3 := Blk.rm hB3 hm20 spg3
            replace hB9 := Blk.rm hB9 hm20 spg9
            replace hC := CR.rm hC hm20 spgc
            replace hB13 := Blk.rm hB13 hm20 spg13
            clear spg1
            have spg1 := tpg1
            clear tpg1
            clear spg2
            have spg2 := tpg2
            clear tpg2
            clear spg3
            have spg3 := tpg3
            clear tpg3
            clear spg9
            have spg9 := tpg9
            clear tpg9
            clear spgc
            have spgc := tpgc
            clear tpgc
            clear spg13
            have spg13 := tpg13
            clear tpg13
            clear hQ
            have hQ := hq20
            refine s_nil ?_
            refine then_g ?_
            refine g_nil ?_
            refine inB_normal ?_
            refine then_normal ?_
            refine region_s ?_
            refine q_look (look_move rfl rfl) ?_
            refine q_look (look_add rfl rfl rfl rfl (by have := maxLen_is; unfold I64; omega)) ?_
            refine q_look (look_assign rfl rfl) ?_
            refine q_nil ?_
            rintro _ rfl
            exact loop_end ((k + 1, v19, l ++ [plI g b (k : Int)])) (by simp only []; omega) ⟨rfl, rfl, rfl, rfl, rfl, rfl, rfl, rfl, rfl, trivial⟩ ⟨hX, hB1, hB2, hB3, hB9, hB13, hC, spg1, spg2, spg3, spg9, spgc, spg13, hQ, by show k + 1 ≤ 7; omega, by rw [hl]; exact range_snoc (fun kk => plI g b ((kk : Nat) : Int)) k⟩
          · have hk7 : ¬ ((k : Int) < 7) := nn_f hc49
            obtain rfl : k = 7 := by omega
            refine wp_exit ?_
            refine then_exit ?_
            refine then_exit ?_
            refine inB_exit_same ?_
            refine then_normal ?_
            refine wp_seq ?_
            refine wp_seq ?_
            refine region_s ?_
            refine q_look (look_assign rfl rfl) ?_
            refine q_nil ?_
            rintro _ rfl
            refine then_normal ?_
            refine wp_block ?_
            refine loop_act (fun (ls : Nat × List Int × Nat × Nat × List Value × List (List Int)) => [(1, .slice (some ⟨bfr, ofr, none⟩) frs.length fc), (3, .int .i64 bend), (4, .pointer (some ⟨g1, 0, none⟩)), (8, .pointer (some ⟨g3, 0, none⟩)), (9, .pointer (some ⟨g9, 0, none⟩)), (11, .pointer (some ⟨g13, 0, none⟩)), (12, .slice (some ⟨ls.2.2.1, 0, none⟩) ls.2.2.2.2.1.length ls.2.2.2.1), (14, .int .i64 (ls.1 : Int))]) (fun ls w' => (Ext w w') ∧ (Blk w' g1 24 (gcell g)) ∧ (Blk w' g3 56 (tcell zG (.slice none 0 0))) ∧ (Blk w' g9 56 (tcell g (.slice (some ⟨gc, 0, none⟩) N N))) ∧ (Blk w' g13 59 (ways.flatMap ccell)) ∧ (CR w.heap.size w' gc ls.2.1) ∧ (RSep ls.2.2.1 ls.2.2.2.2.1 g1) ∧ (RSep ls.2.2.1 ls.2.2.2.2.1 g3) ∧ (RSep ls.2.2.1 ls.2.2.2.2.1 g9) ∧ (RSep ls.2.2.1 ls.2.2.2.2.1 gc) ∧ (RSep ls.2.2.1 ls.2.2.2.2.1 g13) ∧ (RW n0 w' ls.2.2.1 ls.2.2.2.1 ls.2.2.2.2.1 ls.2.2.2.2.2) ∧ (RI g bend b E0 ls.2.1 ls.2.2.2.2.2 ls.1 0) ∧ (ls.1 ≤ ls.2.2.2.2.2.length) ∧ (RB ls.2.1 ls.2.2.2.2.2 7)) (fun ls => 96864769 - ls.1) ((0, cs, gv, 1, [vi], [l])) ?_ ?_ ?_
            · exact ⟨rfl, rfl, rfl, rfl, rfl, rfl, rfl, rfl, trivial⟩
            · exact ⟨hX, hB1, hB3, hB9, hB13, hC, spg1, spg3, spg9, spgc, spg13, hQ, RI.start hfb (by rw [hlc]; omega) hcs hl, Nat.zero_le _, ⟨by show 1 ≤ _; omega, fun m l' hm => by rw [one_get hm, hl]; simp⟩⟩
            · rintro ⟨n, cs, gv, vc, vs, lss⟩ σ wr hF
              obtain ⟨hX, hB1, hB3, hB9, hB13, hC, spg1, spg3, spg9, spgc, spg13, hQ, hI, hnn, hR⟩ : (Ext w wr) ∧ (Blk wr g1 24 (gcell g)) ∧ (Blk wr g3 56 (tcell zG (.slice none 0 0))) ∧ (Blk wr g9 56 (tcell g (.slice (some ⟨gc, 0, none⟩) N N))) ∧ (Blk wr g13 59 (ways.flatMap ccell)) ∧ (CR w.heap.size wr gc cs) ∧ (RSep gv vs g1) ∧ (RSep gv vs g3) ∧ (RSep gv vs g9) ∧ (RSep gv vs gc) ∧ (RSep gv vs g13) ∧ (RW n0 wr gv vc vs lss) ∧ (RI g bend b E0 cs lss n 0) ∧ (n ≤ lss.length) ∧ (RB cs lss 7) := hF
              show Code.wp _ _ _ (act 177 [(1, true, .slice (some ⟨bfr, ofr, none⟩) frs.length fc), (3, true, .int .i64 bend), (4, true, .pointer (some ⟨g1, 0, none⟩)), (8, true, .pointer (some ⟨g3, 0, none⟩)), (9, true, .pointer (some ⟨g9, 0, none⟩)), (11, true, .pointer (some ⟨g13, 0, none⟩)), (12, true, .slice (some ⟨gv, 0, none⟩) vs.length vc), (14, true, .int .i64 (n : Int))] _) _
              refine wp_seq ?_
              refine wp_seq ?_
              have hvl := hQ.len
              have hcn := cnt_le cs
              have hcl := hC_len hI hN
              have hR1 := hR.1
              refine region_s ?_
              refine q_look (look_move rfl rfl) ?_
              refine q_look (look_move rfl rfl) ?_
              refine q_look (look_len_slice Try.underlying80 rfl rfl) ?_
              refine q_look (look_lss rfl rfl rfl rfl) ?_
              refine q_nil ?_
              rintro _ rfl
              refine then_normal ?_
              refine cond_split rfl (fun hc66 => ?_) (fun hc66 => ?_)
              · have hlt : n < lss.length := by have := nn_t hc66; omega
                obtain ⟨ln, hln⟩ := get_lt hlt
                refine wp_skip ?_
                refine then_normal ?_
                refine wp_seq ?_
                refine wp_block ?_
                refine wp_seq ?_
                refine region_s ?_
                refine q_look (look_assign rfl rfl) ?_
                refine q_nil ?_
                rintro _ rfl
                refine then_normal ?_
                refine wp_block ?_
                refine loop_act (fun (ls : Nat × List Int × Nat × Nat × List Value × List (List Int)) => [(1, .slice (some ⟨bfr, ofr, none⟩) frs.length fc), (3, .int .i64 bend), (4, .pointer (some ⟨g1, 0, none⟩)), (8, .pointer (some ⟨g3, 0, none⟩)), (9, .pointer (some ⟨g9, 0, none⟩)), (11, .pointer (some ⟨g13, 0, none⟩)), (12, .slice (some ⟨ls.2.2.1, 0, none⟩) ls.2.2.2.2.1.length ls.2.2.2.1), (14, .int .i64 (n : Int)), (15, .int .i64 (ls.1 : Int))]) (fun ls w' => (Ext w w') ∧ (Blk w' g1 24 (gcell g)) ∧ (Blk w' g3 56 (tcell zG (.slice none 0 0))) ∧ (Blk w' g9 56 (tcell g (.slice (some ⟨gc, 0, none⟩) N N))) ∧ (Blk w' g13 59 (ways.flatMap ccell)) ∧ (CR w.heap.size w' gc ls.2.1) ∧ (RSep ls.2.2.1 ls.2.2.2.2.1 g1) ∧ (RSep ls.2.2.1 ls.2.2.2.2.1 g3) ∧ (RSep ls.2.2.1 ls.2.2.2.2.1 g9) ∧ (RSep ls.2.2.1 ls.2.2.2.2.1 gc) ∧ (RSep ls.2.2.1 ls.2.2.2.2.1 g13) ∧ (RW n0 w' ls.2.2.1 ls.2.2.2.1 ls.2.2.2.2.1 ls.2.2.2.2.2) ∧ (RI g bend b E0 ls.2.1 ls.2.2.2.2.2 n ls.1) ∧ (RB ls.2.1 ls.2.2.2.2.2 7) ∧ (ls.2.2.2.2.2[n]? = some ln)) (fun ls => ln.length - ls.1) ((0, cs, gv, vc, vs, lss)) ?_ ?_ ?_
                · exact ⟨rfl, rfl, rfl, rfl, rfl, rfl, rfl, rfl, rfl, trivial⟩
                · exact ⟨hX, hB1, hB3, hB9, hB13, hC, spg1, spg3, spg9, spgc, spg13, hQ, hI, hR, hln⟩
                · rintro ⟨i, cs, gv, vc, vs, lss⟩ σ wr hF
                  obtain ⟨hX, hB1, hB3, hB9, hB13, hC, spg1, spg3, spg9, spgc, spg13, hQ, hI, hR, hln⟩ : (Ext w wr) ∧ (Blk wr g1 24 (gcell g)) ∧ (Blk wr g3 56 (tcell zG (.slice none 0 0))) ∧ (Blk wr g9 56 (tcell g (.slice (some ⟨gc, 0, none⟩) N N))) ∧ (Blk wr g13 59 (ways.flatMap ccell)) ∧ (CR w.heap.size wr gc cs) ∧ (RSep gv vs g1) ∧ (RSep gv vs g3) ∧ (RSep gv vs g9) ∧ (RSep gv vs gc) ∧ (RSep gv vs g13) ∧ (RW n0 wr gv vc vs lss) ∧ (RI g bend b E0 cs lss n i) ∧ (RB cs lss 7) ∧ (lss[n]? = some ln) := hF
                  show Code.wp _ _ _ (act 177 [(1, true, .slice (some ⟨bfr, ofr, none⟩) frs.length fc), (3, true, .int .i64 bend), (4, true, .pointer (some ⟨g1, 0, none⟩)), (8, true, .pointer (some ⟨g3, 0, none⟩)), (9, true, .pointer (some ⟨g9, 0, none⟩)), (11, true, .pointer (some ⟨g13, 0, none⟩)), (12, true, .slice (some ⟨gv, 0, none⟩) vs.length vc), (14, true, .int .i64 (n : Int)), (15, true, .int .i64 (i : Int))] _) _
                  refine wp_seq ?_
                  refine wp_seq ?_
                  have hvl := hQ.len
                  have hcn := cnt_le cs
                  have hcl := hC_len hI hN
                  have hR1 := hR.1
                  have hnl := (List.getElem?_eq_some_iff.1 hln).1
                  have hln2 := hR.2 n ln hln
                  obtain ⟨vi, hvi⟩ := get_lt (show n < vs.length by omega)
                  have hrow := hQ.row n vi ln hvi hln
                  obtain ⟨Ai, ci, rfl, hSi, hci, _⟩ := hrow.sl hce_i
                  clear hrow
                  refine region_s ?_
                  refine q_look (look_move rfl rfl) ?_
                  refine q_look (look_move rfl rfl) ?_
                  refine q_look (look_move rfl rfl) ?_
                  refine q_look (look_indexAddr _ Try.underlying80 szTry_37 rfl rfl rfl rfl rfl (by omega)) ?_
                  refine q_look (look_load1 Try.underlying37 rfl rfl rfl (eqc ((hQ.own.rd hce_s n _ hvi) 0 _ rfl))) ?_
                  refine q_look (look_len_slice Try.underlying37 rfl rfl) ?_
                  refine q_look (look_lss rfl rfl rfl rfl) ?_
                  refine q_nil ?_
                  rintro _ rfl
                  refine then_normal ?_
                  refine cond_split rfl (fun hc75 => ?_) (fun hc75 => ?_)
                  · have hilt : i < ln.length := by have := nn_t hc75; omega
                    obtain ⟨a, hai⟩ := get_lt hilt
                    obtain ⟨bi, oi, rfl, hri⟩ := hSi.at_ hilt
                    clear hSi
                    obtain ⟨c0', k0, hf0, hk0, hae, _⟩ := hI.okw n ln hln a (mem_get hai)
                    have hab := plI_bd hf0.1 (nat7 hk0)
                    rw [← hae] at hab
                    have haN : a.toNat < N := by omega
                    obtain ⟨cv, hcv⟩ := get_lt (show a.toNat < cs.length by omega)
                    refine wp_skip ?_
                    refine then_normal ?_
                    refine wp_seq ?_
                    refine wp_block ?_
                    refine wp_seq ?_
                    refine region_s ?_
                    refine q_look (look_move rfl rfl) ?_
                    refine q_look (look_move rfl rfl) ?_
                    refine q_look (look_indexAddr _ Try.underlying80 szTry_37 rfl rfl rfl rfl rfl (by omega)) ?_
                    refine q_look (look_load1 Try.underlying37 rfl rfl rfl (eqc ((hQ.own.rd hce_s n _ hvi) 0 _ rfl))) ?_
                    refine q_look (look_move rfl rfl) ?_
                    refine q_look (look_indexAddr _ Try.underlying37 szTry_3 rfl rfl rfl rfl rfl (by omega)) ?_
                    refine q_look (look_load1 Try.underlying3 rfl rfl rfl (eqc ((hri i a hai) 0 _ rfl))) ?_
                    refine q_look (look_assign rfl rfl) ?_
                    refine q_nil ?_
                    rintro _ rfl
                    refine then_normal ?_
                    refine wp_seq ?_
                    refine wp_seq ?_
                    refine region_s ?_
                    refine q_look (look_fieldAddr Try.underlying56 rfl (fun _ _ => rfl) rfl rfl) ?_
                    refine q_look (look_load1 Try.underlying37 rfl rfl rfl (eqc (hB9.cell rfl))) ?_
                    refine q_look (look_move rfl rfl) ?_
                    refine q_look (look_indexAddr a.toNat Try.underlying37 szTry_3 rfl rfl rfl rfl (by omega) (by omega)) ?_
                    refine q_look (look_load1 Try.underlying3 rfl rfl rfl (eqc ((hC.rd a.toNat cv hcv) 0 _ rfl))) ?_
                    refine q_look (look_geq rfl rfl rfl rfl) ?_
                    refine q_nil ?_
                    rintro _ rfl
                    refine then_normal ?_
                    refine cond_split rfl (fun hc90 => ?_) (fun hc90 => ?_)
                    · have hcv0 : 0 ≤ cv := nn_t hc90
                      refine wp_exit ?_
                      refine then_exit ?_
                      refine inB_exit_same ?_
                      refine then_normal ?_
                      refine region_s ?_
                      refine q_look (look_move rfl rfl) ?_
                      refine q_look (look_add rfl rfl rfl rfl (by have := maxLen_is; unfold I64; omega)) ?_
                      refine q_look (look_assign rfl rfl) ?_
                      refine q_nil ?_
                      rintro _ rfl
                      exact loop_end ((i + 1, cs, gv, vc, vs, lss)) (by simp only []; omega) ⟨rfl, rfl, rfl, rfl, rfl, rfl, rfl, rfl, rfl, trivial⟩ ⟨hX, hB1, hB3, hB9, hB13, hC, spg1, spg3, spg9, spgc, spg13, hQ, hI.skip hln hai hcv hcv0, hR, hln⟩
                    · have hcv0 : ¬ 0 ≤ cv := nn_f hc90
                      obtain rfl : cv = -1 := by rcases hI.val _ _ hcv with e | e; exact e; exact absurd e.1 hcv0
                      obtain ⟨c, k, hfc, hk7, he, hS, hkn, hI2⟩ := hI.mark hln hai hcv
                      have hR2 := hR.set hcv (n := (n : Int)) (by omega)
                      have hcs2 := cnt_set hcv (n := (n : Int)) (by omega)
                      have hdec := plI_dec hfc.1 (nat7 hk7)
                      have hpk := pl_max hs hfc.1
                      have hnz := (szA_iff.1 hs).2.2
                      have hny := (szA_iff.1 hs).2.1
                      have hq1 := Int.ediv_nonneg (a := plK g c) (b := g.nz) (by omega) (by omega)
                      have hq2 := Int.ediv_le_self (a := plK g c) g.nz (by omega)
                      refine wp_skip ?_
                      refine then_normal ?_
                      refine wp_seq ?_
                      refine wp_region_lit ?_
                      refine s_look (look_fieldAddr Try.underlying56 rfl (fun _ _ => rfl) rfl rfl) ?_
                      refine s_look (look_load1 Try.underlying37 rfl rfl rfl (eqc (hB9.cell rfl))) ?_
                      refine s_look (look_move rfl rfl) ?_
                      refine s_look (look_move rfl rfl) ?_
                      refine s_look (look_indexAddr a.toNat Try.underlying37 szTry_3 rfl rfl rfl rfl (by omega) (by omega)) ?_
                      refine s_storeRow (ce := icell) (kv := vI) (u := (n : Int)) (j := a.toNat) szTry_3 (fun _ => rfl) rfl rfl (by rfl) (by rfl) hC (by omega) (by omega) ?_
                      intro u21 hk21 hO21
                      have hT21 := CR.of_set hO21
                      replace hX := hX.kp hk21 (by omega)
                      replace hB1 := hB1.kp hk21 (by omega)
                      replace hB3 := hB3.kp hk21 (by omega)
                      replace hB9 := hB9.kp hk21 (by omega)
                      replace hB13 := hB13.kp hk21 (by omega)
                      replace hQ := hQ.kp hk21 spgc
                      clear hC
                      have hC := hT21
                      refine s_nil ?_
                      obtain ⟨cs2, hcs3⟩ : ∃ cs2, cs2 = cs.set a.toNat (n : Int) := ⟨_, rfl⟩
                      rw [← hcs3] at hC hkn hI2 hR2 hcs2
                      have hnB : n + 1001 ≤ 1001 * cnt cs2 := by omega
                      have hcl2 : cs2.length = N := by rw [hcs3, List.length_set]; exact hcl
                      have hcn2 := cnt_le cs2
                      refine then_normal ?_
                      refine wp_seq ?_
                      refine region_s ?_
                      refine q_look (look_move rfl rfl) ?_
                      refine q_look (Look.as (look_rem rfl rfl rfl rfl (by omega) (by omega)) (v' := .int .i64 (k : Int)) (by rw [he, hdec.1])) ?_
                      refine q_look (look_assign rfl rfl) ?_
                      refine q_nil ?_
                      rintro _ rfl
                      refine then_normal ?_
                      refine wp_seq ?_
                      refine wp_seq ?_
                      refine region_s ?_
                      refine q_look (look_move rfl rfl) ?_
                      refine q_look (look_eql rfl rfl rfl rfl) ?_
                      refine q_nil ?_
                      rintro _ rfl
                      refine then_normal ?_
                      refine cond_split rfl (fun hc99 => ?_) (fun hc99 => ?_)
                      · have hk6 : (k : Int) = 6 := nn_t hc99
                        refine wp_exit ?_
                        refine then_exit ?_
                        refine inB_exit_same ?_
                        refine then_normal ?_
                        refine region_s ?_
                        refine q_look (look_move rfl rfl) ?_
                        refine q_look (look_add rfl rfl rfl rfl (by have := maxLen_is; unfold I64; omega)) ?_
                        refine q_look (look_assign rfl rfl) ?_
                        refine q_nil ?_
                        rintro _ rfl
                        exact loop_end ((i + 1, cs2, gv, vc, vs, lss)) (by simp only []; omega) ⟨rfl, rfl, rfl, rfl, rfl, rfl, rfl, rfl, rfl, trivial⟩ ⟨hX, hB1, hB3, hB9, hB13, hC, spg1, spg3, spg9, spgc, spg13, hQ, hI2.drop hkn (.inl (by omega)), hR2.wk (by omega), hln⟩
                      · have hk6 : ¬ (k : Int) = 6 := nn_f hc99
                        have hk6' : k < 6 := by omega
                        have hdw := dk_way hk6'
                        have hsw : subW c (dk k) = csub c (dk k) := subW_way hs hfc.1 hdw.1
                        obtain ⟨fr, hfrd⟩ : ∃ fr, fr = csub c (dk k) := ⟨_, rfl⟩
                        refine wp_skip ?_
                        refine then_normal ?_
                        refine wp_seq ?_
                        refine region_s ?_
                        refine q_look (look_move rfl rfl) ?_
                        refine q_look (Look.as (look_quo rfl rfl rfl rfl (by omega) (by omega) (by omega)) (v' := .int .i64 (plK g c)) (by rw [he, hdec.2.1])) ?_
                        refine q_look (look_assign rfl rfl) ?_
                        refine q_nil ?_
                        rintro _ rfl
                        refine then_normal ?_
                        refine wp_seq ?_
                        refine region_h (fun W => Blk W g1 24 (gcell g)) [(0, true), (1, true), (2, true), (3, true), (4, true), (5, true), (6, true), (7, true), (8, true), (9, true), (10, true), (11, true), (12, true), (13, true), (14, true), (15, true), (16, true), (17, true), (18, true), (19, false), (20, false)] mixed (by kernel_rfl) rfl (by kernel_rfl) (by repeat (first | exact pk_body | refine pk_then ?_ | refine pk_block ?_))  ?_
                        intro u22 hR22
                        replace hQ := hQ.ext hR22
                        replace hX := hX.comp hR22
                        replace hB1 := hB1.ext hR22
                        replace hB3 := hB3.ext hR22
                        replace hB9 := hB9.ext hR22
                        replace hC := hC.ext hR22
                        replace hB13 := hB13.ext hR22
                        refine ⟨hB1, ?_⟩
                        refine h_look rfl (look_move rfl rfl) ?_
                        refine h_look rfl (look_fieldAddr Try.underlying24 rfl (fun _ _ => rfl) rfl rfl) ?_
                        refine h_look rfl (look_load1 Try.underlying3 rfl rfl rfl (fun w' hS => (hS).cell rfl)) ?_
                        refine h_look rfl (look_quo rfl rfl rfl rfl (by omega) (by omega) (by omega)) ?_
                        refine h_look rfl (look_fieldAddr Try.underlying24 rfl (fun _ _ => rfl) rfl rfl) ?_
                        refine h_look rfl (look_load1 Try.underlying3 rfl rfl rfl (fun w' hS => (hS).cell rfl)) ?_
                        refine h_look rfl (Look.as (look_quo rfl rfl rfl rfl (by omega) (by omega) (by omega)) (v' := .int .i64 c.x) (by rw [hdec.2.2.1])) ?_
                        refine h_look rfl (look_move rfl rfl) ?_
                        refine h_look rfl (look_fieldAddr Try.underlying24 rfl (fun _ _ => rfl) rfl rfl) ?_
                        refine h_look rfl (look_load1 Try.underlying3 rfl rfl rfl (fun w' hS => (hS).cell rfl)) ?_
                        refine h_look rfl (look_quo rfl rfl rfl rfl (by omega) (by omega) (by omega)) ?_
                        refine h_look rfl (look_fieldAddr Try.underlying24 rfl (fun _ _ => rfl) rfl rfl) ?_
                        refine h_look rfl (look_load1 Try.underlying3 rfl rfl rfl (fun w' hS => (hS).cell rfl)) ?_
                        refine h_look rfl (Look.as (look_rem rfl rfl rfl rfl (by omega) (by omega)) (v' := .int .i64 c.y) (by rw [hdec.2.2.2.1])) ?_
                        refine h_look rfl (look_move rfl rfl) ?_
                        refine h_look rfl (look_fieldAddr Try.underlying24 rfl (fun _ _ => rfl) rfl rfl) ?_
                        refine h_look rfl (look_load1 Try.underlying3 rfl rfl rfl (fun w' hS => (hS).cell rfl)) ?_
                        refine h_look rfl (Look.as (look_rem rfl rfl rfl rfl (by omega) (by omega)) (v' := .int .i64 c.z) (by rw [hdec.2.2.2.2])) ?_
                        refine h_look rfl (look_build (pl := [(0, 1), (1, 1), (2, 1)]) (parts := [(0, .tmp 108), (1, .tmp 115), (2, .tmp 119)]) (vs := [(0, .int .i64 c.x), (1, .int .i64 c.y), (2, .int .i64 c.z)]) (cells := ccell c) Try.underlying26 zeTry_26 (by kernel_rfl) ⟨⟨_, rfl, rfl⟩, ⟨_, rfl, rfl⟩, ⟨_, rfl, rfl⟩, trivial⟩ rfl (by kernel_rfl)) ?_
                        refine h_seq rfl ?_ hB1
                        refine s_alloc zeTry_26 ?_
                        intro g23 u23 hu23 hB23 hg23 hs23
                        have spg23 : RSep gv vs g23 := RSep.new hQ (by omega)
                        have lt_g1_g23 : g1 < g23 := by have := hB1.lt; omega
                        have lt_g3_g23 : g3 < g23 := by have := hB3.lt; omega
                        have lt_g9_g23 : g9 < g23 := by have := hB9.lt; omega
                        have lt_gc_g23 : gc < g23 := by have := hC.lt; omega
                        have lt_g13_g23 : g13 < g23 := by have := hB13.lt; omega
                        have ge_g23 : w.heap.size ≤ g23 := by have := hX.size; omega
                        replace hQ := hQ.ext hu23
                        replace hX := hX.comp hu23
                        replace hB1 := hB1.ext hu23
                        replace hB3 := hB3.ext hu23
                        replace hB9 := hB9.ext hu23
                        replace hC := hC.ext hu23
                        replace hB13 := hB13.ext hu23
                        refine s_nil ?_
                        refine then_normal ?_
                        refine ⟨hB1, ?_⟩
                        refine h_seq rfl ?_ hB1
                        refine s_store szTry_26 rfl (by simp [ccell, gcell, itcell, rcell, tcell, Value.cells, Value.oneCell']) rfl rfl hB23 rfl ?_
                        intro u24 hk24 hT24
                        replace hT24 : Blk u24 g23 26 (ccell c) := hT24
                        replace hX := hX.kp hk24 (by omega)
                        replace hB1 := hB1.kp hk24 (by omega)
                        replace hB3 := hB3.kp hk24 (by omega)
                        replace hB9 := hB9.kp hk24 (by omega)
                        replace hC := hC.kp hk24 (by omega)
                        replace hB13 := hB13.kp hk24 (by omega)
                        replace hQ := hQ.kp hk24 spg23
                        clear hB23
                        have hB23 := hT24
                        refine s_nil ?_
                        refine then_normal ?_
                        refine ⟨hB1, ?_⟩
                        refine h_nil ?_
                        refine then_normal ?_
                        refine seq_cut (ds := []) (n := 177) (fun (g20 : Nat) => [(1, .slice (some ⟨bfr, ofr, none⟩) frs.length fc), (3, .int .i64 bend), (4, .pointer (some ⟨g1, 0, none⟩)), (8, .pointer (some ⟨g3, 0, none⟩)), (9, .pointer (some ⟨g9, 0, none⟩)), (11, .pointer (some ⟨g13, 0, none⟩)), (12, .slice (some ⟨gv, 0, none⟩) vs.length vc), (14, .int .i64 (n : Int)), (15, .int .i64 (i : Int)), (17, .int .i64 (k : Int)), (20, .pointer (some ⟨g20, 0, none⟩))]) (fun g20 w' => (Ext w w') ∧ (Blk w' g1 24 (gcell g)) ∧ (Blk w' g3 56 (tcell zG (.slice none 0 0))) ∧ (Blk w' g9 56 (tcell g (.slice (some ⟨gc, 0, none⟩) N N))) ∧ (Blk w' g13 59 (ways.flatMap ccell)) ∧ (CR w.heap.size w' gc cs2) ∧ (RSep gv vs g1) ∧ (RSep gv vs g3) ∧ (RSep gv vs g9) ∧ (RSep gv vs gc) ∧ (RSep gv vs g13) ∧ (RW n0 w' gv vc vs lss) ∧ (Blk w' g20 26 (ccell fr)) ∧ (RSep gv vs g20)) ?_ ?_
                        · refine region_t (fun W => Blk W g23 26 (ccell c) ∧ Blk W g13 59 (ways.flatMap ccell)) (.eager 0 (.eager 1 (.eager 2 (.eager 3 (.fork 4 5 (.alone 5 (.alone 6 .nil)) (.alone 4 (.alone 6 .nil))))))) mixed (by kernel_rfl) rfl (by kernel_rfl) (by repeat (first | exact pk_body | refine pk_then ?_ | refine pk_block ?_))  ?_
                          intro u25 hR25
                          replace hQ := hQ.ext hR25
                          replace hX := hX.comp hR25
                          replace hB1 := hB1.ext hR25
                          replace hB3 := hB3.ext hR25
                          replace hB9 := hB9.ext hR25
                          replace hC := hC.ext hR25
                          replace hB13 := hB13.ext hR25
                          replace hB23 := hB23.ext hR25
                          refine ⟨⟨hB23, hB13⟩, ?_⟩
                          refine t_look rfl (look_loadN Try.underlying26 rfl szTry_26 rfl rfl rfl (fun w' hS j v hv => by rw [Nat.zero_add]; exact (hS.1).cell hv)) ?_
                          refine t_look rfl (look_move rfl rfl) ?_
                          refine t_look rfl (look_indexAddr_arr _ Try.underlying59 szTry_26 rfl rfl rfl rfl rfl (by omega)) ?_
                          refine t_look rfl (look_loadN Try.underlying26 rfl szTry_26 rfl rfl rfl (cs := ccell (dk k)) (fun w' hS => ((Blk.sl hce_c hS.2).rd k (dk k) hdw.2))) ?_
                          refine t_fork rfl rfl ?_ ?_
                          · refine s_call (vs := [_, _]) enTry_39 ⟨⟨_, rfl, rfl⟩, ⟨_, rfl, rfl⟩, trivial⟩ (minus_any c (dk k) _) ?_
                            rintro _ u26 ⟨rfl, hc26⟩
                            refine ⟨_, rfl, ?_⟩
                            replace hQ := hQ.ext hc26
                            replace hX := hX.comp hc26
                            replace hB1 := hB1.ext hc26
                            replace hB3 := hB3.ext hc26
                            replace hB9 := hB9.ext hc26
                            replace hC := hC.ext hc26
                            replace hB13 := hB13.ext hc26
                            replace hB23 := hB23.ext hc26
                            refine s_nil ?_
                            refine then_normal ?_
                            refine ⟨⟨hB23, hB13⟩, ?_⟩
                            refine t_seq rfl ?_
                            refine s_alloc zeTry_26 ?_
                            intro g27 u27 hu27 hB27 hg27 hs27
                            have spg27 : RSep gv vs g27 := RSep.new hQ (by omega)
                            have lt_g1_g27 : g1 < g27 := by have := hB1.lt; omega
                            have lt_g3_g27 : g3 < g27 := by have := hB3.lt; omega
                            have lt_g9_g27 : g9 < g27 := by have := hB9.lt; omega
                            have lt_gc_g27 : gc < g27 := by have := hC.lt; omega
                            have lt_g13_g27 : g13 < g27 := by have := hB13.lt; omega
                            have lt_g23_g27 : g23 < g27 := by have := hB23.lt; omega
                            have ge_g27 : w.heap.size ≤ g27 := by have := hX.size; omega
                            replace hQ := hQ.ext hu27
                            replace hX := hX.comp hu27
                            replace hB1 := hB1.ext hu27
                            replace hB3 := hB3.ext hu27
                            replace hB9 := hB9.ext hu27
                            replace hC := hC.ext hu27
                            replace hB13 := hB13.ext hu27
                            replace hB23 := hB23.ext hu27
                            refine s_nil ?_
                            refine then_normal ?_
                            refine ⟨⟨hB23, hB13⟩, ?_⟩
                            refine t_seq rfl ?_
                            refine s_store szTry_26 rfl (by simp [ccell, gcell, itcell, rcell, tcell, Value.cells, Value.oneCell']) rfl rfl hB27 rfl ?_
                            intro u28 hk28 hT28
                            replace hT28 : Blk u28 g27 26 (ccell (subW c (dk k))) := hT28
                            replace hX := hX.kp hk28 (by omega)
                            replace hB1 := hB1.kp hk28 (by omega)
                            replace hB3 := hB3.kp hk28 (by omega)
                            replace hB9 := hB9.kp hk28 (by omega)
                            replace hC := hC.kp hk28 (by omega)
                            replace hB13 := hB13.kp hk28 (by omega)
                            replace hB23 := hB23.kp hk28 (by omega)
                            replace hQ := hQ.kp hk28 spg27
                            clear hB27
                            have hB27 := hT28
                            refine s_nil ?_
                            refine then_normal ?_
                            refine ⟨⟨hB23, hB13⟩, ?_⟩
                            refine t_nil ?_
                            exact cut_end g27 ⟨rfl, rfl, rfl, rfl, rfl, rfl, rfl, rfl, rfl, rfl, rfl, trivial⟩ ⟨hX, hB1, hB3, hB9, hB13, hC, spg1, spg3, spg9, spgc, spg13, hQ, (by rw [hfrd, ← hsw]; exact hB27), spg27⟩
                          · refine s_alloc zeTry_26 ?_
                            intro g29 u29 hu29 hB29 hg29 hs29
                            have spg29 : RSep gv vs g29 := RSep.new hQ (by omega)
                            have lt_g1_g29 : g1 < g29 := by have := hB1.lt; omega
                            have lt_g3_g29 : g3 < g29 := by have := hB3.lt; omega
                            have lt_g9_g29 : g9 < g29 := by have := hB9.lt; omega
                            have lt_gc_g29 : gc < g29 := by have := hC.lt; omega
                            have lt_g13_g29 : g13 < g29 := by have := hB13.lt; omega
                            have lt_g23_g29 : g23 < g29 := by have := hB23.lt; omega
                            have ge_g29 : w.heap.size ≤ g29 := by have := hX.size; omega
                            replace hQ := hQ.ext hu29
                            replace hX := hX.comp hu29
                            replace hB1 := hB1.ext hu29
                            replace hB3 := hB3.ext hu29
                            replace hB9 := hB9.ext hu29
                            replace hC := hC.ext hu29
                            replace hB13 := hB13.ext hu29
                            replace hB23 := hB23.ext hu29
                            refine s_nil ?_
                            refine then_normal ?_
                            refine ⟨⟨hB23, hB13⟩, ?_⟩
                            refine t_seq rfl ?_
                            refine s_call (vs := [_, _]) enTry_39 ⟨⟨_, rfl, rfl⟩, ⟨_, rfl, rfl⟩, trivial⟩ (minus_any c (dk k) _) ?_
                            rintro _ u30 ⟨rfl, hc30⟩
                            refine ⟨_, rfl, ?_⟩
                            replace hQ := hQ.ext hc30
                            replace hX := hX.comp hc30
                            replace hB1 := hB1.ext hc30
                            replace hB3 := hB3.ext hc30
                            replace hB9 := hB9.ext hc30
                            replace hC := hC.ext hc30
                            replace hB13 := hB13.ext hc30
                            replace hB23 := hB23.ext hc30
                            replace hB29 := hB29.ext hc30
                            refine s_nil ?_
                            refine then_normal ?_
                            refine ⟨⟨hB23, hB13⟩, ?_⟩
                            refine t_seq rfl ?_
                            refine s_store szTry_26 rfl (by simp [ccell, gcell, itcell, rcell, tcell, Value.cells, Value.oneCell']) rfl rfl hB29 rfl ?_
                            intro u31 hk31 hT31
                            replace hT31 : Blk u31 g29 26 (ccell (subW c (dk k))) := hT31
                            replace hX := hX.kp hk31 (by omega)
                            replace hB1 := hB1.kp hk31 (by omega)
                            replace hB3 := hB3.kp hk31 (by omega)
                            replace hB9 := hB9.kp hk31 (by omega)
                            replace hC := hC.kp hk31 (by omega)
                            replace hB13 := hB13.kp hk31 (by omega)
                            replace hB23 := hB23.kp hk31 (by omega)
                            replace hQ := hQ.kp hk31 spg29
                            clear hB29
                            have hB29 := hT31
                            refine s_nil ?_
                            refine then_normal ?_
                            refine ⟨⟨hB23, hB13⟩, ?_⟩
                            refine t_nil ?_
                            exact cut_end g29 ⟨rfl, rfl, rfl, rfl, rfl, rfl, rfl, rfl, rfl, rfl, rfl, trivial⟩ ⟨hX, hB1, hB3, hB9, hB13, hC, spg1, spg3, spg9, spgc, spg13, hQ, (by rw [hfrd, ← hsw]; exact hB29), spg29⟩
                        · rintro g20 σ wr hF
                          obtain ⟨hX, hB1, hB3, hB9, hB13, hC, spg1, spg3, spg9, spgc, spg13, hQ, hB20, spg20⟩ : (Ext w wr) ∧ (Blk wr g1 24 (gcell g)) ∧ (Blk wr g3 56 (tcell zG (.slice none 0 0))) ∧ (Blk wr g9 56 (tcell g (.slice (some ⟨gc, 0, none⟩) N N))) ∧ (Blk wr g13 59 (ways.flatMap ccell)) ∧ (CR w.heap.size wr gc cs2) ∧ (RSep gv vs g1) ∧ (RSep gv vs g3) ∧ (RSep gv vs g9) ∧ (RSep gv vs gc) ∧ (RSep gv vs g13) ∧ (RW n0 wr gv vc vs lss) ∧ (Blk wr g20 26 (ccell fr)) ∧ (RSep gv vs g20) := hF
                          show Code.wp _ _ _ (act 177 [(1, true, .slice (some ⟨bfr, ofr, none⟩) frs.length fc), (3, true, .int .i64 bend), (4, true, .pointer (some ⟨g1, 0, none⟩)), (8, true, .pointer (some ⟨g3, 0, none⟩)), (9, true, .pointer (some ⟨g9, 0, none⟩)), (11, true, .pointer (some ⟨g13, 0, none⟩)), (12, true, .slice (some ⟨gv, 0, none⟩) vs.length vc), (14, true, .int .i64 (n : Int)), (15, true, .int .i64 (i : Int)), (17, true, .int .i64 (k : Int)), (20, true, .pointer (some ⟨g20, 0, none⟩))] _) _
                          refine wp_seq ?_
                          refine wp_seq ?_
                          refine region_q ?_
                          refine q_look (look_loadN Try.underlying24 rfl szTry_24 rfl rfl rfl (ext_cell_n hB1)) ?_
                          refine q_look (look_loadN Try.underlying26 rfl szTry_26 rfl rfl rfl (ext_cell_n hB20)) ?_
                          refine q_call (vs := [_, _]) enTry_14 ⟨⟨_, rfl, rfl⟩, ⟨_, rfl, rfl⟩, trivial⟩ (fun wc hw => cext hw (refin_any g fr wc)) ?_
                          refine q_look (look_not rfl rfl) ?_
                          refine q_look (look_move rfl rfl) ?_
                          refine q_lookg rfl rfl rfl (fun hq => look_move rfl rfl) ?_
                          refine q_lookg rfl rfl rfl (fun hq => look_loadN Try.underlying56 rfl szTry_56 rfl rfl rfl (ext_cell_n hB9)) ?_
                          refine q_lookg rfl rfl rfl (fun hq => look_loadN Try.underlying26 rfl szTry_26 rfl rfl rfl (ext_cell_n hB20)) ?_
                          refine q_callg (vs := [_, _, _]) rfl rfl rfl enTry_22 (fun hq => ⟨⟨_, rfl, hq⟩, ⟨_, rfl, hq⟩, ⟨_, rfl, rfl⟩, trivial⟩) (fun hq wc hw => cext hw (place_any g (.slice (some ⟨gc, 0, none⟩) N N) fr 0 wc hs (nt_f (gq_f hq)) (by omega))) ?_
                          refine q_lookg rfl rfl rfl (fun hq => Look.as (look_quo rfl hq rfl rfl (plI_bd (nt_f (gq_f hq)) (by omega)).1 (by have h8 : plI g fr 0 < g.nx * g.ny * g.nz * 7 := (plI_bd (nt_f (gq_f hq)) (by omega)).2; have h9 := vol_bd hs; omega) (by omega)) (v' := .int .i64 (plK g fr)) (by rw [(plI_dec (k := 0) (nt_f (gq_f hq)) (by omega)).2.1])) ?_
                          refine q_lookg rfl rfl rfl (fun hq => look_indexAddr (plK g fr).toNat Try.underlying54 szTry_4 rfl hq rfl hq (by have := plK_bd (nt_f (gq_f hq)); omega) (by have := plK_bd (nt_f (gq_f hq)); omega)) ?_
                          refine q_lookg rfl rfl rfl (fun hq => look_load1 Try.underlying4 rfl rfl hq (ext_cell (((hFr.ext hX).rd (plK g fr).toNat (!decide (fr ∈ g.bl)) (hfr fr (nt_f (gq_f hq)))) 0 _ rfl))) ?_
                          refine q_lookg rfl rfl rfl (fun hq => look_not rfl hq) ?_
                          refine q_look (look_or rfl rfl rfl rfl) ?_
                          refine q_nil ?_
                          intro w1 hw1
                          replace hQ := hQ.ext hw1
                          replace hX := hX.comp hw1
                          replace hB1 := hB1.ext hw1
                          replace hB3 := hB3.ext hw1
                          replace hB9 := hB9.ext hw1
                          replace hB13 := hB13.ext hw1
                          replace hC := hC.ext hw1
                          replace hB20 := hB20.ext hw1
                          refine then_normal ?_
                          refine cond_split rfl (fun hc139 => ?_) (fun hc139 => ?_)
                          · have hnf : ¬ Fre g (csub c (dk k)) := hfrd ▸ bl_t hc139
                            refine wp_exit ?_
                            refine then_exit ?_
                            refine inB_exit_same ?_
                            refine then_normal ?_
                            refine region_s ?_
                            refine q_look (look_move rfl rfl) ?_
                            refine q_look (look_add rfl rfl rfl rfl (by have := maxLen_is; unfold I64; omega)) ?_
                            refine q_look (look_assign rfl rfl) ?_
                            refine q_nil ?_
                            rintro _ rfl
                            exact loop_end ((i + 1, cs2, gv, vc, vs, lss)) (by simp only []; omega) ⟨rfl, rfl, rfl, rfl, rfl, rfl, rfl, rfl, rfl, trivial⟩ ⟨hX, hB1, hB3, hB9, hB13, hC, spg1, spg3, spg9, spgc, spg13, hQ, hI2.drop hkn (.inr (.inl hnf)), hR2.wk (by omega), hln⟩
                          · have hff : Fre g fr := bl_f hc139
                            refine wp_skip ?_
                            refine then_normal ?_
                            refine wp_seq ?_
                            refine region_s ?_
                            refine q_look (look_assign rfl rfl) ?_
                            refine q_nil ?_
                            rintro _ rfl
                            refine then_normal ?_
                            refine wp_block ?_
                            refine loop_act (fun (ls : Nat × Nat × Nat × List Value × List (List Int)) => [(1, .slice (some ⟨bfr, ofr, none⟩) frs.length fc), (3, .int .i64 bend), (4, .pointer (some ⟨g1, 0, none⟩)), (8, .pointer (some ⟨g3, 0, none⟩)), (9, .pointer (some ⟨g9, 0, none⟩)), (11, .pointer (some ⟨g13, 0, none⟩)), (12, .slice (some ⟨ls.2.1, 0, none⟩) ls.2.2.2.1.length ls.2.2.1), (14, .int .i64 (n : Int)), (15, .int .i64 (i : Int)), (17, .int .i64 (k : Int)), (20, .pointer (some ⟨g20, 0, none⟩)), (21, .int .i64 (ls.1 : Int))]) (fun ls w' => (Ext w w') ∧ (Blk w' g1 24 (gcell g)) ∧ (Blk w' g3 56 (tcell zG (.slice none 0 0))) ∧ (Blk w' g9 56 (tcell g (.slice (some ⟨gc, 0, none⟩) N N))) ∧ (Blk w' g13 59 (ways.flatMap ccell)) ∧ (CR w.heap.size w' gc cs2) ∧ (RSep ls.2.1 ls.2.2.2.1 g1) ∧ (RSep ls.2.1 ls.2.2.2.1 g3) ∧ (RSep ls.2.1 ls.2.2.2.1 g9) ∧ (RSep ls.2.1 ls.2.2.2.1 gc) ∧ (RSep ls.2.1 ls.2.2.2.1 g13) ∧ (RSep ls.2.1 ls.2.2.2.1 g20) ∧ (Blk w' g20 26 (ccell fr)) ∧ (RW n0 w' ls.2.1 ls.2.2.1 ls.2.2.2.1 ls.2.2.2.2) ∧ (RI g bend b (fun c' k' => c' = c ∧ k' = k) cs2 ls.2.2.2.2 n (i + 1)) ∧ (RB cs2 ls.2.2.2.2 ls.1) ∧ (∀ j, j < ls.1 → Cv g cs2 ls.2.2.2.2 n (i + 1) (csub c (dk k)) j ((n : Int) + stepP bend (dk j) (dk k))) ∧ (ls.2.2.2.2[n]? = some ln) ∧ (ls.1 ≤ 7)) (fun ls => 7 - ls.1) ((0, gv, vc, vs, lss)) ?_ ?_ ?_
                            · exact ⟨rfl, rfl, rfl, rfl, rfl, rfl, rfl, rfl, rfl, rfl, rfl, rfl, trivial⟩
                            · exact ⟨hX, hB1, hB3, hB9, hB13, hC, spg1, spg3, spg9, spgc, spg13, spg20, hB20, hQ, hI2, hR2, fun j hj => absurd hj (Nat.not_lt_zero j), hln, Nat.zero_le _⟩
                            · rintro ⟨bf, gv, vc, vs, lss⟩ σ wr hF
                              obtain ⟨hX, hB1, hB3, hB9, hB13, hC, spg1, spg3, spg9, spgc, spg13, spg20, hB20, hQ, hI, hR, hcov, hln, hbf⟩ : (Ext w wr) ∧ (Blk wr g1 24 (gcell g)) ∧ (Blk wr g3 56 (tcell zG (.slice none 0 0))) ∧ (Blk wr g9 56 (tcell g (.slice (some ⟨gc, 0, none⟩) N N))) ∧ (Blk wr g13 59 (ways.flatMap ccell)) ∧ (CR w.heap.size wr gc cs2) ∧ (RSep gv vs g1) ∧ (RSep gv vs g3) ∧ (RSep gv vs g9) ∧ (RSep gv vs gc) ∧ (RSep gv vs g13) ∧ (RSep gv vs g20) ∧ (Blk wr g20 26 (ccell fr)) ∧ (RW n0 wr gv vc vs lss) ∧ (RI g bend b (fun c' k' => c' = c ∧ k' = k) cs2 lss n (i + 1)) ∧ (RB cs2 lss bf) ∧ (∀ j, j < bf → Cv g cs2 lss n (i + 1) (csub c (dk k)) j ((n : Int) + stepP bend (dk j) (dk k))) ∧ (lss[n]? = some ln) ∧ (bf ≤ 7) := hF
                              show Code.wp _ _ _ (act 177 [(1, true, .slice (some ⟨bfr, ofr, none⟩) frs.length fc), (3, true, .int .i64 bend), (4, true, .pointer (some ⟨g1, 0, none⟩)), (8, true, .pointer (some ⟨g3, 0, none⟩)), (9, true, .pointer (some ⟨g9, 0, none⟩)), (11, true, .pointer (some ⟨g13, 0, none⟩)), (12, true, .slice (some ⟨gv, 0, none⟩) vs.length vc), (14, true, .int .i64 (n : Int)), (15, true, .int .i64 (i : Int)), (17, true, .int .i64 (k : Int)), (20, true, .pointer (some ⟨g20, 0, none⟩)), (21, true, .int .i64 (bf : Int))] _) _
                              refine wp_seq ?_
                              refine wp_seq ?_
                              refine region_s ?_
                              refine q_look (look_move rfl rfl) ?_
                              refine q_look (look_lss rfl rfl rfl rfl) ?_
                              refine q_nil ?_
                              rintro _ rfl
                              refine then_normal ?_
                              refine cond_split rfl (fun hc141 => ?_) (fun hc141 => ?_)
                              · have hbf7 : (bf : Int) < 7 := nn_t hc141
                                refine wp_skip ?_
                                refine then_normal ?_
                                refine wp_seq ?_
                                refine wp_block ?_
                                refine wp_seq ?_
                                refine region_s ?_
                                refine q_look (look_move rfl rfl) ?_
                                refine q_look (look_add rfl rfl rfl rfl (by have := hR.1; unfold I64; omega)) ?_
                                refine q_look (look_assign rfl rfl) ?_
                                refine q_nil ?_
                                rintro _ rfl
                                refine then_normal ?_
                                refine wp_seq ?_
                                refine wp_seq ?_
                                refine region_s ?_
                                refine q_look (look_move rfl rfl) ?_
                                refine q_look (look_lss rfl rfl rfl rfl) ?_
                                refine q_look (look_move rfl rfl) ?_
                                refine q_lookg rfl rfl rfl (fun hq => look_move rfl rfl) ?_
                                refine q_lookg rfl rfl rfl (fun hq => look_move rfl rfl) ?_
                                refine q_lookg rfl rfl rfl (fun hq => look_neq rfl hq rfl hq) ?_
                                refine q_look (look_and rfl rfl rfl rfl) ?_
                                refine q_nil ?_
                                rintro _ rfl
                                refine then_normal ?_
                                refine cond_split rfl (fun hc152 => ?_) (fun hc152 => ?_)
                                · obtain ⟨mm, hmm⟩ : ∃ mm : Nat, (n : Int) + 1 + bend = (mm : Int) := ⟨((n : Int) + 1 + bend).toNat, by omega⟩
                                  have hmv : (mm : Int) = (n : Int) + stepP bend (dk bf) (dk k) := by rw [step_t hc152 (by omega) hk6']; omega
                                  refine region_s ?_
                                  refine q_look (look_move rfl rfl) ?_
                                  refine q_look (look_move rfl rfl) ?_
                                  refine q_look (look_add rfl rfl rfl rfl (by have := hR.1; unfold I64; omega)) ?_
                                  refine q_look (look_assign rfl rfl) ?_
                                  refine q_nil ?_
                                  rintro _ rfl
                                  refine then_normal ?_
                                  refine wp_seq ?_
                                  refine wp_block ?_
                                  refine loop_act (fun (ls : Nat × Nat × List Value × List (List Int)) => [(1, .slice (some ⟨bfr, ofr, none⟩) frs.length fc), (3, .int .i64 bend), (4, .pointer (some ⟨g1, 0, none⟩)), (8, .pointer (some ⟨g3, 0, none⟩)), (9, .pointer (some ⟨g9, 0, none⟩)), (11, .pointer (some ⟨g13, 0, none⟩)), (12, .slice (some ⟨ls.1, 0, none⟩) ls.2.2.1.length ls.2.1), (14, .int .i64 (n : Int)), (15, .int .i64 (i : Int)), (17, .int .i64 (k : Int)), (20, .pointer (some ⟨g20, 0, none⟩)), (21, .int .i64 (bf : Int)), (22, .int .i64 (mm : Int))]) (fun ls w' => (Ext w w') ∧ (Blk w' g1 24 (gcell g)) ∧ (Blk w' g3 56 (tcell zG (.slice none 0 0))) ∧ (Blk w' g9 56 (tcell g (.slice (some ⟨gc, 0, none⟩) N N))) ∧ (Blk w' g13 59 (ways.flatMap ccell)) ∧ (CR w.heap.size w' gc cs2) ∧ (RSep ls.1 ls.2.2.1 g1) ∧ (RSep ls.1 ls.2.2.1 g3) ∧ (RSep ls.1 ls.2.2.1 g9) ∧ (RSep ls.1 ls.2.2.1 gc) ∧ (RSep ls.1 ls.2.2.1 g13) ∧ (RSep ls.1 ls.2.2.1 g20) ∧ (Blk w' g20 26 (ccell fr)) ∧ (RW n0 w' ls.1 ls.2.1 ls.2.2.1 ls.2.2.2) ∧ (RI g bend b (fun c' k' => c' = c ∧ k' = k) cs2 ls.2.2.2 n (i + 1)) ∧ (RB cs2 ls.2.2.2 bf) ∧ (∀ j, j < bf → Cv g cs2 ls.2.2.2 n (i + 1) (csub c (dk k)) j ((n : Int) + stepP bend (dk j) (dk k))) ∧ (ls.2.2.2[n]? = some ln)) (fun ls => mm + 1 - ls.2.2.2.length) ((gv, vc, vs, lss)) ?_ ?_ ?_
                                  · exact ⟨rfl, rfl, rfl, rfl, rfl, rfl, rfl, rfl, rfl, rfl, rfl, rfl, (by rw [hmm]; rfl), trivial⟩
                                  · exact ⟨hX, hB1, hB3, hB9, hB13, hC, spg1, spg3, spg9, spgc, spg13, spg20, hB20, hQ, hI, hR, hcov, hln⟩
                                  · rintro ⟨gv, vc, vs, lss⟩ σ wr hF
                                    obtain ⟨hX, hB1, hB3, hB9, hB13, hC, spg1, spg3, spg9, spgc, spg13, spg20, hB20, hQ, hI, hR, hcov, hln⟩ : (Ext w wr) ∧ (Blk wr g1 24 (gcell g)) ∧ (Blk wr g3 56 (tcell zG (.slice none 0 0))) ∧ (Blk wr g9 56 (tcell g (.slice (some ⟨gc, 0, none⟩) N N))) ∧ (Blk wr g13 59 (ways.flatMap ccell)) ∧ (CR w.heap.size wr gc cs2) ∧ (RSep gv vs g1) ∧ (RSep gv vs g3) ∧ (RSep gv vs g9) ∧ (RSep gv vs gc) ∧ (RSep gv vs g13) ∧ (RSep gv vs g20) ∧ (Blk wr g20 26 (ccell fr)) ∧ (RW n0 wr gv vc vs lss) ∧ (RI g bend b (fun c' k' => c' = c ∧ k' = k) cs2 lss n (i + 1)) ∧ (RB cs2 lss bf) ∧ (∀ j, j < bf → Cv g cs2 lss n (i + 1) (csub c (dk k)) j ((n : Int) + stepP bend (dk j) (dk k))) ∧ (lss[n]? = some ln) := hF
                                    show Code.wp _ _ _ (act 177 [(1, true, .slice (some ⟨bfr, ofr, none⟩) frs.length fc), (3, true, .int .i64 bend), (4, true, .pointer (some ⟨g1, 0, none⟩)), (8, true, .pointer (some ⟨g3, 0, none⟩)), (9, true, .pointer (some ⟨g9, 0, none⟩)), (11, true, .pointer (some ⟨g13, 0, none⟩)), (12, true, .slice (some ⟨gv, 0, none⟩) vs.length vc), (14, true, .int .i64 (n : Int)), (15, true, .int .i64 (i : Int)), (17, true, .int .i64 (k : Int)), (20, true, .pointer (some ⟨g20, 0, none⟩)), (21, true, .int .i64 (bf : Int)), (22, true, .int .i64 (mm : Int))] _) _
                                    refine wp_seq ?_
                                    refine wp_seq ?_
                                    have hvl := hQ.len
                                    have hR1 := hR.1
                                    have hsb := stepP_bd hb.1 (dk bf) (dk k)
                                    refine region_s ?_
                                    refine q_look (look_move rfl rfl) ?_
                                    refine q_look (look_len_slice Try.underlying80 rfl rfl) ?_
                                    refine q_look (look_move rfl rfl) ?_
                                    refine q_look (look_leq rfl rfl rfl rfl) ?_
                                    refine q_nil ?_
                                    rintro _ rfl
                                    refine then_normal ?_
                                    refine cond_split rfl (fun hc159 => ?_) (fun hc159 => ?_)
                                    · have hle : lss.length ≤ mm := by have := nn_t hc159; omega
                                      refine wp_skip ?_
                                      refine then_normal ?_
                                      refine wp_block ?_
                                      refine wp_region_lit ?_
                                      refine s_look (look_move rfl rfl) ?_
                                      refine s_buildSlice (parts := [(0, .const (Go.Value.slice none 0 0))]) (vs := [(0, .slice none 0 0)]) (cells := scv (.slice none 0 0)) Try.underlying80 szTry_37 zeTry_37 rfl rfl ⟨⟨_, rfl, rfl⟩, trivial⟩ rfl (by kernel_rfl) ?_
                                      intro g32 u32 hu32 hB32 hg32 hs32
                                      have spg32 : RSep gv vs g32 := RSep.new hQ (by omega)
                                      have lt_g1_g32 : g1 < g32 := by have := hB1.lt; omega
                                      have lt_g3_g32 : g3 < g32 := by have := hB3.lt; omega
                                      have lt_g9_g32 : g9 < g32 := by have := hB9.lt; omega
                                      have lt_g13_g32 : g13 < g32 := by have := hB13.lt; omega
                                      have lt_gc_g32 : gc < g32 := by have := hC.lt; omega
                                      have lt_g20_g32 : g20 < g32 := by have := hB20.lt; omega
                                      have ge_g32 : w.heap.size ≤ g32 := by have := hX.size; omega
                                      replace hQ := hQ.ext hu32
                                      replace hX := hX.comp hu32
                                      replace hB1 := hB1.ext hu32
                                      replace hB3 := hB3.ext hu32
                                      replace hB9 := hB9.ext hu32
                                      replace hB13 := hB13.ext hu32
                                      replace hC := hC.ext hu32
                                      replace hB20 := hB20.ext hu32
                                      refine s_appendL (ce := scv) (news := [.slice none 0 0]) Try.underlying80 zsbTry_37 rfl rfl rfl hQ.own rfl (Blk.src (x := Value.slice none 0 0) rfl (by simp [scv, Value.oneCell']) hB32) (by have := maxLen_is; simp only [List.length_cons, List.length_nil]; omega) (by simp only [List.length_cons, List.length_nil]; omega) (by have := hQ.lt; omega) ?_
                                      intro v33 u33 hN33 hgr33 hat33
                                      obtain ⟨gv33, vc33, rfl, hq33, hm33⟩ := hQ.nil hN33 hgr33 hat33
                                      replace hX := Ext.rm hX hm33 hQ hn
                                      have tpg1 := (hm33.blk _ hB1.lt spg1).2
                                      have tpg3 := (hm33.blk _ hB3.lt spg3).2
                                      have tpg9 := (hm33.blk _ hB9.lt spg9).2
                                      have tpgc := (hm33.blk _ hC.lt spgc).2
                                      have tpg13 := (hm33.blk _ hB13.lt spg13).2
                                      have tpg20 := (hm33.blk _ hB20.lt spg20).2
                                      replace hB1 := Blk.rm hB1 hm33 spg1
                                      replace hB3 := Blk.rm hB3 hm33 spg3
                                      replace hB9 := Blk.rm hB9 hm33 spg9
                                      replace hC := CR.rm hC hm33 spgc
                                      replace hB13 := Blk.rm hB13 hm33 spg13
                                      replace hB20 := Blk.rm hB20 hm33 spg20
                                      clear spg1
                                      have spg1 := tpg1
                                      clear tpg1
                                      clear spg3
                                      have spg3 := tpg3
                                      clear tpg3
                                      clear spg9
                                      have spg9 := tpg9
                                      clear tpg9
                                      clear spgc
                                      have spgc := tpgc
                                      clear tpgc
                                      clear spg13
                                      have spg13 := tpg13
                                      clear tpg13
                                      clear spg20
                                      have spg20 := tpg20
                                      clear tpg20
                                      clear hQ
                                      have hQ := hq33
                                      refine s_look (look_assign rfl rfl) ?_
                                      refine s_nil ?_
                                      refine inB_normal ?_
                                      exact loop_end ((gv33, vc33, vs ++ [.slice none 0 0], lss ++ [[]])) (by show mm + 1 - (lss ++ [[]]).length < mm + 1 - lss.length; rw [List.length_append, List.length_singleton]; omega) ⟨rfl, rfl, rfl, rfl, rfl, rfl, rfl, rfl, rfl, rfl, rfl, rfl, rfl, trivial⟩ ⟨hX, hB1, hB3, hB9, hB13, hC, spg1, spg3, spg9, spgc, spg13, spg20, hB20, hQ, hI.nil.1, hR.nil (by omega), fun j hj => hI.nil.2 _ _ _ (hcov j hj), (by show (lss ++ [[]])[n]? = some ln; rw [List.getElem?_append_left (List.getElem?_eq_some_iff.1 hln).1]; exact hln)⟩
                                    · have hmlt : mm < lss.length := by have := nn_f hc159; omega
                                      obtain ⟨lm, hlm⟩ := get_lt hmlt
                                      obtain ⟨vm, hvm⟩ := get_lt (show mm < vs.length by omega)
                                      have hnm : n < mm := by omega
                                      have hlm2 := hR.2 mm lm hlm
                                      have hPu := hI.push hlm hnm hff (k := bf) (by omega) (by rw [hfrd, hmv]; exact hS.back hfc hdw.1)
                                      refine wp_exit ?_
                                      refine then_exit ?_
                                      refine then_exit ?_
                                      refine inB_exit_same ?_
                                      refine then_normal ?_
                                      refine region_g (fun W => Blk W g9 56 (tcell g (.slice (some ⟨gc, 0, none⟩) N N)) ∧ Blk W g20 26 (ccell fr) ∧ RW n0 W gv vc vs lss) [11, 13] [(0, 2), (1, 2), (2, 2), (3, 2), (4, 2), (5, 1), (6, 1), (7, 1), (8, 2), (9, 0), (10, 0), (11, 3), (12, 2), (13, 3)] mixed (by kernel_rfl) rfl (by kernel_rfl) (by repeat (first | exact pk_body | refine pk_then ?_ | refine pk_block ?_)) ?_
                                      intro u34 hR34
                                      replace hQ := hQ.ext hR34
                                      replace hX := hX.comp hR34
                                      replace hB1 := hB1.ext hR34
                                      replace hB3 := hB3.ext hR34
                                      replace hB9 := hB9.ext hR34
                                      replace hB13 := hB13.ext hR34
                                      replace hC := hC.ext hR34
                                      replace hB20 := hB20.ext hR34
                                      refine ⟨⟨hB9, hB20, hQ⟩, ?_⟩
                                      refine g_pure rfl (look_move rfl rfl) ?_
                                      refine g_pure rfl (look_move rfl rfl) ?_
                                      refine g_pure rfl (look_move rfl rfl) ?_
                                      refine g_pure rfl (look_move rfl rfl) ?_
                                      refine g_pure rfl (look_indexAddr _ Try.underlying80 szTry_37 rfl rfl rfl rfl rfl (by omega)) ?_
                                      refine g_look rfl (look_load1 Try.underlying37 rfl rfl rfl (fun w' hS => (hS.2.2.own.rd hce_s mm vm hvm) 0 _ rfl)) ?_
                                      refine g_look rfl (look_loadN Try.underlying56 rfl szTry_56 rfl rfl rfl (fun w' hS j v hv => by rw [Nat.zero_add]; exact (hS.1).cell hv)) ?_
                                      refine g_look rfl (look_loadN Try.underlying26 rfl szTry_26 rfl rfl rfl (fun w' hS j v hv => by rw [Nat.zero_add]; exact (hS.2.1).cell hv)) ?_
                                      refine g_pure rfl (look_move rfl rfl) ?_
                                      refine g_seq rfl ?_ ⟨hB9, hB20, hQ⟩
                                      refine s_call (vs := [_, _, _]) enTry_22 ⟨⟨_, rfl, rfl⟩, ⟨_, rfl, rfl⟩, ⟨_, rfl, rfl⟩, trivial⟩ (place_any g (.slice (some ⟨gc, 0, none⟩) N N) fr (bf : Int) _ hs hff.1 (by omega)) ?_
                                      rintro _ u35 ⟨rfl, hc35⟩
                                      refine ⟨_, rfl, ?_⟩
                                      replace hQ := hQ.ext hc35
                                      replace hX := hX.comp hc35
                                      replace hB1 := hB1.ext hc35
                                      replace hB3 := hB3.ext hc35
                                      replace hB9 := hB9.ext hc35
                                      replace hB13 := hB13.ext hc35
                                      replace hC := hC.ext hc35
                                      replace hB20 := hB20.ext hc35
                                      refine s_nil ?_
                                      refine then_normal ?_
                                      refine ⟨⟨hB9, hB20, hQ⟩, ?_⟩
                                      refine g_seq rfl ?_ ⟨hB9, hB20, hQ⟩
                                      refine s_buildSlice (parts := [(0, .tmp 172)]) (vs := [(0, .int .i64 (plI g fr (bf : Int)))]) (cells := icell (plI g fr (bf : Int))) Try.underlying37 szTry_3 zeTry_3 rfl rfl ⟨⟨_, rfl, rfl⟩, trivial⟩ rfl (by kernel_rfl) ?_
                                      intro g36 u36 hu36 hB36 hg36 hs36
                                      have spg36 : RSep gv vs g36 := RSep.new hQ (by omega)
                                      have lt_g1_g36 : g1 < g36 := by have := hB1.lt; omega
                                      have lt_g3_g36 : g3 < g36 := by have := hB3.lt; omega
                                      have lt_g9_g36 : g9 < g36 := by have := hB9.lt; omega
                                      have lt_g13_g36 : g13 < g36 := by have := hB13.lt; omega
                                      have lt_gc_g36 : gc < g36 := by have := hC.lt; omega
                                      have lt_g20_g36 : g20 < g36 := by have := hB20.lt; omega
                                      have ge_g36 : w.heap.size ≤ g36 := by have := hX.size; omega
                                      replace hQ := hQ.ext hu36
                                      replace hX := hX.comp hu36
                                      replace hB1 := hB1.ext hu36
                                      replace hB3 := hB3.ext hu36
                                      replace hB9 := hB9.ext hu36
                                      replace hB13 := hB13.ext hu36
                                      replace hC := hC.ext hu36
                                      replace hB20 := hB20.ext hu36
                                      refine s_nil ?_
                                      refine then_normal ?_
                                      refine ⟨⟨hB9, hB20, hQ⟩, ?_⟩
                                      refine g_late rfl ?_
                                      refine s_appendL (ce := icell) (news := [plI g fr (bf : Int)]) Try.underlying37 zsbTry_3 rfl rfl rfl (hQ.row _ vm lm hvm hlm) rfl (Blk.src (x := plI g fr (bf : Int)) rfl (by simp [icell, Value.oneCell']) hB36) (by have := maxLen_is; simp only [List.length_cons, List.length_nil]; omega) (by simp only [List.length_cons, List.length_nil]; omega) (by have := hQ.lt; omega) ?_
                                      intro v37 u37 hN37 hgr37 hat37
                                      have hO37 := hQ.mid hvm hgr37
                                      obtain ⟨hone37, hone37'⟩ := own_oneI hN37
                                      refine s_nil ?_
                                      refine then_g ?_
                                      refine g_pure rfl (look_indexAddr _ Try.underlying80 szTry_37 rfl rfl rfl rfl rfl (by omega)) ?_
                                      refine g_late rfl ?_
                                      refine s_storeRow (ce := scv) (kv := fun v => v) (u := v37) (j := mm) szTry_37 (fun _ => rfl) hone37 hone37' (by rfl) (by rfl) hO37 (by omega) (by omega) ?_
                                      intro u38 hk38 hT38
                                      obtain ⟨hq38, hm38⟩ := RW.push hQ hvm hlm hN37 hgr37 hat37 hk38 hT38
                                      replace hX := Ext.rm hX hm38 hQ hn
                                      have tpg1 := (hm38.blk _ hB1.lt spg1).2
                                      have tpg3 := (hm38.blk _ hB3.lt spg3).2
                                      have tpg9 := (hm38.blk _ hB9.lt spg9).2
                                      have tpgc := (hm38.blk _ hC.lt spgc).2
                                      have tpg13 := (hm38.blk _ hB13.lt spg13).2
                                      have tpg20 := (hm38.blk _ hB20.lt spg20).2
                                      replace hB1 := Blk.rm hB1 hm38 spg1
                                      replace hB3 := Blk.rm hB3 hm38 spg3
                                      replace hB9 := Blk.rm hB9 hm38 spg9
                                      replace hC := CR.rm hC hm38 spgc
                                      replace hB13 := Blk.rm hB13 hm38 spg13
                                      replace hB20 := Blk.rm hB20 hm38 spg20
                                      clear spg1
                                      have spg1 := tpg1
                                      clear tpg1
                                      clear spg3
                                      have spg3 := tpg3
                                      clear tpg3
                                      clear spg9
                                      have spg9 := tpg9
                                      clear tpg9
                                      clear spgc
                                      have spgc := tpgc
                                      clear tpgc
                                      clear spg13
                                      have spg13 := tpg13
                                      clear tpg13
                                      clear spg20
                                      have spg20 := tpg20
                                      clear tpg20
                                      clear hQ
                                      have hQ := hq38
                                      refine s_nil ?_
                                      refine then_g ?_
                                      refine g_nil ?_
                                      refine inB_normal ?_
                                      refine then_normal ?_
                                      refine region_s ?_
                                      refine q_look (look_move rfl rfl) ?_
                                      refine q_look (look_add rfl rfl rfl rfl (by have := maxLen_is; unfold I64; omega)) ?_
                                      refine q_look (look_assign rfl rfl) ?_
                                      refine q_nil ?_
                                      rintro _ rfl
                                      exact loop_end ((bf + 1, gv, vc, vs.set mm v37, lss.set mm (lm ++ [plI g fr (bf : Int)]))) (by simp only []; omega) ⟨rfl, rfl, rfl, rfl, rfl, rfl, (by show some (true, Value.slice _ vs.length _) = some (true, Value.slice _ (vs.set mm _).length _); rw [List.length_set]), rfl, rfl, rfl, rfl, rfl, trivial⟩ ⟨hX, hB1, hB3, hB9, hB13, hC, spg1, spg3, spg9, spgc, spg13, spg20, hB20, hQ, hPu.1, hR.push hlm, cov_next hfrd hPu.2 hmv hcov, (by show (lss.set mm _)[n]? = some ln; rw [List.getElem?_set, if_neg (by omega)]; exact hln), by show bf + 1 ≤ 7; omega⟩
                                · obtain ⟨mm, hmm⟩ : ∃ mm : Nat, (n : Int) + 1 = (mm : Int) := ⟨n + 1, by omega⟩
                                  have hmv : (mm : Int) = (n : Int) + stepP bend (dk bf) (dk k) := by rw [step_f hc152 (by omega) hk6']; omega
                                  refine wp_skip ?_
                                  refine then_normal ?_
                                  refine wp_seq ?_
                                  refine wp_block ?_
                                  refine loop_act (fun (ls : Nat × Nat × List Value × List (List Int)) => [(1, .slice (some ⟨bfr, ofr, none⟩) frs.length fc), (3, .int .i64 bend), (4, .pointer (some ⟨g1, 0, none⟩)), (8, .pointer (some ⟨g3, 0, none⟩)), (9, .pointer (some ⟨g9, 0, none⟩)), (11, .pointer (some ⟨g13, 0, none⟩)), (12, .slice (some ⟨ls.1, 0, none⟩) ls.2.2.1.length ls.2.1), (14, .int .i64 (n : Int)), (15, .int .i64 (i : Int)), (17, .int .i64 (k : Int)), (20, .pointer (some ⟨g20, 0, none⟩)), (21, .int .i64 (bf : Int)), (22, .int .i64 (mm : Int))]) (fun ls w' => (Ext w w') ∧ (Blk w' g1 24 (gcell g)) ∧ (Blk w' g3 56 (tcell zG (.slice none 0 0))) ∧ (Blk w' g9 56 (tcell g (.slice (some ⟨gc, 0, none⟩) N N))) ∧ (Blk w' g13 59 (ways.flatMap ccell)) ∧ (CR w.heap.size w' gc cs2) ∧ (RSep ls.1 ls.2.2.1 g1) ∧ (RSep ls.1 ls.2.2.1 g3) ∧ (RSep ls.1 ls.2.2.1 g9) ∧ (RSep ls.1 ls.2.2.1 gc) ∧ (RSep ls.1 ls.2.2.1 g13) ∧ (RSep ls.1 ls.2.2.1 g20) ∧ (Blk w' g20 26 (ccell fr)) ∧ (RW n0 w' ls.1 ls.2.1 ls.2.2.1 ls.2.2.2) ∧ (RI g bend b (fun c' k' => c' = c ∧ k' = k) cs2 ls.2.2.2 n (i + 1)) ∧ (RB cs2 ls.2.2.2 bf) ∧ (∀ j, j < bf → Cv g cs2 ls.2.2.2 n (i + 1) (csub c (dk k)) j ((n : Int) + stepP bend (dk j) (dk k))) ∧ (ls.2.2.2[n]? = some ln)) (fun ls => mm + 1 - ls.2.2.2.length) ((gv, vc, vs, lss)) ?_ ?_ ?_
                                  · exact ⟨rfl, rfl, rfl, rfl, rfl, rfl, rfl, rfl, rfl, rfl, rfl, rfl, (by rw [hmm]; rfl), trivial⟩
                                  · exact ⟨hX, hB1, hB3, hB9, hB13, hC, spg1, spg3, spg9, spgc, spg13, spg20, hB20, hQ, hI, hR, hcov, hln⟩
                                  · rintro ⟨gv, vc, vs, lss⟩ σ wr hF
                                    obtain ⟨hX, hB1, hB3, hB9, hB13, hC, spg1, spg3, spg9, spgc, spg13, spg20, hB20, hQ, hI, hR, hcov, hln⟩ : (Ext w wr) ∧ (Blk wr g1 24 (gcell g)) ∧ (Blk wr g3 56 (tcell zG (.slice none 0 0))) ∧ (Blk wr g9 56 (tcell g (.slice (some ⟨gc, 0, none⟩) N N))) ∧ (Blk wr g13 59 (ways.flatMap ccell)) ∧ (CR w.heap.size wr gc cs2) ∧ (RSep gv vs g1) ∧ (RSep gv vs g3) ∧ (RSep gv vs g9) ∧ (RSep gv vs gc) ∧ (RSep gv vs g13) ∧ (RSep gv vs g20) ∧ (Blk wr g20 26 (ccell fr)) ∧ (RW n0 wr gv vc vs lss) ∧ (RI g bend b (fun c' k' => c' = c ∧ k' = k) cs2 lss n (i + 1)) ∧ (RB cs2 lss bf) ∧ (∀ j, j < bf → Cv g cs2 lss n (i + 1) (csub c (dk k)) j ((n : Int) + stepP bend (dk j) (dk k))) ∧ (lss[n]? = some ln) := hF
                                    show Code.wp _ _ _ (act 177 [(1, true, .slice (some ⟨bfr, ofr, none⟩) frs.length fc), (3, true, .int .i64 bend), (4, true, .pointer (some ⟨g1, 0, none⟩)), (8, true, .pointer (some ⟨g3, 0, none⟩)), (9, true, .pointer (some ⟨g9, 0, none⟩)), (11, true, .pointer (some ⟨g13, 0, none⟩)), (12, true, .slice (some ⟨gv, 0, none⟩) vs.length vc), (14, true, .int .i64 (n : Int)), (15, true, .int .i64 (i : Int)), (17, true, .int .i64 (k : Int)), (20, true, .pointer (some ⟨g20, 0, none⟩)), (21, true, .int .i64 (bf : Int)), (22, true, .int .i64 (mm : Int))] _) _
                                    refine wp_seq ?_
                                    refine wp_seq ?_
                                    have hvl := hQ.len
                                    have hR1 := hR.1
                                    have hsb := stepP_bd hb.1 (dk bf) (dk k)
                                    refine region_s ?_
                                    refine q_look (look_move rfl rfl) ?_
                                    refine q_look (look_len_slice Try.underlying80 rfl rfl) ?_
                                    refine q_look (look_move rfl rfl) ?_
                                    refine q_look (look_leq rfl rfl rfl rfl) ?_
                                    refine q_nil ?_
                                    rintro _ rfl
                                    refine then_normal ?_
                                    refine cond_split rfl (fun hc159 => ?_) (fun hc159 => ?_)
                                    · have hle : lss.length ≤ mm := by have := nn_t hc159; omega
                                      refine wp_skip ?_
                                      refine then_normal ?_
                                      refine wp_block ?_
                                      refine wp_region_lit ?_
                                      refine s_look (look_move rfl rfl) ?_
                                      refine s_buildSlice (parts := [(0, .const (Go.Value.slice none 0 0))]) (vs := [(0, .slice none 0 0)]) (cells := scv (.slice none 0 0)) Try.underlying80 szTry_37 zeTry_37 rfl rfl ⟨⟨_, rfl, rfl⟩, trivial⟩ rfl (by kernel_rfl) ?_
                                      intro g39 u39 hu39 hB39 hg39 hs39
                                      have spg39 : RSep gv vs g39 := RSep.new hQ (by omega)
                                      have lt_g1_g39 : g1 < g39 := by have := hB1.lt; omega
                                      have lt_g3_g39 : g3 < g39 := by have := hB3.lt; omega
                                      have lt_g9_g39 : g9 < g39 := by have := hB9.lt; omega
                                      have lt_g13_g39 : g13 < g39 := by have := hB13.lt; omega
                                      have lt_gc_g39 : gc < g39 := by have := hC.lt; omega
                                      have lt_g20_g39 : g20 < g39 := by have := hB20.lt; omega
                                      have ge_g39 : w.heap.size ≤ g39 := by have := hX.size; omega
                                      replace hQ := hQ.ext hu39
                                      replace hX := hX.comp hu39
                                      replace hB1 := hB1.ext hu39
                                      replace hB3 := hB3.ext hu39
                                      replace hB9 := hB9.ext hu39
                                      replace hB13 := hB13.ext hu39
                                      replace hC := hC.ext hu39
                                      replace hB20 := hB20.ext hu39
                                      refine s_appendL (ce := scv) (news := [.slice none 0 0]) Try.underlying80 zsbTry_37 rfl rfl rfl hQ.own rfl (Blk.src (x := Value.slice none 0 0) rfl (by simp [scv, Value.oneCell']) hB39) (by have := maxLen_is; simp only [List.length_cons, List.length_nil]; omega) (by simp only [List.length_cons, List.length_nil]; omega) (by have := hQ.lt; omega) ?_
                                      intro v40 u40 hN40 hgr40 hat40
                                      obtain ⟨gv40, vc40, rfl, hq40, hm40⟩ := hQ.nil hN40 hgr40 hat40
                                      replace hX := Ext.rm hX hm40 hQ hn
                                      have tpg1 := (hm40.blk _ hB1.lt spg1).2
                                      have tpg3 := (hm40.blk _ hB3.lt spg3).2
                                      have tpg9 := (hm40.blk _ hB9.lt spg9).2
                                      have tpgc := (hm40.blk _ hC.lt spgc).2
                                      have tpg13 := (hm40.blk _ hB13.lt spg13).2
                                      have tpg20 := (hm40.blk _ hB20.lt spg20).2
                                      replace hB1 := Blk.rm hB1 hm40 spg1
                                      replace hB3 := Blk.rm hB3 hm40 spg3
                                      replace hB9 := Blk.rm hB9 hm40 spg9
                                      replace hC := CR.rm hC hm40 spgc
                                      replace hB13 := Blk.rm hB13 hm40 spg13
                                      replace hB20 := Blk.rm hB20 hm40 spg20
                                      clear spg1
                                      have spg1 := tpg1
                                      clear tpg1
                                      clear spg3
                                      have spg3 := tpg3
                                      clear tpg3
                                      clear spg9
                                      have spg9 := tpg9
                                      clear tpg9
                                      clear spgc
                                      have spgc := tpgc
                                      clear tpgc
                                      clear spg13
                                      have spg13 := tpg13
                                      clear tpg13
                                      clear spg20
                                      have spg20 := tpg20
                                      clear tpg20
                                      clear hQ
                                      have hQ := hq40
                                      refine s_look (look_assign rfl rfl) ?_
                                      refine s_nil ?_
                                      refine inB_normal ?_
                                      exact loop_end ((gv40, vc40, vs ++ [.slice none 0 0], lss ++ [[]])) (by show mm + 1 - (lss ++ [[]]).length < mm + 1 - lss.length; rw [List.length_append, List.length_singleton]; omega) ⟨rfl, rfl, rfl, rfl, rfl, rfl, rfl, rfl, rfl, rfl, rfl, rfl, rfl, trivial⟩ ⟨hX, hB1, hB3, hB9, hB13, hC, spg1, spg3, spg9, spgc, spg13, spg20, hB20, hQ, hI.nil.1, hR.nil (by omega), fun j hj => hI.nil.2 _ _ _ (hcov j hj), (by show (lss ++ [[]])[n]? = some ln; rw [List.getElem?_append_left (List.getElem?_eq_some_iff.1 hln).1]; exact hln)⟩
                                    · have hmlt : mm < lss.length := by have := nn_f hc159; omega
                                      obtain ⟨lm, hlm⟩ := get_lt hmlt
                                      obtain ⟨vm, hvm⟩ := get_lt (show mm < vs.length by omega)
                                      have hnm : n < mm := by omega
                                      have hlm2 := hR.2 mm lm hlm
                                      have hPu := hI.push hlm hnm hff (k := bf) (by omega) (by rw [hfrd, hmv]; exact hS.back hfc hdw.1)
                                      refine wp_exit ?_
                                      refine then_exit ?_
                                      refine then_exit ?_
                                      refine inB_exit_same ?_
                                      refine then_normal ?_
                                      refine region_g (fun W => Blk W g9 56 (tcell g (.slice (some ⟨gc, 0, none⟩) N N)) ∧ Blk W g20 26 (ccell fr) ∧ RW n0 W gv vc vs lss) [11, 13] [(0, 2), (1, 2), (2, 2), (3, 2), (4, 2), (5, 1), (6, 1), (7, 1), (8, 2), (9, 0), (10, 0), (11, 3), (12, 2), (13, 3)] mixed (by kernel_rfl) rfl (by kernel_rfl) (by repeat (first | exact pk_body | refine pk_then ?_ | refine pk_block ?_)) ?_
                                      intro u41 hR41
                                      replace hQ := hQ.ext hR41
                                      replace hX := hX.comp hR41
                                      replace hB1 := hB1.ext hR41
                                      replace hB3 := hB3.ext hR41
                                      replace hB9 := hB9.ext hR41
                                      replace hB13 := hB13.ext hR41
                                      replace hC := hC.ext hR41
                                      replace hB20 := hB20.ext hR41
                                      refine ⟨⟨hB9, hB20, hQ⟩, ?_⟩
                                      refine g_pure rfl (look_move rfl rfl) ?_
                                      refine g_pure rfl (look_move rfl rfl) ?_
                                      refine g_pure rfl (look_move rfl rfl) ?_
                                      refine g_pure rfl (look_move rfl rfl) ?_
                                      refine g_pure rfl (look_indexAddr _ Try.underlying80 szTry_37 rfl rfl rfl rfl rfl (by omega)) ?_
                                      refine g_look rfl (look_load1 Try.underlying37 rfl rfl rfl (fun w' hS => (hS.2.2.own.rd hce_s mm vm hvm) 0 _ rfl)) ?_
                                      refine g_look rfl (look_loadN Try.underlying56 rfl szTry_56 rfl rfl rfl (fun w' hS j v hv => by rw [Nat.zero_add]; exact (hS.1).cell hv)) ?_
                                      refine g_look rfl (look_loadN Try.underlying26 rfl szTry_26 rfl rfl rfl (fun w' hS j v hv => by rw [Nat.zero_add]; exact (hS.2.1).cell hv)) ?_
                                      refine g_pure rfl (look_move rfl rfl) ?_
                                      refine g_seq rfl ?_ ⟨hB9, hB20, hQ⟩
                                      refine s_call (vs := [_, _, _]) enTry_22 ⟨⟨_, rfl, rfl⟩, ⟨_, rfl, rfl⟩, ⟨_, rfl, rfl⟩, trivial⟩ (place_any g (.slice (some ⟨gc, 0, none⟩) N N) fr (bf : Int) _ hs hff.1 (by omega)) ?_
                                      rintro _ u42 ⟨rfl, hc42⟩
                                      refine ⟨_, rfl, ?_⟩
                                      replace hQ := hQ.ext hc42
                                      replace hX := hX.comp hc42
                                      replace hB1 := hB1.ext hc42
                                      replace hB3 := hB3.ext hc42
                                      replace hB9 := hB9.ext hc42
                                      replace hB13 := hB13.ext hc42
                                      replace hC := hC.ext hc42
                                      replace hB20 := hB20.ext hc42
                                      refine s_nil ?_
                                      refine then_normal ?_
                                      refine ⟨⟨hB9, hB20, hQ⟩, ?_⟩
                                      refine g_seq rfl ?_ ⟨hB9, hB20, hQ⟩
                                      refine s_buildSlice (parts := [(0, .tmp 172)]) (vs := [(0, .int .i64 (plI g fr (bf : Int)))]) (cells := icell (plI g fr (bf : Int))) Try.underlying37 szTry_3 zeTry_3 rfl rfl ⟨⟨_, rfl, rfl⟩, trivial⟩ rfl (by kernel_rfl) ?_
                                      intro g43 u43 hu43 hB43 hg43 hs43
                                      have spg43 : RSep gv vs g43 := RSep.new hQ (by omega)
                                      have lt_g1_g43 : g1 < g43 := by have := hB1.lt; omega
                                      have lt_g3_g43 : g3 < g43 := by have := hB3.lt; omega
                                      have lt_g9_g43 : g9 < g43 := by have := hB9.lt; omega
                                      have lt_g13_g43 : g13 < g43 := by have := hB13.lt; omega
                                      have lt_gc_g43 : gc < g43 := by have := hC.lt; omega
                                      have lt_g20_g43 : g20 < g43 := by have := hB20.lt; omega
                                      have ge_g43 : w.heap.size ≤ g43 := by have := hX.size; omega
                                      replace hQ := hQ.ext hu43
                                      replace hX := hX.comp hu43
                                      replace hB1 := hB1.ext hu43
                                      replace hB3 := hB3.ext hu43
                                      replace hB9 := hB9.ext hu43
                                      replace hB13 := hB13.ext hu43
                                      replace hC := hC.ext hu43
                                      replace hB20 := hB20.ext hu43
                                      refine s_nil ?_
                                      refine then_normal ?_
                                      refine ⟨⟨hB9, hB20, hQ⟩, ?_⟩
                                      refine g_late rfl ?_
                                      refine s_appendL (ce := icell) (news := [plI g fr (bf : Int)]) Try.underlying37 zsbTry_3 rfl rfl rfl (hQ.row _ vm lm hvm hlm) rfl (Blk.src (x := plI g fr (bf : Int)) rfl (by simp [icell, Value.oneCell']) hB43) (by have := maxLen_is; simp only [List.length_cons, List.length_nil]; omega) (by simp only [List.length_cons, List.length_nil]; omega) (by have := hQ.lt; omega) ?_
                                      intro v44 u44 hN44 hgr44 hat44
                                      have hO44 := hQ.mid hvm hgr44
                                      obtain ⟨hone44, hone44'⟩ := own_oneI hN44
                                      refine s_nil ?_
                                      refine then_g ?_
                                      refine g_pure rfl (look_indexAddr _ Try.underlying80 szTry_37 rfl rfl rfl rfl rfl (by omega)) ?_
                                      refine g_late rfl ?_
                                      refine s_storeRow (ce := scv) (kv := fun v => v) (u := v44) (j := mm) szTry_37 (fun _ => rfl) hone44 hone44' (by rfl) (by rfl) hO44 (by omega) (by omega) ?_
                                      intro u45 hk45 hT45
                                      obtain ⟨hq45, hm45⟩ := RW.push hQ hvm hlm hN44 hgr44 hat44 hk45 hT45
                                      replace hX := Ext.rm hX hm45 hQ hn
                                      have tpg1 := (hm45.blk _ hB1.lt spg1).2
                                      have tpg3 := (hm45.blk _ hB3.lt spg3).2
                                      have tpg9 := (hm45.blk _ hB9.lt spg9).2
                                      have tpgc := (hm45.blk _ hC.lt spgc).2
                                      have tpg13 := (hm45.blk _ hB13.lt spg13).2
                                      have tpg20 := (hm45.blk _ hB20.lt spg20).2
                                      replace hB1 := Blk.rm hB1 hm45 spg1
                                      replace hB3 := Blk.rm hB3 hm45 spg3
                                      replace hB9 := Blk.rm hB9 hm45 spg9
                                      replace hC := CR.rm hC hm45 spgc
                                      replace hB13 := Blk.rm hB13 hm45 spg13
                                      replace hB20 := Blk.rm hB20 hm45 spg20
                                      clear spg1
                                      have spg1 := tpg1
                                      clear tpg1
                                      clear spg3
                                      have spg3 := tpg3
                                      clear tpg3
                                      clear spg9
                                      have spg9 := tpg9
                                      clear tpg9
                                      clear spgc
                                      have spgc := tpgc
                                      clear tpgc
                                      clear spg13
                                      have spg13 := tpg13
                                      clear tpg13
                                      clear spg20
                                      have spg20 := tpg20
                                      clear tpg20
                                      clear hQ
                                      have hQ := hq45
                                      refine s_nil ?_
                                      refine then_g ?_
                                      refine g_nil ?_
                                      refine inB_normal ?_
                                      refine then_normal ?_
                                      refine region_s ?_
                                      refine q_look (look_move rfl rfl) ?_
                                      refine q_look (look_add rfl rfl rfl rfl (by have := maxLen_is; unfold I64; omega)) ?_
                                      refine q_look (look_assign rfl rfl) ?_
                                      refine q_nil ?_
                                      rintro _ rfl
                                      exact loop_end ((bf + 1, gv, vc, vs.set mm v44, lss.set mm (lm ++ [plI g fr (bf : Int)]))) (by simp only []; omega) ⟨rfl, rfl, rfl, rfl, rfl, rfl, (by show some (true, Value.slice _ vs.length _) = some (true, Value.slice _ (vs.set mm _).length _); rw [List.length_set]), rfl, rfl, rfl, rfl, rfl, trivial⟩ ⟨hX, hB1, hB3, hB9, hB13, hC, spg1, spg3, spg9, spgc, spg13, spg20, hB20, hQ, hPu.1, hR.push hlm, cov_next hfrd hPu.2 hmv hcov, (by show (lss.set mm _)[n]? = some ln; rw [List.getElem?_set, if_neg (by omega)]; exact hln), by show bf + 1 ≤ 7; omega⟩
                              · have hbf7 : ¬ (bf : Int) < 7 := nn_f hc141
                                obtain rfl : bf = 7 := by omega
                                refine wp_exit ?_
                                refine then_exit ?_
                                refine then_exit ?_
                                refine inB_exit_same ?_
                                refine inB_normal ?_
                                refine then_normal ?_
                                refine region_s ?_
                                refine q_look (look_move rfl rfl) ?_
                                refine q_look (look_add rfl rfl rfl rfl (by have := maxLen_is; unfold I64; omega)) ?_
                                refine q_look (look_assign rfl rfl) ?_
                                refine q_nil ?_
                                rintro _ rfl
                                exact loop_end ((i + 1, cs2, gv, vc, vs, lss)) (by simp only []; omega) ⟨rfl, rfl, rfl, rfl, rfl, rfl, rfl, rfl, rfl, trivial⟩ ⟨hX, hB1, hB3, hB9, hB13, hC, spg1, spg3, spg9, spgc, spg13, hQ, hI.drop hkn (.inr (.inr hcov)), hR, hln⟩
                  · have hige : ¬ i < ln.length := by have := nn_f hc75; omega
                    refine wp_exit ?_
                    refine then_exit ?_
                    refine then_exit ?_
                    refine inB_exit_same ?_
                    refine inB_normal ?_
                    refine then_normal ?_
                    refine region_s ?_
                    refine q_look (look_move rfl rfl) ?_
                    refine q_look (look_add rfl rfl rfl rfl (by have := maxLen_is; unfold I64; omega)) ?_
                    refine q_look (look_assign rfl rfl) ?_
                    refine q_nil ?_
                    rintro _ rfl
                    exact loop_end ((n + 1, cs, gv, vc, vs, lss)) (by simp only []; omega) ⟨rfl, rfl, rfl, rfl, rfl, rfl, rfl, rfl, trivial⟩ ⟨hX, hB1, hB3, hB9, hB13, hC, spg1, spg3, spg9, spgc, spg13, hQ, hI.next hln hige, by show n + 1 ≤ lss.length; have := (List.getElem?_eq_some_iff.1 hln).1; omega, hR⟩
              · have hge : ¬ n < lss.length := by have := nn_f hc66; omega
                have hKn := hI.done hge
                refine wp_exit ?_
                refine then_exit ?_
                refine then_exit ?_
                refine inB_exit_same ?_
                refine then_normal ?_
                refine wp_seq ?_
                refine wp_region_lit ?_
                refine s_look (look_loadN Try.underlying56 rfl szTry_56 rfl rfl rfl (eqc_n hB9)) ?_
                refine s_store szTry_56 rfl (by simp [ccell, gcell, itcell, rcell, tcell, Value.cells, Value.oneCell']) rfl rfl hB3 rfl ?_
                intro u46 hk46 hT46
                replace hT46 : Blk u46 g3 56 (tcell g (.slice (some ⟨gc, 0, none⟩) N N)) := hT46
                replace hX := hX.kp hk46 (by omega)
                replace hB1 := hB1.kp hk46 (by omega)
                replace hB9 := hB9.kp hk46 (by omega)
                replace hC := hC.kp hk46 (by omega)
                replace hB13 := hB13.kp hk46 (by omega)
                replace hQ := hQ.kp hk46 spg3
                clear hB3
                have hB3 := hT46
                refine s_nil ?_
                refine then_normal ?_
                refine wp_ret ?_
                exact resC Try.results23 Try.underlying56 rfl szTry_56 rfl rfl (fun j v hv => by rw [Nat.zero_add]; exact hB3.cell hv) ⟨gc, cs, rfl, hX, hC, hKn, fun j v hv => by rcases hI.val j v hv with e | e <;> omega⟩

end Go.Proofs.Ythddekipelbooaa
