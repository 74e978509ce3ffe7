/- The walks of chapter 47 (outfit), eighth part: Order and Starts, and the reference's. -/
import Derived.Test.YtldgigjapifagaaG
import Derived.Test.YtldgigjapifagaaLast
namespace Go.Proofs.Ytldgigjapifagaa
open Go Go.RowKit Core
set_option linter.unusedVariables false
set_option linter.unusedSimpArgs false
attribute [local irreducible] wpQuiet wpList wpH wpT Code.wp Calls bodyPost act


theorem ordS_err {ps : List Pk} (h : oErr ps ≠ 0) : ordS ps = [] := by unfold ordS; rw [oList_err h]; rfl
def idAt (ps : List Pk) (k : Int) : ByteArray := (ps.getD k.toNat pk0).id
theorem idAt_eq {ps : List Pk} {i : Nat} {p : Pk} (h : ps[i]? = some p) : idAt ps (i : Int) = p.id := by unfold idAt; rw [Int.toNat_natCast, getD_of h]
theorem hrAt_eq {ps : List Pk} {i : Nat} {p : Pk} (h : ps[i]? = some p) : hrAt ps (i : Int) = hrs p := by unfold hrAt; rw [Int.toNat_natCast, getD_of h]
/-- All starts within a bound. -/
def LOk (n : Nat) (B : Int) (L : List Int) : Prop := L.length = n ∧ ∀ i : Nat, 0 ≤ L.getD i 0 ∧ L.getD i 0 ≤ B
theorem LOk.zero (n : Nat) : LOk n 0 (List.replicate n 0) := ⟨by simp, fun i => by
  rw [List.getD_eq_getElem?_getD]
  by_cases h : i < n
  · simp [h]
  · simp [h]⟩
theorem LOk.set {n i : Nat} {B C x : Int} {L : List Int} (h : LOk n B L) (hB : B ≤ C) (h0 : 0 ≤ x) (h1 : x ≤ C) : LOk n C (L.set i x) := ⟨by rw [List.length_set]; exact h.1, fun j => by
  have hj := h.2 j
  rw [List.getD_eq_getElem?_getD] at hj ⊢
  rw [List.getElem?_set]
  by_cases e : i = j
  · subst e
    rw [if_pos rfl]
    split
    · exact ⟨h0, h1⟩
    · exact ⟨by simp, by simp; omega⟩
  · rw [if_neg e]; omega⟩
theorem LOk.mono {n : Nat} {B C : Int} {L : List Int} (h : LOk n B L) (hB : B ≤ C) : LOk n C L := ⟨h.1, fun j => by have := h.2 j; omega⟩
theorem stepS_pos {ps : List Pk} {i : Nat} {L : List Int} {x : ByteArray} (h : 0 ≤ findP x ps) : stepS ps i L x = L.set i (max (L.getD i 0) (L.getD (findP x ps).toNat 0 + hrAt ps (findP x ps))) := by unfold stepS; rw [if_pos h]
theorem stepS_neg {ps : List Pk} {i : Nat} {L : List Int} {x : ByteArray} (h : ¬ 0 ≤ findP x ps) : stepS ps i L x = L := by unfold stepS; rw [if_neg h]
theorem rows_snoc {ps : List Pk} {j : Nat} {k : Int} {L : List Int} (h : (oList ps)[j]? = some k) : ((oList ps).take (j + 1)).foldl (rowS ps) L = rowS ps (((oList ps).take j).foldl (rowS ps) L) k := by rw [take_get h, List.foldl_append]; rfl
theorem row_snoc {ps : List Pk} {af : List ByteArray} {t i : Nat} {x : ByteArray} {L : List Int} (h : af[t]? = some x) : (af.take (t + 1)).foldl (stepS ps i) L = stepS ps i ((af.take t).foldl (stepS ps i) L) x := by rw [take_get h, List.foldl_append]; rfl

theorem order_any (h nd pt sm : Value) (pA : Option Addr) (ps : List Pk) (pc : Nat) (ne : Value) (w : World) (hD : DOk w pA ps) (hps : ps.length ≤ 1000) :
    Calls Try.prog 12 #[.agg #[h, nd, pt, sm, .slice pA ps.length pc, ne]] w fun e w' => ∃ v, e = .returned (.tuple #[v, .int .i64 (oErr ps)]) ∧ Ext w w' ∧ Core.Own scell 9 1 w.heap.size w' v (ordS ps) := by
  refine calls_act Try.func12 rfl Try.ntmps12 rfl rfl ?_
  show Code.wp _ _ _ (act 32 [(0, true, .agg #[h, nd, pt, sm, .slice pA ps.length pc, ne])] _) _
  have hX : Ext w w := Ext.rfl' w
  refine wp_seq ?_
  refine wp_region_lit ?_
  refine s_box rfl ?_
  intro g1 u1 hu1 hB1 hg1 hs1
  replace hB1 : Blk u1 g1 28 ([h, nd, pt, sm, .slice pA ps.length pc, ne]) := hB1
  have ge_g1 : w.heap.size ≤ g1 := by have := hX.size; omega
  replace hX := hX.comp hu1
  refine s_look (look_assign rfl rfl) ?_
  refine s_look (look_assign rfl rfl) ?_
  refine s_nil ?_
  refine then_normal ?_
  refine wp_seq ?_
  refine wp_region_lit ?_
  refine s_look (look_loadN Try.underlying28 rfl szTry_28 rfl rfl rfl (eqc_n hB1)) ?_
  refine s_call (vs := [_]) enTry_29 ⟨⟨_, rfl, rfl⟩, trivial⟩ (sorted_any h nd pt sm pA ps pc ne _ (hD.ext hX)) ?_
  rintro _ u2 ⟨v2, rfl, hc2, hS⟩
  refine ⟨_, rfl, ?_⟩
  have ne_hS_g1 : Value.ownBlock v2 ≠ some g1 := hS.ne_old hB1.lt
  replace hS := hS.weak hX.size
  replace hX := hX.comp hc2
  replace hB1 := hB1.ext hc2
  obtain ⟨As, cs, rfl, hS_hS, hc_hS, _⟩ := hS.sl hce_i
  refine s_look (look_move rfl rfl) ?_
  refine s_look (look_extract rfl rfl rfl) ?_
  refine s_look (look_extract rfl rfl rfl) ?_
  refine s_look (look_assign rfl rfl) ?_
  refine s_look (look_assign rfl rfl) ?_
  refine s_nil ?_
  refine then_normal ?_
  refine wp_seq ?_
  refine wp_seq ?_
  refine region_s ?_
  refine q_look (look_move rfl rfl) ?_
  refine q_look (look_neq rfl rfl rfl rfl) ?_
  refine q_nil ?_
  rintro _ rfl
  refine then_normal ?_
  refine cond_split rfl (fun hc13 => ?_) (fun hc13 => ?_)
  · have h0 : ¬ oErr ps = 0 := nd_t hc13
    refine wp_seq ?_
    refine region_s ?_
    refine q_look (look_move rfl rfl) ?_
    refine q_look (look_assign rfl rfl) ?_
    refine q_look (look_assign rfl rfl) ?_
    refine q_nil ?_
    rintro _ rfl
    refine then_normal ?_
    refine wp_ret ?_
    refine then_ret ?_
    exact res2 Try.results12 rfl rfl ⟨_, rfl, hX, (Own.nil _ _ _ _ _).as (ordS_err h0).symm⟩
  · have h0 : oErr ps = 0 := nd_f hc13
    refine wp_skip ?_
    refine then_normal ?_
    refine wp_seq ?_
    refine wp_seq ?_
    refine region_s ?_
    refine q_look (look_move rfl rfl) ?_
    refine q_look (look_len_slice Try.underlying35 rfl rfl) ?_
    refine q_look (look_move rfl rfl) ?_
    refine q_nil ?_
    rintro _ rfl
    have hO := Own.nil scell 9 1 w.heap.size w
    refine then_normal ?_
    refine wp_block ?_
    refine loop_act (fun (ls : Nat × Value) => [(1, .pointer (some ⟨g1, 0, none⟩)), (2, ls.2), (3, .int .i64 (oErr ps)), (15, .slice As (oList ps).length cs), (16, .int .i64 ((oList ps).length : Int)), (17, .int .i64 (ls.1 : Int))]) (fun ls w' => (Ext w w') ∧ (Blk w' g1 28 [h, nd, pt, sm, .slice pA ps.length pc, ne]) ∧ (Core.Own icell 3 1 w.heap.size w' (.slice As (oList ps).length cs) (oList ps)) ∧ (Core.Own scell 9 1 w.heap.size w' ls.2 (((oList ps).take ls.1).map (idAt ps))) ∧ (Value.ownBlock ls.2 ≠ some g1) ∧ (Dis ls.2 (.slice As (oList ps).length cs)) ∧ (ls.1 ≤ (oList ps).length)) (fun ls => (oList ps).length - ls.1) ((0, .slice none 0 0)) ?_ ?_ ?_
    · exact ⟨rfl, rfl, rfl, rfl, rfl, rfl, trivial⟩
    · exact ⟨hX, hB1, hS, Own.nil _ _ _ _ _, (by simp [Value.ownBlock]), (fun k hk => by cases hk), Nat.zero_le _⟩
    · rintro ⟨j, ov⟩ σ wr hF
      obtain ⟨hX, hB1, hS, hO, ne_hO_g1, dis_hO_hS, hj⟩ : (Ext w wr) ∧ (Blk wr g1 28 [h, nd, pt, sm, .slice pA ps.length pc, ne]) ∧ (Core.Own icell 3 1 w.heap.size wr (.slice As (oList ps).length cs) (oList ps)) ∧ (Core.Own scell 9 1 w.heap.size wr ov (((oList ps).take j).map (idAt ps))) ∧ (Value.ownBlock ov ≠ some g1) ∧ (Dis ov (.slice As (oList ps).length cs)) ∧ (j ≤ (oList ps).length) := hF
      show Code.wp _ _ _ (act 32 [(1, true, .pointer (some ⟨g1, 0, none⟩)), (2, true, ov), (3, true, .int .i64 (oErr ps)), (15, true, .slice As (oList ps).length cs), (16, true, .int .i64 ((oList ps).length : Int)), (17, true, .int .i64 (j : Int))] _) _
      refine wp_seq ?_
      refine region_s ?_
      refine q_look (look_lss rfl rfl rfl rfl) ?_
      refine q_nil ?_
      rintro _ rfl
      refine then_normal ?_
      refine wp_seq ?_
      refine cond_split rfl (fun hc18 => ?_) (fun hc18 => ?_)
      · have hlt : j < (oList ps).length := by have := nn_t hc18; omega
        have hS_hS := (hS.slOf hce_i).1
        have hol := oList_len ps
        have htk : (((oList ps).take j).map (idAt ps)).length = j := by rw [List.length_map, List.length_take]; omega
        obtain ⟨k0, hk0⟩ := get_lt hlt
        have hkb := oList_bd (mem_get hk0)
        obtain ⟨ki, rfl⟩ : ∃ ki : Nat, k0 = (ki : Int) := ⟨k0.toNat, by omega⟩
        have hki : ki < ps.length := by omega
        obtain ⟨p, hp⟩ := get_lt hki
        obtain ⟨b1, o1, rfl, _⟩ := (hD.sl.ext hX).at_ hki
        have hpo := hD.ok p (mem_get hp)
        obtain ⟨bs, os, rfl, _⟩ := hS_hS.at_ hlt
        refine wp_skip ?_
        refine then_normal ?_
        refine wp_seq ?_
        refine wp_block ?_
        refine wp_seq ?_
        refine region_s ?_
        refine q_look (look_indexAddr _ Try.underlying35 szTry_3 rfl rfl rfl rfl rfl (by omega)) ?_
        refine q_look (look_load1 Try.underlying3 rfl rfl rfl (eqc ((hS.rd hce_i j (ki : Int) hk0) 0 _ rfl))) ?_
        refine q_look (look_assign rfl rfl) ?_
        refine q_nil ?_
        rintro _ rfl
        refine then_normal ?_
        refine wp_region_lit ?_
        refine s_look (look_move rfl rfl) ?_
        refine s_look (look_fieldAddr Try.underlying28 rfl (fun _ _ => rfl) rfl rfl) ?_
        refine s_look (look_load1 Try.underlying25 rfl rfl rfl (eqc (hB1.cell rfl))) ?_
        refine s_look (look_move rfl rfl) ?_
        refine s_look (look_indexAddr _ Try.underlying25 szTry_48 rfl rfl rfl rfl rfl (by omega)) ?_
        refine s_look (look_fieldAddr Try.underlying48 rfl (fun _ _ => rfl) rfl rfl) ?_
        refine s_look (look_load1 Try.underlying9 rfl rfl rfl (eqc (((hD.sl.ext hX).rd ki p hp) _ _ rfl))) ?_
        refine s_buildSlice (parts := [(0, .tmp 27)]) (vs := [(0, _)]) (cells := scell p.id) Try.underlying31 szTry_9 zeTry_9 rfl rfl ⟨⟨_, rfl, rfl⟩, trivial⟩ rfl (by kernel_rfl) ?_
        intro g3 u3 hu3 hB3 hg3 hs3
        have lt_g1_g3 : g1 < g3 := by have := hB1.lt; omega
        have ne_hS_g3 : (Value.ownBlock (.slice (some ⟨bs, os, none⟩) (oList ps).length cs)) ≠ some g3 := hS.ne_new (by omega)
        have ne_hO_g3 : (Value.ownBlock (ov)) ≠ some g3 := hO.ne_new (by omega)
        have ge_g3 : w.heap.size ≤ g3 := by have := hX.size; omega
        replace hX := hX.comp hu3
        replace hB1 := hB1.ext hu3
        replace hS := hS.ext hu3
        replace hO := hO.ext hu3
        have hsz4 := hX.size
        refine s_appendL (ce := scell) (news := [p.id]) Try.underlying31 zsbTry_9 rfl rfl rfl hO rfl (Blk.src (x := p.id) rfl (by simp [scell, Value.oneCell']) hB3) (by have := hD.len; simp only [List.length_cons, List.length_nil, htk]; omega) (by simp only [List.length_cons, List.length_nil, htk]; have := hps; omega) (by omega) ?_
        intro v4 u4 hN4 hgr4 hat4
        replace hX := hX.grow hO (Nat.le_refl _) hgr4
        have hn_hB1 := hB1.grown hgr4 ne_hO_g1
        replace ne_hO_g1 := ne_app ne_hO_g1 hB1.lt hat4
        clear hB1
        have hB1 := hn_hB1
        clear hn_hB1
        have hn_hS := hS.grown hgr4 (Dis.ne dis_hO_hS)
        replace dis_hO_hS := Dis.app dis_hO_hS (fun k e => (hS.ge e).2) hat4
        clear hS
        have hS := hn_hS
        clear hn_hS
        clear hO
        have hO := hN4
        refine s_look (look_assign rfl rfl) ?_
        refine s_nil ?_
        refine inB_normal ?_
        refine then_normal ?_
        refine region_s ?_
        refine q_look (look_add rfl rfl rfl rfl (by have := hD.len; have := oList_len ps; have := maxLen_is; unfold I64; omega)) ?_
        refine q_look (look_move rfl rfl) ?_
        refine q_nil ?_
        rintro _ rfl
        exact loop_end ((j + 1, v4)) (by simp only []; omega) ⟨rfl, rfl, rfl, rfl, rfl, rfl, trivial⟩ ⟨hX, hB1, hS, (hO.as (by rw [map_take_snoc _ hk0, idAt_eq hp])), ne_hO_g1, dis_hO_hS, by show j + 1 ≤ (oList ps).length; omega⟩
      · obtain rfl : j = (oList ps).length := by have := nn_f hc18; omega
        rw [List.take_length] at hO
        refine wp_exit ?_
        refine then_exit ?_
        refine then_exit ?_
        refine inB_exit_same ?_
        refine then_normal ?_
        refine wp_seq ?_
        refine region_s ?_
        refine q_look (look_move rfl rfl) ?_
        refine q_look (look_assign rfl rfl) ?_
        refine q_look (look_assign rfl rfl) ?_
        refine q_nil ?_
        rintro _ rfl
        refine then_normal ?_
        refine wp_ret ?_
        exact res2 Try.results12 rfl rfl ⟨_, by rw [h0], hX, hO⟩

theorem reforders_any (h nd pt sm : Value) (pA : Option Addr) (ps : List Pk) (pc : Nat) (ne : Value) (w : World) (hD : DOk w pA ps) (hps : ps.length ≤ 1000) :
    Calls Try.prog 13 #[.agg #[h, nd, pt, sm, .slice pA ps.length pc, ne]] w fun e w' => ∃ v, e = .returned (.tuple #[v, .int .i64 (oErr ps)]) ∧ Ext w w' ∧ Core.Own scell 9 1 w.heap.size w' v (ordS ps) := by
  refine calls_act Try.func13 rfl Try.ntmps13 rfl rfl ?_
  show Code.wp _ _ _ (act 33 [(0, true, .agg #[h, nd, pt, sm, .slice pA ps.length pc, ne])] _) _
  have hX : Ext w w := Ext.rfl' w
  refine wp_seq ?_
  refine wp_region_lit ?_
  refine s_box rfl ?_
  intro g1 u1 hu1 hB1 hg1 hs1
  replace hB1 : Blk u1 g1 28 ([h, nd, pt, sm, .slice pA ps.length pc, ne]) := hB1
  have ge_g1 : w.heap.size ≤ g1 := by have := hX.size; omega
  replace hX := hX.comp hu1
  refine s_look (look_assign rfl rfl) ?_
  refine s_look (look_assign rfl rfl) ?_
  refine s_nil ?_
  refine then_normal ?_
  refine wp_seq ?_
  refine wp_region_lit ?_
  refine s_look (look_loadN Try.underlying28 rfl szTry_28 rfl rfl rfl (eqc_n hB1)) ?_
  refine s_call (vs := [_]) enTry_30 ⟨⟨_, rfl, rfl⟩, trivial⟩ (reforder_any h nd pt sm pA ps pc ne _ (hD.ext hX)) ?_
  rintro _ u2 ⟨v2, rfl, hc2, hS⟩
  refine ⟨_, rfl, ?_⟩
  have ne_hS_g1 : Value.ownBlock v2 ≠ some g1 := hS.ne_old hB1.lt
  replace hS := hS.weak hX.size
  replace hX := hX.comp hc2
  replace hB1 := hB1.ext hc2
  obtain ⟨As, cs, rfl, hS_hS, hc_hS, _⟩ := hS.sl hce_i
  refine s_look (look_move rfl rfl) ?_
  refine s_look (look_extract rfl rfl rfl) ?_
  refine s_look (look_extract rfl rfl rfl) ?_
  refine s_look (look_assign rfl rfl) ?_
  refine s_look (look_assign rfl rfl) ?_
  refine s_nil ?_
  refine then_normal ?_
  refine wp_seq ?_
  refine region_s ?_
  refine q_look (look_assign rfl rfl) ?_
  refine q_nil ?_
  rintro _ rfl
  have hO := Own.nil scell 9 1 w.heap.size w
  refine then_normal ?_
  refine wp_seq ?_
  refine wp_seq ?_
  refine region_s ?_
  refine q_look (look_assign rfl rfl) ?_
  refine q_nil ?_
  rintro _ rfl
  refine then_normal ?_
  refine wp_block ?_
  refine loop_act (fun (ls : Nat × Value) => [(1, .pointer (some ⟨g1, 0, none⟩)), (4, .slice As (oList ps).length cs), (5, .int .i64 (oErr ps)), (6, ls.2), (7, .int .i64 (ls.1 : Int))]) (fun ls w' => (Ext w w') ∧ (Blk w' g1 28 [h, nd, pt, sm, .slice pA ps.length pc, ne]) ∧ (Core.Own icell 3 1 w.heap.size w' (.slice As (oList ps).length cs) (oList ps)) ∧ (Core.Own scell 9 1 w.heap.size w' ls.2 (((oList ps).take ls.1).map (idAt ps))) ∧ (Value.ownBlock ls.2 ≠ some g1) ∧ (Dis ls.2 (.slice As (oList ps).length cs)) ∧ (ls.1 ≤ (oList ps).length)) (fun ls => (oList ps).length - ls.1) ((0, .slice none 0 0)) ?_ ?_ ?_
  · exact ⟨rfl, rfl, rfl, rfl, rfl, trivial⟩
  · exact ⟨hX, hB1, hS, Own.nil _ _ _ _ _, (by simp [Value.ownBlock]), (fun k hk => by cases hk), Nat.zero_le _⟩
  · rintro ⟨j, ov⟩ σ wr hF
    obtain ⟨hX, hB1, hS, hO, ne_hO_g1, dis_hO_hS, hj⟩ : (Ext w wr) ∧ (Blk wr g1 28 [h, nd, pt, sm, .slice pA ps.length pc, ne]) ∧ (Core.Own icell 3 1 w.heap.size wr (.slice As (oList ps).length cs) (oList ps)) ∧ (Core.Own scell 9 1 w.heap.size wr ov (((oList ps).take j).map (idAt ps))) ∧ (Value.ownBlock ov ≠ some g1) ∧ (Dis ov (.slice As (oList ps).length cs)) ∧ (j ≤ (oList ps).length) := hF
    show Code.wp _ _ _ (act 33 [(1, true, .pointer (some ⟨g1, 0, none⟩)), (4, true, .slice As (oList ps).length cs), (5, true, .int .i64 (oErr ps)), (6, true, ov), (7, true, .int .i64 (j : Int))] _) _
    refine wp_seq ?_
    refine wp_seq ?_
    refine region_s ?_
    refine q_look (look_move rfl rfl) ?_
    refine q_look (look_move rfl rfl) ?_
    refine q_look (look_len_slice Try.underlying35 rfl rfl) ?_
    refine q_look (look_lss rfl rfl rfl rfl) ?_
    refine q_nil ?_
    rintro _ rfl
    refine then_normal ?_
    refine cond_split rfl (fun hc16 => ?_) (fun hc16 => ?_)
    · have hlt : j < (oList ps).length := by have := nn_t hc16; omega
      have hS_hS := (hS.slOf hce_i).1
      have hol := oList_len ps
      have htk : (((oList ps).take j).map (idAt ps)).length = j := by rw [List.length_map, List.length_take]; omega
      obtain ⟨k0, hk0⟩ := get_lt hlt
      have hkb := oList_bd (mem_get hk0)
      obtain ⟨ki, rfl⟩ : ∃ ki : Nat, k0 = (ki : Int) := ⟨k0.toNat, by omega⟩
      have hki : ki < ps.length := by omega
      obtain ⟨p, hp⟩ := get_lt hki
      obtain ⟨b1, o1, rfl, _⟩ := (hD.sl.ext hX).at_ hki
      have hpo := hD.ok p (mem_get hp)
      obtain ⟨bs, os, rfl, _⟩ := hS_hS.at_ hlt
      refine wp_skip ?_
      refine then_normal ?_
      refine wp_seq ?_
      refine wp_block ?_
      refine region_h (fun W => Ext w W ∧ Blk W g1 28 ([h, nd, pt, sm, .slice (some ⟨b1, o1, none⟩) ps.length pc, ne]) ∧ Core.Own icell 3 1 w.heap.size W (.slice (some ⟨bs, os, none⟩) (oList ps).length cs) (oList ps)) [(0, true), (1, true), (2, true), (3, true), (4, true), (5, true), (6, true), (7, true), (8, true), (9, true), (10, false), (11, false), (12, true)] mixed (by kernel_rfl) rfl (by kernel_rfl) (by repeat (first | exact pk_body | refine pk_then ?_ | refine pk_block ?_))  ?_
      intro u3 hR3
      replace hX := hX.comp hR3
      replace hB1 := hB1.ext hR3
      replace hS := hS.ext hR3
      replace hO := hO.ext hR3
      refine ⟨⟨hX, hB1, hS⟩, ?_⟩
      refine h_look rfl (look_move rfl rfl) ?_
      refine h_look rfl (look_fieldAddr Try.underlying28 rfl (fun _ _ => rfl) rfl rfl) ?_
      refine h_look rfl (look_load1 Try.underlying25 rfl rfl rfl (fun w' hS => (hS.2.1).cell rfl)) ?_
      refine h_look rfl (look_move rfl rfl) ?_
      refine h_look rfl (look_move rfl rfl) ?_
      refine h_look rfl (look_indexAddr _ Try.underlying35 szTry_3 rfl rfl rfl rfl rfl (by omega)) ?_
      refine h_look rfl (look_load1 Try.underlying3 rfl rfl rfl (fun w' hS => (hS.2.2.rd hce_i j (ki : Int) hk0) 0 _ rfl)) ?_
      refine h_look rfl (look_indexAddr _ Try.underlying25 szTry_48 rfl rfl rfl rfl rfl (by omega)) ?_
      refine h_look rfl (look_fieldAddr Try.underlying48 rfl (fun _ _ => rfl) rfl rfl) ?_
      refine h_look rfl (look_load1 Try.underlying9 rfl rfl rfl (fun w' hS => ((hD.sl.ext hS.1).rd ki p hp) _ _ rfl)) ?_
      refine h_seq rfl ?_ ⟨hX, hB1, hS⟩
      refine s_buildSlice (parts := [(0, .tmp 28)]) (vs := [(0, _)]) (cells := scell p.id) Try.underlying31 szTry_9 zeTry_9 rfl rfl ⟨⟨_, rfl, rfl⟩, trivial⟩ rfl (by kernel_rfl) ?_
      intro g4 u4 hu4 hB4 hg4 hs4
      have lt_g1_g4 : g1 < g4 := by have := hB1.lt; omega
      have ne_hS_g4 : (Value.ownBlock (.slice (some ⟨bs, os, none⟩) (oList ps).length cs)) ≠ some g4 := hS.ne_new (by omega)
      have ne_hO_g4 : (Value.ownBlock (ov)) ≠ some g4 := hO.ne_new (by omega)
      have ge_g4 : w.heap.size ≤ g4 := by have := hX.size; omega
      replace hX := hX.comp hu4
      replace hB1 := hB1.ext hu4
      replace hS := hS.ext hu4
      replace hO := hO.ext hu4
      refine s_nil ?_
      refine then_normal ?_
      refine ⟨⟨hX, hB1, hS⟩, ?_⟩
      refine h_seq rfl ?_ ⟨hX, hB1, hS⟩
      have hsz5 := hX.size
      refine s_appendL (ce := scell) (news := [p.id]) Try.underlying31 zsbTry_9 rfl rfl rfl hO rfl (Blk.src (x := p.id) rfl (by simp [scell, Value.oneCell']) hB4) (by have := hD.len; simp only [List.length_cons, List.length_nil, htk]; omega) (by simp only [List.length_cons, List.length_nil, htk]; have := hps; omega) (by omega) ?_
      intro v5 u5 hN5 hgr5 hat5
      replace hX := hX.grow hO (Nat.le_refl _) hgr5
      have hn_hB1 := hB1.grown hgr5 ne_hO_g1
      replace ne_hO_g1 := ne_app ne_hO_g1 hB1.lt hat5
      clear hB1
      have hB1 := hn_hB1
      clear hn_hB1
      have hn_hS := hS.grown hgr5 (Dis.ne dis_hO_hS)
      replace dis_hO_hS := Dis.app dis_hO_hS (fun k e => (hS.ge e).2) hat5
      clear hS
      have hS := hn_hS
      clear hn_hS
      clear hO
      have hO := hN5
      refine s_nil ?_
      refine then_normal ?_
      refine ⟨⟨hX, hB1, hS⟩, ?_⟩
      refine h_look rfl (look_assign rfl rfl) ?_
      refine h_nil ?_
      refine inB_normal ?_
      refine then_normal ?_
      refine region_s ?_
      refine q_look (look_move rfl rfl) ?_
      refine q_look (look_add rfl rfl rfl rfl (by have := hD.len; have := oList_len ps; have := maxLen_is; unfold I64; omega)) ?_
      refine q_look (look_assign rfl rfl) ?_
      refine q_nil ?_
      rintro _ rfl
      exact loop_end ((j + 1, v5)) (by simp only []; omega) ⟨rfl, rfl, rfl, rfl, rfl, trivial⟩ ⟨hX, hB1, hS, (hO.as (by rw [map_take_snoc _ hk0, idAt_eq hp])), ne_hO_g1, dis_hO_hS, by show j + 1 ≤ (oList ps).length; omega⟩
    · obtain rfl : j = (oList ps).length := by have := nn_f hc16; omega
      rw [List.take_length] at hO
      refine wp_exit ?_
      refine then_exit ?_
      refine then_exit ?_
      refine inB_exit_same ?_
      refine then_normal ?_
      refine wp_seq ?_
      refine region_s ?_
      refine q_look (look_move rfl rfl) ?_
      refine q_look (look_move rfl rfl) ?_
      refine q_look (look_assign rfl rfl) ?_
      refine q_look (look_assign rfl rfl) ?_
      refine q_nil ?_
      rintro _ rfl
      refine then_normal ?_
      refine wp_ret ?_
      exact res2 Try.results13 rfl rfl ⟨_, rfl, hX, hO⟩

theorem starts_any (h nd pt sm : Value) (pA : Option Addr) (ps : List Pk) (pc : Nat) (ne : Value) (w : World) (hD : DOk w pA ps) (hps : ps.length ≤ 1000) (hfew : ∀ p ∈ ps, p.after.length ≤ 30) :
    Calls Try.prog 14 #[.agg #[h, nd, pt, sm, .slice pA ps.length pc, ne]] w fun e w' => ∃ v, e = .returned (.tuple #[v, .int .i64 (oErr ps)]) ∧ Ext w w' ∧ Core.Own icell 3 1 w.heap.size w' v (startsP ps) := by
  refine calls_act Try.func14 rfl Try.ntmps14 rfl rfl ?_
  show Code.wp _ _ _ (act 66 [(0, true, .agg #[h, nd, pt, sm, .slice pA ps.length pc, ne])] _) _
  have hX : Ext w w := Ext.rfl' w
  refine wp_seq ?_
  refine wp_region_lit ?_
  refine s_box rfl ?_
  intro g1 u1 hu1 hB1 hg1 hs1
  replace hB1 : Blk u1 g1 28 ([h, nd, pt, sm, .slice pA ps.length pc, ne]) := hB1
  have ge_g1 : w.heap.size ≤ g1 := by have := hX.size; omega
  replace hX := hX.comp hu1
  refine s_look (look_assign rfl rfl) ?_
  refine s_look (look_assign rfl rfl) ?_
  refine s_nil ?_
  refine then_normal ?_
  refine wp_seq ?_
  refine wp_region_lit ?_
  refine s_look (look_loadN Try.underlying28 rfl szTry_28 rfl rfl rfl (eqc_n hB1)) ?_
  refine s_call (vs := [_]) enTry_29 ⟨⟨_, rfl, rfl⟩, trivial⟩ (sorted_any h nd pt sm pA ps pc ne _ (hD.ext hX)) ?_
  rintro _ u2 ⟨v2, rfl, hc2, hS⟩
  refine ⟨_, rfl, ?_⟩
  have ne_hS_g1 : Value.ownBlock v2 ≠ some g1 := hS.ne_old hB1.lt
  replace hS := hS.weak hX.size
  replace hX := hX.comp hc2
  replace hB1 := hB1.ext hc2
  obtain ⟨As, cs, rfl, hS_hS, hc_hS, _⟩ := hS.sl hce_i
  refine s_look (look_move rfl rfl) ?_
  refine s_look (look_extract rfl rfl rfl) ?_
  refine s_look (look_extract rfl rfl rfl) ?_
  refine s_look (look_assign rfl rfl) ?_
  refine s_look (look_assign rfl rfl) ?_
  refine s_nil ?_
  refine then_normal ?_
  refine wp_seq ?_
  refine wp_seq ?_
  refine region_s ?_
  refine q_look (look_move rfl rfl) ?_
  refine q_look (look_neq rfl rfl rfl rfl) ?_
  refine q_nil ?_
  rintro _ rfl
  refine then_normal ?_
  refine cond_split rfl (fun hc16 => ?_) (fun hc16 => ?_)
  · have h0 : ¬ oErr ps = 0 := nd_t hc16
    refine wp_seq ?_
    refine region_s ?_
    refine q_look (look_move rfl rfl) ?_
    refine q_look (look_assign rfl rfl) ?_
    refine q_look (look_assign rfl rfl) ?_
    refine q_nil ?_
    rintro _ rfl
    refine then_normal ?_
    refine wp_ret ?_
    refine then_ret ?_
    exact res2 Try.results14 rfl rfl ⟨_, rfl, hX, (Own.nil _ _ _ _ _).as (by unfold startsP; rw [if_pos h0])⟩
  · have h0 : oErr ps = 0 := nd_f hc16
    have hful := oList_full h0
    have hol := hful
    refine wp_skip ?_
    refine then_normal ?_
    refine wp_seq ?_
    refine wp_region_lit ?_
    refine s_look (look_fieldAddr Try.underlying28 rfl (fun _ _ => rfl) rfl rfl) ?_
    refine s_look (look_load1 Try.underlying25 rfl rfl rfl (eqc (hB1.cell rfl))) ?_
    refine s_look (look_len_slice Try.underlying25 rfl rfl) ?_
    refine s_make (ce := icell) (zx := 0) (m := ps.length) Try.underlying35 zsbTry_3 rfl rfl rfl rfl rfl rfl (by omega) hD.len ?_
    intro g3 u3 hu3 hL hg3
    have ge_g3 : w.heap.size ≤ g3 := by have := hX.size; omega
    have lt_g1_g3 : g1 < g3 := by have := hB1.lt; omega
    have dis_hS_hL := Own.dis_new hS hL
    have ne_hS_g3 : (Value.ownBlock (.slice As (oList ps).length cs)) ≠ some g3 := hS.ne_new (by omega)
    replace hL := hL.weak hX.size
    replace hX := hX.comp hu3
    replace hB1 := hB1.ext hu3
    replace hS := hS.ext hu3
    have ne_hL_g1 : Value.ownBlock (.slice (some ⟨g3, 0, none⟩) (ps.length) (ps.length)) ≠ some g1 := by simp [Value.ownBlock]; omega
    refine s_look (look_assign rfl rfl) ?_
    refine s_nil ?_
    obtain ⟨L0, hL0⟩ : ∃ L0 : List Int, L0 = List.replicate ps.length 0 := ⟨_, rfl⟩
    rw [← hL0] at hL
    have hLk0 : LOk ps.length 0 L0 := by rw [hL0]; exact LOk.zero _
    have dis_hL_hS : Dis (.slice (some ⟨g3, 0, none⟩) ps.length ps.length) (.slice As (oList ps).length cs) := (Dis.symm dis_hS_hL)
    refine then_normal ?_
    refine wp_seq ?_
    refine wp_seq ?_
    refine region_s ?_
    refine q_look (look_move rfl rfl) ?_
    refine q_look (look_len_slice Try.underlying35 rfl rfl) ?_
    refine q_look (look_move rfl rfl) ?_
    refine q_nil ?_
    rintro _ rfl
    refine then_normal ?_
    refine wp_block ?_
    refine loop_act (fun (ls : Nat × List Int) => [(1, .pointer (some ⟨g1, 0, none⟩)), (2, .slice (some ⟨g3, 0, none⟩) ps.length ps.length), (22, .slice As (oList ps).length cs), (23, .int .i64 ((oList ps).length : Int)), (24, .int .i64 (ls.1 : Int))]) (fun ls w' => (Ext w w') ∧ (Blk w' g1 28 [h, nd, pt, sm, .slice pA ps.length pc, ne]) ∧ (Core.Own icell 3 1 w.heap.size w' (.slice As (oList ps).length cs) (oList ps)) ∧ (Core.Own icell 3 1 w.heap.size w' (.slice (some ⟨g3, 0, none⟩) ps.length ps.length) ls.2) ∧ (ls.1 ≤ (oList ps).length) ∧ (LOk ps.length (10000 * (31 * (ls.1 : Int))) ls.2) ∧ (((oList ps).take ls.1).foldl (rowS ps) L0 = ls.2)) (fun ls => (oList ps).length - ls.1) ((0, L0)) ?_ ?_ ?_
    · exact ⟨rfl, rfl, rfl, rfl, rfl, trivial⟩
    · exact ⟨hX, hB1, hS, hL, Nat.zero_le _, hLk0, rfl⟩
    · rintro ⟨j, L⟩ σ wr hF
      obtain ⟨hX, hB1, hS, hL, hj, hLk, hLe⟩ : (Ext w wr) ∧ (Blk wr g1 28 [h, nd, pt, sm, .slice pA ps.length pc, ne]) ∧ (Core.Own icell 3 1 w.heap.size wr (.slice As (oList ps).length cs) (oList ps)) ∧ (Core.Own icell 3 1 w.heap.size wr (.slice (some ⟨g3, 0, none⟩) ps.length ps.length) L) ∧ (j ≤ (oList ps).length) ∧ (LOk ps.length (10000 * (31 * (j : Int))) L) ∧ (((oList ps).take j).foldl (rowS ps) L0 = L) := hF
      show Code.wp _ _ _ (act 66 [(1, true, .pointer (some ⟨g1, 0, none⟩)), (2, true, .slice (some ⟨g3, 0, none⟩) ps.length ps.length), (22, true, .slice As (oList ps).length cs), (23, true, .int .i64 ((oList ps).length : Int)), (24, true, .int .i64 (j : Int))] _) _
      refine wp_seq ?_
      refine region_s ?_
      refine q_look (look_lss rfl rfl rfl rfl) ?_
      refine q_nil ?_
      rintro _ rfl
      refine then_normal ?_
      refine wp_seq ?_
      refine cond_split rfl (fun hc25 => ?_) (fun hc25 => ?_)
      · have hlt : j < (oList ps).length := by have := nn_t hc25; omega
        have hS_hS := (hS.slOf hce_i).1
        obtain ⟨k0, hk0⟩ := get_lt hlt
        have hkb := oList_bd (mem_get hk0)
        obtain ⟨ki, rfl⟩ : ∃ ki : Nat, k0 = (ki : Int) := ⟨k0.toNat, by omega⟩
        have hki : ki < ps.length := by omega
        obtain ⟨p, hp⟩ := get_lt hki
        obtain ⟨b1, o1, rfl, _⟩ := (hD.sl.ext hX).at_ hki
        have hpo := hD.ok p (mem_get hp)
        obtain ⟨bs, os, rfl, _⟩ := hS_hS.at_ hlt
        obtain ⟨A2, hA2⟩ : ∃ A2, p.A = A2 := ⟨_, rfl⟩
        have hpo1 := hpo.1
        rw [hA2] at hpo1
        have hfw := hfew p (mem_get hp)
        refine wp_skip ?_
        refine then_normal ?_
        refine wp_seq ?_
        refine wp_block ?_
        refine wp_seq ?_
        refine region_s ?_
        refine q_look (look_indexAddr _ Try.underlying35 szTry_3 rfl rfl rfl rfl rfl (by omega)) ?_
        refine q_look (look_load1 Try.underlying3 rfl rfl rfl (eqc ((hS.rd hce_i j (ki : Int) hk0) 0 _ rfl))) ?_
        refine q_look (look_assign rfl rfl) ?_
        refine q_nil ?_
        rintro _ rfl
        refine then_normal ?_
        refine wp_seq ?_
        refine region_s ?_
        refine q_look (look_fieldAddr Try.underlying28 rfl (fun _ _ => rfl) rfl rfl) ?_
        refine q_look (look_load1 Try.underlying25 rfl rfl rfl (eqc (hB1.cell rfl))) ?_
        refine q_look (look_move rfl rfl) ?_
        refine q_look (look_indexAddr _ Try.underlying25 szTry_48 rfl rfl rfl rfl rfl (by omega)) ?_
        refine q_look (look_fieldAddr Try.underlying48 rfl (fun _ _ => rfl) rfl rfl) ?_
        refine q_look (Look.as (look_load1 Try.underlying31 rfl rfl rfl (eqc (((hD.sl.ext hX).rd ki p hp) _ _ rfl))) (v' := .slice A2 p.after.length p.cap) (by rw [hA2])) ?_
        refine q_look (look_len_slice Try.underlying31 rfl rfl) ?_
        refine q_look (look_move rfl rfl) ?_
        refine q_nil ?_
        rintro _ rfl
        refine then_normal ?_
        refine wp_block ?_
        refine loop_act (fun (ls : Nat × List Int) => [(1, .pointer (some ⟨g1, 0, none⟩)), (2, .slice (some ⟨g3, 0, none⟩) ps.length ps.length), (6, .int .i64 (ki : Int)), (22, .slice (some ⟨bs, os, none⟩) (oList ps).length cs), (23, .int .i64 ((oList ps).length : Int)), (24, .int .i64 (j : Int)), (33, .slice A2 p.after.length p.cap), (34, .int .i64 (p.after.length : Int)), (35, .int .i64 (ls.1 : Int))]) (fun ls w' => (Ext w w') ∧ (Blk w' g1 28 [h, nd, pt, sm, .slice (some ⟨b1, o1, none⟩) ps.length pc, ne]) ∧ (Core.Own icell 3 1 w.heap.size w' (.slice (some ⟨bs, os, none⟩) (oList ps).length cs) (oList ps)) ∧ (Core.Own icell 3 1 w.heap.size w' (.slice (some ⟨g3, 0, none⟩) ps.length ps.length) ls.2) ∧ (ls.1 ≤ p.after.length) ∧ (LOk ps.length (10000 * (31 * (j : Int) + (ls.1 : Int))) ls.2) ∧ ((p.after.take ls.1).foldl (stepS ps ki) L = ls.2)) (fun ls => p.after.length - ls.1) ((0, L)) ?_ ?_ ?_
        · exact ⟨rfl, rfl, rfl, rfl, rfl, rfl, rfl, rfl, rfl, trivial⟩
        · exact ⟨hX, hB1, hS, hL, Nat.zero_le _, (hLk.mono (by show _ ≤ 10000 * (31 * (j : Int) + ((0 : Nat) : Int)); omega)), rfl⟩
        · rintro ⟨t, L2⟩ σ wr hF
          obtain ⟨hX, hB1, hS, hL, ht, hLk2, hLt⟩ : (Ext w wr) ∧ (Blk wr g1 28 [h, nd, pt, sm, .slice (some ⟨b1, o1, none⟩) ps.length pc, ne]) ∧ (Core.Own icell 3 1 w.heap.size wr (.slice (some ⟨bs, os, none⟩) (oList ps).length cs) (oList ps)) ∧ (Core.Own icell 3 1 w.heap.size wr (.slice (some ⟨g3, 0, none⟩) ps.length ps.length) L2) ∧ (t ≤ p.after.length) ∧ (LOk ps.length (10000 * (31 * (j : Int) + (t : Int))) L2) ∧ ((p.after.take t).foldl (stepS ps ki) L = L2) := hF
          show Code.wp _ _ _ (act 66 [(1, true, .pointer (some ⟨g1, 0, none⟩)), (2, true, .slice (some ⟨g3, 0, none⟩) ps.length ps.length), (6, true, .int .i64 (ki : Int)), (22, true, .slice (some ⟨bs, os, none⟩) (oList ps).length cs), (23, true, .int .i64 ((oList ps).length : Int)), (24, true, .int .i64 (j : Int)), (33, true, .slice A2 p.after.length p.cap), (34, true, .int .i64 (p.after.length : Int)), (35, true, .int .i64 (t : Int))] _) _
          refine wp_seq ?_
          refine region_s ?_
          refine q_look (look_lss rfl rfl rfl rfl) ?_
          refine q_nil ?_
          rintro _ rfl
          refine then_normal ?_
          refine wp_seq ?_
          refine cond_split rfl (fun hc36 => ?_) (fun hc36 => ?_)
          · have hlj : t < p.after.length := by have := nn_t hc36; omega
            obtain ⟨x, hx⟩ := get_lt hlj
            obtain ⟨b2, o2, rfl, hr2⟩ := (hpo1.ext hX).at_ hlj
            have hfx := findP_bd x ps
            refine wp_skip ?_
            refine then_normal ?_
            refine wp_seq ?_
            refine wp_block ?_
            refine wp_seq ?_
            refine region_s ?_
            refine q_look (look_indexAddr _ Try.underlying31 szTry_9 rfl rfl rfl rfl rfl (by omega)) ?_
            refine q_look (look_load1 Try.underlying9 rfl rfl rfl (eqc (((hpo1.ext hX).rd t x hx) 0 _ rfl))) ?_
            refine q_look (look_assign rfl rfl) ?_
            refine q_nil ?_
            rintro _ rfl
            refine then_normal ?_
            refine wp_seq ?_
            refine region_q ?_
            refine q_look (look_loadN Try.underlying28 rfl szTry_28 rfl rfl rfl (ext_cell_n hB1)) ?_
            refine q_look (look_move rfl rfl) ?_
            refine q_call (vs := [_, _]) enTry_31 ⟨⟨_, rfl, rfl⟩, ⟨_, rfl, rfl⟩, trivial⟩ (fun wc hw => cext hw (index_any h nd pt sm (some ⟨b1, o1, none⟩) ps pc ne x wc (hD.ext (hX.comp hw)))) ?_
            refine q_look (look_assign rfl rfl) ?_
            refine q_nil ?_
            intro w1 hw1
            replace hX := hX.comp hw1
            replace hB1 := hB1.ext hw1
            replace hS := hS.ext hw1
            replace hL := hL.ext hw1
            refine then_normal ?_
            refine wp_seq ?_
            refine region_s ?_
            refine q_look (look_move rfl rfl) ?_
            refine q_look (look_geq rfl rfl rfl rfl) ?_
            refine q_nil ?_
            rintro _ rfl
            refine then_normal ?_
            refine cond_split rfl (fun hc43 => ?_) (fun hc43 => ?_)
            · have hf0 : 0 ≤ findP x ps := nn_t hc43
              obtain ⟨fx, hfxe⟩ : ∃ fx : Nat, findP x ps = (fx : Int) := ⟨(findP x ps).toNat, by omega⟩
              rw [hfxe]
              have hfxl : fx < ps.length := by omega
              obtain ⟨q, hq⟩ := get_lt hfxl
              have hhq := hrs_bd q
              obtain ⟨u1, hu1⟩ := get_lt (show ki < L2.length by rw [hLk2.1]; exact hki)
              obtain ⟨u2, hu2⟩ := get_lt (show fx < L2.length by rw [hLk2.1]; exact hfxl)
              have hg1 := getD_of (d := (0 : Int)) hu1
              have hg2 := getD_of (d := (0 : Int)) hu2
              have hl1 := hLk2.2 ki
              have hl2 := hLk2.2 fx
              have e1 := hg1 ▸ hl1
              have e2 := hg2 ▸ hl2
              have hmx : max (L2.getD ki 0) (L2.getD (findP x ps).toNat 0 + hrAt ps (findP x ps)) = max u1 (u2 + hrs q) := by rw [hfxe, Int.toNat_natCast, hg1, hg2, hrAt_eq hq]
              have hmb : 0 ≤ max (L2.getD ki 0) (L2.getD (findP x ps).toNat 0 + hrAt ps (findP x ps)) ∧ max (L2.getD ki 0) (L2.getD (findP x ps).toNat 0 + hrAt ps (findP x ps)) ≤ 10000 * (31 * (j : Int) + (t : Int)) + 10000 := by rw [hmx]; omega
              refine region_hl (fun W => Ext w W ∧ Blk W g1 28 ([h, nd, pt, sm, .slice (some ⟨b1, o1, none⟩) ps.length pc, ne]) ∧ Core.Own icell 3 1 w.heap.size W (.slice (some ⟨bs, os, none⟩) (oList ps).length cs) (oList ps) ∧ Core.Own icell 3 1 w.heap.size W (.slice (some ⟨g3, 0, none⟩) ps.length ps.length) (L2)) 19 rfl [(0, true), (1, true), (2, true), (3, true), (4, true), (5, true), (6, true), (7, true), (8, true), (9, true), (10, true), (11, true), (12, true), (13, true), (14, true), (15, false), (16, true), (17, true), (18, true)] mixed (by kernel_rfl) rfl (by kernel_rfl) (by repeat (first | exact pk_body | refine pk_then ?_ | refine pk_block ?_))  ?_
              intro u4 hR4
              replace hX := hX.comp hR4
              replace hB1 := hB1.ext hR4
              replace hS := hS.ext hR4
              replace hL := hL.ext hR4
              refine ⟨⟨hX, hB1, hS, hL⟩, ?_⟩
              refine h_look rfl (look_move rfl rfl) ?_
              refine h_look rfl (look_move rfl rfl) ?_
              refine h_look rfl (look_move rfl rfl) ?_
              refine h_look rfl (look_move rfl rfl) ?_
              refine h_look rfl (look_indexAddr _ Try.underlying35 szTry_3 rfl rfl rfl rfl rfl (by omega)) ?_
              refine h_look rfl (look_load1 Try.underlying3 rfl rfl rfl (fun w' hS => (hS.2.2.2.rd hce_i ki u1 hu1) 0 _ rfl)) ?_
              refine h_look rfl (look_move rfl rfl) ?_
              refine h_look rfl (look_move rfl rfl) ?_
              refine h_look rfl (look_indexAddr _ Try.underlying35 szTry_3 rfl rfl rfl rfl rfl (by omega)) ?_
              refine h_look rfl (look_load1 Try.underlying3 rfl rfl rfl (fun w' hS => (hS.2.2.2.rd hce_i fx u2 hu2) 0 _ rfl)) ?_
              refine h_look rfl (look_fieldAddr Try.underlying28 rfl (fun _ _ => rfl) rfl rfl) ?_
              refine h_look rfl (look_load1 Try.underlying25 rfl rfl rfl (fun w' hS => (hS.2.1).cell rfl)) ?_
              refine h_look rfl (look_move rfl rfl) ?_
              refine h_look rfl (look_indexAddr _ Try.underlying25 szTry_48 rfl rfl rfl rfl rfl (by omega)) ?_
              refine h_look rfl (look_loadN Try.underlying48 rfl szTry_48 rfl rfl rfl (cs := pcell q) (fun w' hS => ((hD.sl.ext hS.1).rd fx q hq))) ?_
              refine h_seq rfl ?_ ⟨hX, hB1, hS, hL⟩
              refine s_call (vs := [_]) enTry_32 ⟨⟨_, rfl, rfl⟩, trivial⟩ (hours_any q _) ?_
              rintro _ u5 ⟨rfl, hc5⟩
              refine ⟨_, rfl, ?_⟩
              replace hX := hX.comp hc5
              replace hB1 := hB1.ext hc5
              replace hS := hS.ext hc5
              replace hL := hL.ext hc5
              refine s_nil ?_
              refine then_normal ?_
              refine ⟨⟨hX, hB1, hS, hL⟩, ?_⟩
              refine h_look rfl (look_add rfl rfl rfl rfl (by have := hD.len; have := oList_len ps; have := maxLen_is; unfold I64; omega)) ?_
              refine h_look rfl (look_max2 rfl rfl rfl rfl) ?_
              refine h_look rfl (look_indexAddr _ Try.underlying35 szTry_3 rfl rfl rfl rfl rfl (by omega)) ?_
              refine h_nil ?_
              refine then_wpl ?_
              refine s_storeRow (ce := icell) (kv := kI) (u := max (L2.getD ki 0) (L2.getD (findP x ps).toNat 0 + hrAt ps (findP x ps))) (j := ki) szTry_3 (fun _ => rfl) rfl rfl (by rfl) (by rw [hmx]; rfl) hL (by omega) (by rw [hLk2.1]; exact hki) ?_
              intro u6 hk6 hT6
              replace hX := hX.kp hk6 (by omega)
              replace hB1 := hB1.kp hk6 (by omega)
              replace hS := hS.kp hk6 (fun e => dis_hL_hS g3 rfl e)
              clear hL
              have hL := hT6
              refine s_nil ?_
              refine inB_normal ?_
              refine then_normal ?_
              refine region_s ?_
              refine q_look (look_add rfl rfl rfl rfl (by have := hD.len; have := oList_len ps; have := maxLen_is; unfold I64; omega)) ?_
              refine q_look (look_move rfl rfl) ?_
              refine q_nil ?_
              rintro _ rfl
              exact loop_end ((t + 1, L2.set ki (max (L2.getD ki 0) (L2.getD (findP x ps).toNat 0 + hrAt ps (findP x ps))))) (by simp only []; omega) ⟨rfl, rfl, rfl, rfl, rfl, rfl, rfl, rfl, rfl, trivial⟩ ⟨hX, hB1, hS, hL, by show t + 1 ≤ p.after.length; omega, (hLk2.set (by show _ ≤ 10000 * (31 * (j : Int) + ((t + 1 : Nat) : Int)); omega) (by omega) (by show _ ≤ 10000 * (31 * (j : Int) + ((t + 1 : Nat) : Int)); omega)), by rw [row_snoc hx, hLt, stepS_pos hf0]⟩
            · have hf0 : ¬ 0 ≤ findP x ps := nn_f hc43
              refine wp_skip ?_
              refine inB_normal ?_
              refine then_normal ?_
              refine region_s ?_
              refine q_look (look_add rfl rfl rfl rfl (by have := hD.len; have := oList_len ps; have := maxLen_is; unfold I64; omega)) ?_
              refine q_look (look_move rfl rfl) ?_
              refine q_nil ?_
              rintro _ rfl
              exact loop_end ((t + 1, L2)) (by simp only []; omega) ⟨rfl, rfl, rfl, rfl, rfl, rfl, rfl, rfl, rfl, trivial⟩ ⟨hX, hB1, hS, hL, by show t + 1 ≤ p.after.length; omega, (hLk2.mono (by show _ ≤ 10000 * (31 * (j : Int) + ((t + 1 : Nat) : Int)); omega)), by rw [row_snoc hx, hLt, stepS_neg hf0]⟩
          · obtain rfl : t = p.after.length := by have := nn_f hc36; omega
            rw [List.take_length] at hLt
            refine wp_exit ?_
            refine then_exit ?_
            refine then_exit ?_
            refine inB_exit_same ?_
            refine inB_normal ?_
            refine then_normal ?_
            refine region_s ?_
            refine q_look (look_add rfl rfl rfl rfl (by have := hD.len; have := oList_len ps; have := maxLen_is; unfold I64; omega)) ?_
            refine q_look (look_move rfl rfl) ?_
            refine q_nil ?_
            rintro _ rfl
            exact loop_end ((j + 1, L2)) (by simp only []; omega) ⟨rfl, rfl, rfl, rfl, rfl, trivial⟩ ⟨hX, hB1, hS, hL, by show j + 1 ≤ (oList ps).length; omega, (by have h8 := hfew p (mem_get hp); exact hLk2.mono (by show _ ≤ 10000 * (31 * ((j + 1 : Nat) : Int)); omega)), by rw [rows_snoc hk0, hLe]; unfold rowS; rw [aft_eq hp, Int.toNat_natCast]; exact hLt⟩
      · obtain rfl : j = (oList ps).length := by have := nn_f hc25; omega
        rw [List.take_length] at hLe
        refine wp_exit ?_
        refine then_exit ?_
        refine then_exit ?_
        refine inB_exit_same ?_
        refine then_normal ?_
        refine wp_seq ?_
        refine region_s ?_
        refine q_look (look_move rfl rfl) ?_
        refine q_look (look_assign rfl rfl) ?_
        refine q_look (look_assign rfl rfl) ?_
        refine q_nil ?_
        rintro _ rfl
        refine then_normal ?_
        refine wp_ret ?_
        exact res2 Try.results14 rfl rfl ⟨_, by rw [h0], hX, hL.as (by unfold startsP; rw [if_neg (fun h => h h0), ← hLe, hL0])⟩

theorem refstarts_any (h nd pt sm : Value) (pA : Option Addr) (ps : List Pk) (pc : Nat) (ne : Value) (w : World) (hD : DOk w pA ps) (hps : ps.length ≤ 1000) (hfew : ∀ p ∈ ps, p.after.length ≤ 30) :
    Calls Try.prog 15 #[.agg #[h, nd, pt, sm, .slice pA ps.length pc, ne]] w fun e w' => ∃ v, e = .returned (.tuple #[v, .int .i64 (oErr ps)]) ∧ Ext w w' ∧ Core.Own icell 3 1 w.heap.size w' v (startsP ps) := by
  refine calls_act Try.func15 rfl Try.ntmps15 rfl rfl ?_
  show Code.wp _ _ _ (act 78 [(0, true, .agg #[h, nd, pt, sm, .slice pA ps.length pc, ne])] _) _
  have hX : Ext w w := Ext.rfl' w
  refine wp_seq ?_
  refine wp_region_lit ?_
  refine s_box rfl ?_
  intro g1 u1 hu1 hB1 hg1 hs1
  replace hB1 : Blk u1 g1 28 ([h, nd, pt, sm, .slice pA ps.length pc, ne]) := hB1
  have ge_g1 : w.heap.size ≤ g1 := by have := hX.size; omega
  replace hX := hX.comp hu1
  refine s_look (look_assign rfl rfl) ?_
  refine s_look (look_assign rfl rfl) ?_
  refine s_nil ?_
  refine then_normal ?_
  refine wp_seq ?_
  refine wp_region_lit ?_
  refine s_look (look_loadN Try.underlying28 rfl szTry_28 rfl rfl rfl (eqc_n hB1)) ?_
  refine s_call (vs := [_]) enTry_30 ⟨⟨_, rfl, rfl⟩, trivial⟩ (reforder_any h nd pt sm pA ps pc ne _ (hD.ext hX)) ?_
  rintro _ u2 ⟨v2, rfl, hc2, hS⟩
  refine ⟨_, rfl, ?_⟩
  have ne_hS_g1 : Value.ownBlock v2 ≠ some g1 := hS.ne_old hB1.lt
  replace hS := hS.weak hX.size
  replace hX := hX.comp hc2
  replace hB1 := hB1.ext hc2
  obtain ⟨As, cs, rfl, hS_hS, hc_hS, _⟩ := hS.sl hce_i
  refine s_look (look_move rfl rfl) ?_
  refine s_look (look_extract rfl rfl rfl) ?_
  refine s_look (look_extract rfl rfl rfl) ?_
  refine s_look (look_assign rfl rfl) ?_
  refine s_look (look_assign rfl rfl) ?_
  refine s_nil ?_
  refine then_normal ?_
  refine wp_seq ?_
  refine wp_seq ?_
  refine region_s ?_
  refine q_look (look_move rfl rfl) ?_
  refine q_look (look_neq rfl rfl rfl rfl) ?_
  refine q_nil ?_
  rintro _ rfl
  refine then_normal ?_
  refine cond_split rfl (fun hc17 => ?_) (fun hc17 => ?_)
  · have h0 : ¬ oErr ps = 0 := nd_t hc17
    refine wp_seq ?_
    refine region_s ?_
    refine q_look (look_move rfl rfl) ?_
    refine q_look (look_assign rfl rfl) ?_
    refine q_look (look_assign rfl rfl) ?_
    refine q_nil ?_
    rintro _ rfl
    refine then_normal ?_
    refine wp_ret ?_
    refine then_ret ?_
    exact res2 Try.results15 rfl rfl ⟨_, rfl, hX, (Own.nil _ _ _ _ _).as (by unfold startsP; rw [if_pos h0])⟩
  · have h0 : oErr ps = 0 := nd_f hc17
    have hful := oList_full h0
    have hol := hful
    refine wp_skip ?_
    refine then_normal ?_
    refine wp_seq ?_
    refine wp_region_lit ?_
    refine s_look (look_move rfl rfl) ?_
    refine s_look (look_len_slice Try.underlying35 rfl rfl) ?_
    refine s_make (ce := icell) (zx := 0) (m := ps.length) Try.underlying35 zsbTry_3 rfl rfl rfl rfl (by omega) (by omega) (by omega) hD.len ?_
    intro g3 u3 hu3 hL hg3
    have ge_g3 : w.heap.size ≤ g3 := by have := hX.size; omega
    have lt_g1_g3 : g1 < g3 := by have := hB1.lt; omega
    have dis_hS_hL := Own.dis_new hS hL
    replace hL := hL.weak hX.size
    replace hX := hX.comp hu3
    replace hB1 := hB1.ext hu3
    replace hS := hS.ext hu3
    have ne_hL_g1 : Value.ownBlock (.slice (some ⟨g3, 0, none⟩) (ps.length) (ps.length)) ≠ some g1 := by simp [Value.ownBlock]; omega
    refine s_look (look_assign rfl rfl) ?_
    refine s_nil ?_
    obtain ⟨L0, hL0⟩ : ∃ L0 : List Int, L0 = List.replicate ps.length 0 := ⟨_, rfl⟩
    rw [← hL0] at hL
    have hLk0 : LOk ps.length 0 L0 := by rw [hL0]; exact LOk.zero _
    have dis_hL_hS : Dis (.slice (some ⟨g3, 0, none⟩) ps.length ps.length) (.slice As (oList ps).length cs) := (Dis.symm dis_hS_hL)
    refine then_normal ?_
    refine wp_seq ?_
    refine wp_seq ?_
    refine region_s ?_
    refine q_look (look_assign rfl rfl) ?_
    refine q_nil ?_
    rintro _ rfl
    refine then_normal ?_
    refine wp_block ?_
    refine loop_act (fun (ls : Nat × List Int) => [(1, .pointer (some ⟨g1, 0, none⟩)), (6, .slice (some ⟨g3, 0, none⟩) ps.length ps.length), (4, .slice As (oList ps).length cs), (7, .int .i64 (ls.1 : Int))]) (fun ls w' => (Ext w w') ∧ (Blk w' g1 28 [h, nd, pt, sm, .slice pA ps.length pc, ne]) ∧ (Core.Own icell 3 1 w.heap.size w' (.slice As (oList ps).length cs) (oList ps)) ∧ (Core.Own icell 3 1 w.heap.size w' (.slice (some ⟨g3, 0, none⟩) ps.length ps.length) ls.2) ∧ (ls.1 ≤ (oList ps).length) ∧ (LOk ps.length (10000 * (31 * (ls.1 : Int))) ls.2) ∧ (((oList ps).take ls.1).foldl (rowS ps) L0 = ls.2)) (fun ls => (oList ps).length - ls.1) ((0, L0)) ?_ ?_ ?_
    · exact ⟨rfl, rfl, rfl, rfl, trivial⟩
    · exact ⟨hX, hB1, hS, hL, Nat.zero_le _, hLk0, rfl⟩
    · rintro ⟨j, L⟩ σ wr hF
      obtain ⟨hX, hB1, hS, hL, hj, hLk, hLe⟩ : (Ext w wr) ∧ (Blk wr g1 28 [h, nd, pt, sm, .slice pA ps.length pc, ne]) ∧ (Core.Own icell 3 1 w.heap.size wr (.slice As (oList ps).length cs) (oList ps)) ∧ (Core.Own icell 3 1 w.heap.size wr (.slice (some ⟨g3, 0, none⟩) ps.length ps.length) L) ∧ (j ≤ (oList ps).length) ∧ (LOk ps.length (10000 * (31 * (j : Int))) L) ∧ (((oList ps).take j).foldl (rowS ps) L0 = L) := hF
      show Code.wp _ _ _ (act 78 [(1, true, .pointer (some ⟨g1, 0, none⟩)), (6, true, .slice (some ⟨g3, 0, none⟩) ps.length ps.length), (4, true, .slice As (oList ps).length cs), (7, true, .int .i64 (j : Int))] _) _
      refine wp_seq ?_
      refine wp_seq ?_
      refine region_s ?_
      refine q_look (look_move rfl rfl) ?_
      refine q_look (look_move rfl rfl) ?_
      refine q_look (look_len_slice Try.underlying35 rfl rfl) ?_
      refine q_look (look_lss rfl rfl rfl rfl) ?_
      refine q_nil ?_
      rintro _ rfl
      refine then_normal ?_
      refine cond_split rfl (fun hc25 => ?_) (fun hc25 => ?_)
      · have hlt : j < (oList ps).length := by have := nn_t hc25; omega
        have hS_hS := (hS.slOf hce_i).1
        obtain ⟨k0, hk0⟩ := get_lt hlt
        have hkb := oList_bd (mem_get hk0)
        obtain ⟨ki, rfl⟩ : ∃ ki : Nat, k0 = (ki : Int) := ⟨k0.toNat, by omega⟩
        have hki : ki < ps.length := by omega
        obtain ⟨p, hp⟩ := get_lt hki
        obtain ⟨b1, o1, rfl, _⟩ := (hD.sl.ext hX).at_ hki
        have hpo := hD.ok p (mem_get hp)
        obtain ⟨bs, os, rfl, _⟩ := hS_hS.at_ hlt
        obtain ⟨A2, hA2⟩ : ∃ A2, p.A = A2 := ⟨_, rfl⟩
        have hpo1 := hpo.1
        rw [hA2] at hpo1
        have hfw := hfew p (mem_get hp)
        refine wp_skip ?_
        refine then_normal ?_
        refine wp_seq ?_
        refine wp_block ?_
        refine wp_seq ?_
        refine region_h (fun W => Ext w W ∧ Blk W g1 28 ([h, nd, pt, sm, .slice (some ⟨b1, o1, none⟩) ps.length pc, ne]) ∧ Core.Own icell 3 1 w.heap.size W (.slice (some ⟨bs, os, none⟩) (oList ps).length cs) (oList ps) ∧ Core.Own icell 3 1 w.heap.size W (.slice (some ⟨g3, 0, none⟩) ps.length ps.length) (L)) [(0, true), (1, true), (2, true), (3, true), (4, true), (5, true), (6, true), (7, true), (8, false), (9, false)] mixed (by kernel_rfl) rfl (by kernel_rfl) (by repeat (first | exact pk_body | refine pk_then ?_ | refine pk_block ?_))  ?_
        intro u4 hR4
        replace hX := hX.comp hR4
        replace hB1 := hB1.ext hR4
        replace hS := hS.ext hR4
        replace hL := hL.ext hR4
        refine ⟨⟨hX, hB1, hS, hL⟩, ?_⟩
        refine h_look rfl (look_fieldAddr Try.underlying28 rfl (fun _ _ => rfl) rfl rfl) ?_
        refine h_look rfl (look_load1 Try.underlying25 rfl rfl rfl (fun w' hS => (hS.2.1).cell rfl)) ?_
        refine h_look rfl (look_move rfl rfl) ?_
        refine h_look rfl (look_move rfl rfl) ?_
        refine h_look rfl (look_indexAddr _ Try.underlying35 szTry_3 rfl rfl rfl rfl rfl (by omega)) ?_
        refine h_look rfl (look_load1 Try.underlying3 rfl rfl rfl (fun w' hS => (hS.2.2.1.rd hce_i j (ki : Int) hk0) 0 _ rfl)) ?_
        refine h_look rfl (look_indexAddr _ Try.underlying25 szTry_48 rfl rfl rfl rfl rfl (by omega)) ?_
        refine h_look rfl (look_loadN Try.underlying48 rfl szTry_48 rfl rfl rfl (cs := pcell p) (fun w' hS => ((hD.sl.ext hS.1).rd ki p hp))) ?_
        refine h_seq rfl ?_ ⟨hX, hB1, hS, hL⟩
        refine s_alloc zeTry_48 ?_
        intro g5 u5 hu5 hB5 hg5 hs5
        have lt_g1_g5 : g1 < g5 := by have := hB1.lt; omega
        have ne_hS_g5 : (Value.ownBlock (.slice (some ⟨bs, os, none⟩) (oList ps).length cs)) ≠ some g5 := hS.ne_new (by omega)
        have ne_hL_g5 : (Value.ownBlock (.slice (some ⟨g3, 0, none⟩) ps.length ps.length)) ≠ some g5 := hL.ne_new (by omega)
        have ge_g5 : w.heap.size ≤ g5 := by have := hX.size; omega
        replace hX := hX.comp hu5
        replace hB1 := hB1.ext hu5
        replace hS := hS.ext hu5
        replace hL := hL.ext hu5
        refine s_nil ?_
        refine then_normal ?_
        refine ⟨⟨hX, hB1, hS, hL⟩, ?_⟩
        refine h_seq rfl ?_ ⟨hX, hB1, hS, hL⟩
        refine s_store szTry_48 rfl (by simp [pcell, scell, Value.cells, Value.oneCell']) rfl rfl hB5 rfl ?_
        intro u6 hk6 hT6
        replace hT6 : Blk u6 g5 48 (pcell p) := hT6
        replace hX := hX.kp hk6 (by omega)
        replace hB1 := hB1.kp hk6 (by omega)
        replace hS := hS.kp hk6 ne_hS_g5
        replace hL := hL.kp hk6 ne_hL_g5
        clear hB5
        have hB5 := hT6
        refine s_nil ?_
        refine then_normal ?_
        refine ⟨⟨hX, hB1, hS, hL⟩, ?_⟩
        refine h_nil ?_
        refine then_normal ?_
        refine wp_seq ?_
        refine region_s ?_
        refine q_look (look_assign rfl rfl) ?_
        refine q_nil ?_
        rintro _ rfl
        refine then_normal ?_
        refine wp_block ?_
        refine loop_act (fun (ls : Nat × List Int) => [(1, .pointer (some ⟨g1, 0, none⟩)), (6, .slice (some ⟨g3, 0, none⟩) ps.length ps.length), (4, .slice (some ⟨bs, os, none⟩) (oList ps).length cs), (7, .int .i64 (j : Int)), (8, .pointer (some ⟨g5, 0, none⟩)), (9, .int .i64 (ls.1 : Int))]) (fun ls w' => (Ext w w') ∧ (Blk w' g1 28 [h, nd, pt, sm, .slice (some ⟨b1, o1, none⟩) ps.length pc, ne]) ∧ (Blk w' g5 48 (pcell p)) ∧ (Core.Own icell 3 1 w.heap.size w' (.slice (some ⟨bs, os, none⟩) (oList ps).length cs) (oList ps)) ∧ (Core.Own icell 3 1 w.heap.size w' (.slice (some ⟨g3, 0, none⟩) ps.length ps.length) ls.2) ∧ (ls.1 ≤ p.after.length) ∧ (LOk ps.length (10000 * (31 * (j : Int) + (ls.1 : Int))) ls.2) ∧ ((p.after.take ls.1).foldl (stepS ps ki) L = ls.2)) (fun ls => p.after.length - ls.1) ((0, L)) ?_ ?_ ?_
        · exact ⟨rfl, rfl, rfl, rfl, rfl, rfl, trivial⟩
        · exact ⟨hX, hB1, hB5, hS, hL, Nat.zero_le _, (hLk.mono (by show _ ≤ 10000 * (31 * (j : Int) + ((0 : Nat) : Int)); omega)), rfl⟩
        · rintro ⟨t, L2⟩ σ wr hF
          obtain ⟨hX, hB1, hB5, hS, hL, ht, hLk2, hLt⟩ : (Ext w wr) ∧ (Blk wr g1 28 [h, nd, pt, sm, .slice (some ⟨b1, o1, none⟩) ps.length pc, ne]) ∧ (Blk wr g5 48 (pcell p)) ∧ (Core.Own icell 3 1 w.heap.size wr (.slice (some ⟨bs, os, none⟩) (oList ps).length cs) (oList ps)) ∧ (Core.Own icell 3 1 w.heap.size wr (.slice (some ⟨g3, 0, none⟩) ps.length ps.length) L2) ∧ (t ≤ p.after.length) ∧ (LOk ps.length (10000 * (31 * (j : Int) + (t : Int))) L2) ∧ ((p.after.take t).foldl (stepS ps ki) L = L2) := hF
          show Code.wp _ _ _ (act 78 [(1, true, .pointer (some ⟨g1, 0, none⟩)), (6, true, .slice (some ⟨g3, 0, none⟩) ps.length ps.length), (4, true, .slice (some ⟨bs, os, none⟩) (oList ps).length cs), (7, true, .int .i64 (j : Int)), (8, true, .pointer (some ⟨g5, 0, none⟩)), (9, true, .int .i64 (t : Int))] _) _
          refine wp_seq ?_
          refine wp_seq ?_
          refine region_s ?_
          refine q_look (look_move rfl rfl) ?_
          refine q_look (look_fieldAddr Try.underlying48 rfl (fun _ _ => rfl) rfl rfl) ?_
          refine q_look (Look.as (look_load1 Try.underlying31 rfl rfl rfl (eqc (hB5.cell rfl))) (v' := .slice A2 p.after.length p.cap) (by rw [hA2])) ?_
          refine q_look (look_len_slice Try.underlying31 rfl rfl) ?_
          refine q_look (look_lss rfl rfl rfl rfl) ?_
          refine q_nil ?_
          rintro _ rfl
          refine then_normal ?_
          refine cond_split rfl (fun hc40 => ?_) (fun hc40 => ?_)
          · have hlj : t < p.after.length := by have := nn_t hc40; omega
            obtain ⟨x, hx⟩ := get_lt hlj
            obtain ⟨b2, o2, rfl, hr2⟩ := (hpo1.ext hX).at_ hlj
            have hfx := findP_bd x ps
            refine wp_skip ?_
            refine then_normal ?_
            refine wp_seq ?_
            refine wp_block ?_
            refine wp_seq ?_
            refine region_qd mixed (by kernel_rfl) ?_
            refine q_look (look_loadN Try.underlying28 rfl szTry_28 rfl rfl rfl (ext_cell_n hB1)) ?_
            refine q_look (look_fieldAddr Try.underlying48 rfl (fun _ _ => rfl) rfl rfl) ?_
            refine q_look (Look.as (look_load1 Try.underlying31 rfl rfl rfl (ext_cell (hB5.cell rfl))) (v' := .slice (some ⟨b2, o2, none⟩) p.after.length p.cap) (by rw [hA2])) ?_
            refine q_look (look_move rfl rfl) ?_
            refine q_look (look_indexAddr _ Try.underlying31 szTry_9 rfl rfl rfl rfl rfl (by omega)) ?_
            refine q_look (look_load1 Try.underlying9 rfl rfl rfl (ext_cell (((hpo1.ext hX).rd t x hx) 0 _ rfl))) ?_
            refine q_call (vs := [_, _]) enTry_33 ⟨⟨_, rfl, rfl⟩, ⟨_, rfl, rfl⟩, trivial⟩ (fun wc hw => cext hw (find_any h nd pt sm (some ⟨b1, o1, none⟩) ps pc ne x wc (hD.ext (hX.comp hw)))) ?_
            refine q_look (look_assign rfl rfl) ?_
            refine q_nil ?_
            intro w1 hw1
            replace hX := hX.comp hw1
            replace hB1 := hB1.ext hw1
            replace hB5 := hB5.ext hw1
            replace hS := hS.ext hw1
            replace hL := hL.ext hw1
            refine then_normal ?_
            refine wp_seq ?_
            refine region_s ?_
            refine q_look (look_move rfl rfl) ?_
            refine q_look (look_geq rfl rfl rfl rfl) ?_
            refine q_nil ?_
            rintro _ rfl
            refine then_normal ?_
            refine cond_split rfl (fun hc51 => ?_) (fun hc51 => ?_)
            · have hf0 : 0 ≤ findP x ps := nn_t hc51
              obtain ⟨fx, hfxe⟩ : ∃ fx : Nat, findP x ps = (fx : Int) := ⟨(findP x ps).toNat, by omega⟩
              rw [hfxe]
              have hfxl : fx < ps.length := by omega
              obtain ⟨q, hq⟩ := get_lt hfxl
              have hhq := hrs_bd q
              obtain ⟨u1, hu1⟩ := get_lt (show ki < L2.length by rw [hLk2.1]; exact hki)
              obtain ⟨u2, hu2⟩ := get_lt (show fx < L2.length by rw [hLk2.1]; exact hfxl)
              have hg1 := getD_of (d := (0 : Int)) hu1
              have hg2 := getD_of (d := (0 : Int)) hu2
              have hl1 := hLk2.2 ki
              have hl2 := hLk2.2 fx
              have e1 := hg1 ▸ hl1
              have e2 := hg2 ▸ hl2
              have hmx : max (L2.getD ki 0) (L2.getD (findP x ps).toNat 0 + hrAt ps (findP x ps)) = max u1 (u2 + hrs q) := by rw [hfxe, Int.toNat_natCast, hg1, hg2, hrAt_eq hq]
              have hmb : 0 ≤ max (L2.getD ki 0) (L2.getD (findP x ps).toNat 0 + hrAt ps (findP x ps)) ∧ max (L2.getD ki 0) (L2.getD (findP x ps).toNat 0 + hrAt ps (findP x ps)) ≤ 10000 * (31 * (j : Int) + (t : Int)) + 10000 := by rw [hmx]; omega
              refine region_hl (fun W => Ext w W ∧ Blk W g1 28 ([h, nd, pt, sm, .slice (some ⟨b1, o1, none⟩) ps.length pc, ne]) ∧ Blk W g5 48 (pcell p) ∧ Core.Own icell 3 1 w.heap.size W (.slice (some ⟨bs, os, none⟩) (oList ps).length cs) (oList ps) ∧ Core.Own icell 3 1 w.heap.size W (.slice (some ⟨g3, 0, none⟩) ps.length ps.length) (L2)) 25 rfl [(0, true), (1, true), (2, true), (3, true), (4, true), (5, true), (6, true), (7, true), (8, true), (9, true), (10, true), (11, true), (12, true), (13, true), (14, true), (15, true), (16, true), (17, true), (18, true), (19, true), (20, true), (21, false), (22, true), (23, true), (24, true)] mixed (by kernel_rfl) rfl (by kernel_rfl) (by repeat (first | exact pk_body | refine pk_then ?_ | refine pk_block ?_))  ?_
              intro u7 hR7
              replace hX := hX.comp hR7
              replace hB1 := hB1.ext hR7
              replace hB5 := hB5.ext hR7
              replace hS := hS.ext hR7
              replace hL := hL.ext hR7
              refine ⟨⟨hX, hB1, hB5, hS, hL⟩, ?_⟩
              refine h_look rfl (look_move rfl rfl) ?_
              refine h_look rfl (look_move rfl rfl) ?_
              refine h_look rfl (look_move rfl rfl) ?_
              refine h_look rfl (look_indexAddr _ Try.underlying35 szTry_3 rfl rfl rfl rfl rfl (by omega)) ?_
              refine h_look rfl (look_load1 Try.underlying3 rfl rfl rfl (fun w' hS => (hS.2.2.2.1.rd hce_i j (ki : Int) hk0) 0 _ rfl)) ?_
              refine h_look rfl (look_move rfl rfl) ?_
              refine h_look rfl (look_move rfl rfl) ?_
              refine h_look rfl (look_move rfl rfl) ?_
              refine h_look rfl (look_indexAddr _ Try.underlying35 szTry_3 rfl rfl rfl rfl rfl (by omega)) ?_
              refine h_look rfl (look_load1 Try.underlying3 rfl rfl rfl (fun w' hS => (hS.2.2.2.1.rd hce_i j (ki : Int) hk0) 0 _ rfl)) ?_
              refine h_look rfl (look_indexAddr _ Try.underlying35 szTry_3 rfl rfl rfl rfl rfl (by omega)) ?_
              refine h_look rfl (look_load1 Try.underlying3 rfl rfl rfl (fun w' hS => (hS.2.2.2.2.rd hce_i ki u1 hu1) 0 _ rfl)) ?_
              refine h_look rfl (look_move rfl rfl) ?_
              refine h_look rfl (look_move rfl rfl) ?_
              refine h_look rfl (look_indexAddr _ Try.underlying35 szTry_3 rfl rfl rfl rfl rfl (by omega)) ?_
              refine h_look rfl (look_load1 Try.underlying3 rfl rfl rfl (fun w' hS => (hS.2.2.2.2.rd hce_i fx u2 hu2) 0 _ rfl)) ?_
              refine h_look rfl (look_fieldAddr Try.underlying28 rfl (fun _ _ => rfl) rfl rfl) ?_
              refine h_look rfl (look_load1 Try.underlying25 rfl rfl rfl (fun w' hS => (hS.2.1).cell rfl)) ?_
              refine h_look rfl (look_move rfl rfl) ?_
              refine h_look rfl (look_indexAddr _ Try.underlying25 szTry_48 rfl rfl rfl rfl rfl (by omega)) ?_
              refine h_look rfl (look_loadN Try.underlying48 rfl szTry_48 rfl rfl rfl (cs := pcell q) (fun w' hS => ((hD.sl.ext hS.1).rd fx q hq))) ?_
              refine h_seq rfl ?_ ⟨hX, hB1, hB5, hS, hL⟩
              refine s_call (vs := [_]) enTry_34 ⟨⟨_, rfl, rfl⟩, trivial⟩ (refhours_any q _) ?_
              rintro _ u8 ⟨rfl, hc8⟩
              refine ⟨_, rfl, ?_⟩
              replace hX := hX.comp hc8
              replace hB1 := hB1.ext hc8
              replace hB5 := hB5.ext hc8
              replace hS := hS.ext hc8
              replace hL := hL.ext hc8
              refine s_nil ?_
              refine then_normal ?_
              refine ⟨⟨hX, hB1, hB5, hS, hL⟩, ?_⟩
              refine h_look rfl (look_add rfl rfl rfl rfl (by have := hD.len; have := oList_len ps; have := maxLen_is; unfold I64; omega)) ?_
              refine h_look rfl (look_max2 rfl rfl rfl rfl) ?_
              refine h_look rfl (look_indexAddr _ Try.underlying35 szTry_3 rfl rfl rfl rfl rfl (by omega)) ?_
              refine h_nil ?_
              refine then_wpl ?_
              refine s_storeRow (ce := icell) (kv := kI) (u := max (L2.getD ki 0) (L2.getD (findP x ps).toNat 0 + hrAt ps (findP x ps))) (j := ki) szTry_3 (fun _ => rfl) rfl rfl (by rfl) (by rw [hmx]; rfl) hL (by omega) (by rw [hLk2.1]; exact hki) ?_
              intro u9 hk9 hT9
              replace hX := hX.kp hk9 (by omega)
              replace hB1 := hB1.kp hk9 (by omega)
              replace hB5 := hB5.kp hk9 (fun e => ne_hL_g5 (by rw [e]; rfl))
              replace hS := hS.kp hk9 (fun e => dis_hL_hS g3 rfl e)
              clear hL
              have hL := hT9
              refine s_nil ?_
              refine inB_normal ?_
              refine then_normal ?_
              refine region_s ?_
              refine q_look (look_move rfl rfl) ?_
              refine q_look (look_add rfl rfl rfl rfl (by have := hD.len; have := oList_len ps; have := maxLen_is; unfold I64; omega)) ?_
              refine q_look (look_assign rfl rfl) ?_
              refine q_nil ?_
              rintro _ rfl
              exact loop_end ((t + 1, L2.set ki (max (L2.getD ki 0) (L2.getD (findP x ps).toNat 0 + hrAt ps (findP x ps))))) (by simp only []; omega) ⟨rfl, rfl, rfl, rfl, rfl, rfl, trivial⟩ ⟨hX, hB1, hB5, hS, hL, by show t + 1 ≤ p.after.length; omega, (hLk2.set (by show _ ≤ 10000 * (31 * (j : Int) + ((t + 1 : Nat) : Int)); omega) (by omega) (by show _ ≤ 10000 * (31 * (j : Int) + ((t + 1 : Nat) : Int)); omega)), by rw [row_snoc hx, hLt, stepS_pos hf0]⟩
            · have hf0 : ¬ 0 ≤ findP x ps := nn_f hc51
              refine wp_skip ?_
              refine inB_normal ?_
              refine then_normal ?_
              refine region_s ?_
              refine q_look (look_move rfl rfl) ?_
              refine q_look (look_add rfl rfl rfl rfl (by have := hD.len; have := oList_len ps; have := maxLen_is; unfold I64; omega)) ?_
              refine q_look (look_assign rfl rfl) ?_
              refine q_nil ?_
              rintro _ rfl
              exact loop_end ((t + 1, L2)) (by simp only []; omega) ⟨rfl, rfl, rfl, rfl, rfl, rfl, trivial⟩ ⟨hX, hB1, hB5, hS, hL, by show t + 1 ≤ p.after.length; omega, (hLk2.mono (by show _ ≤ 10000 * (31 * (j : Int) + ((t + 1 : Nat) : Int)); omega)), by rw [row_snoc hx, hLt, stepS_neg hf0]⟩
          · obtain rfl : t = p.after.length := by have := nn_f hc40; omega
            rw [List.take_length] at hLt
            refine wp_exit ?_
            refine then_exit ?_
            refine then_exit ?_
            refine inB_exit_same ?_
            refine inB_normal ?_
            refine then_normal ?_
            refine region_s ?_
            refine q_look (look_move rfl rfl) ?_
            refine q_look (look_add rfl rfl rfl rfl (by have := hD.len; have := oList_len ps; have := maxLen_is; unfold I64; omega)) ?_
            refine q_look (look_assign rfl rfl) ?_
            refine q_nil ?_
            rintro _ rfl
            exact loop_end ((j + 1, L2)) (by simp only []; omega) ⟨rfl, rfl, rfl, rfl, trivial⟩ ⟨hX, hB1, hS, hL, by show j + 1 ≤ (oList ps).length; omega, (by have h8 := hfew p (mem_get hp); exact hLk2.mono (by show _ ≤ 10000 * (31 * ((j + 1 : Nat) : Int)); omega)), by rw [rows_snoc hk0, hLe]; unfold rowS; rw [aft_eq hp, Int.toNat_natCast]; exact hLt⟩
      · obtain rfl : j = (oList ps).length := by have := nn_f hc25; omega
        rw [List.take_length] at hLe
        refine wp_exit ?_
        refine then_exit ?_
        refine then_exit ?_
        refine inB_exit_same ?_
        refine then_normal ?_
        refine wp_seq ?_
        refine region_s ?_
        refine q_look (look_move rfl rfl) ?_
        refine q_look (look_assign rfl rfl) ?_
        refine q_look (look_assign rfl rfl) ?_
        refine q_nil ?_
        rintro _ rfl
        refine then_normal ?_
        refine wp_ret ?_
        exact res2 Try.results15 rfl rfl ⟨_, by rw [h0], hX, hL.as (by unfold startsP; rw [if_neg (fun h => h h0), ← hLe, hL0])⟩

end Go.Proofs.Ytldgigjapifagaa
