/- The walks of chapter 47 (outfit), fourth part: the reference's Missing. -/
import Derived.Test.YtldgigjapifagaaC
namespace Go.Proofs.Ytldgigjapifagaa
open Go Go.RowKit Core
set_option linter.unusedVariables false
set_option linter.unusedSimpArgs false
attribute [local irreducible] wpQuiet wpList wpH wpT Code.wp Calls bodyPost act


def ndB (n : Nat) (nd : List Int) : List Bool := (List.range n).map fun (i : Nat) => decide ((i : Int) ∈ nd)
theorem ndB_len (n : Nat) (nd : List Int) : (ndB n nd).length = n := by simp [ndB]
theorem ndB_get {n i : Nat} {nd : List Int} (h : i < n) : (ndB n nd)[i]? = some (decide ((i : Int) ∈ nd)) := by simp [ndB, h]
theorem ndB_nil (n : Nat) : List.replicate n false = ndB n [] := by
  apply List.ext_getElem?
  intro i
  by_cases h : i < n
  · rw [ndB_get h]; simp [h]
  · simp [ndB, h]
theorem ndB_set {n k : Nat} {nd : List Int} (h : k < n) : (ndB n nd).set k true = ndB n (nd ++ [(k : Int)]) := by
  apply List.ext_getElem?
  intro i
  rw [List.getElem?_set]
  by_cases e : k = i
  · subst e; rw [if_pos rfl, if_pos (by rw [ndB_len]; exact h), ndB_get h]; simp
  · rw [if_neg e]
    by_cases hi : i < n
    · rw [ndB_get hi, ndB_get hi]
      congr 1
      rw [Bool.eq_iff_iff, decide_eq_true_eq, decide_eq_true_eq, List.mem_append, List.mem_singleton]
      exact ⟨.inl, fun h => h.resolve_right (by omega)⟩
    · rw [List.getElem?_eq_none (by rw [ndB_len]; omega), List.getElem?_eq_none (by rw [ndB_len]; omega)]
theorem drop_snoc {α : Type} {l : List α} {i : Nat} {x : α} (h : i ≤ l.length) : (l ++ [x]).drop i = l.drop i ++ [x] := by rw [List.drop_append_of_le_length h]

theorem refmiss_any (h nd0 pt sm : Value) (pA : Option Addr) (ps : List Pk) (pc : Nat) (ne : Value) (dn : List ByteArray) (dA : Option Addr) (dc : Nat) (id : ByteArray) (w : World) (hD : DOk w pA ps) (hN : Sl scell 1 w dA dn) (hnl : dn.length ≤ maxLen) (hps : ps.length ≤ 1000) :
    Calls Try.prog 21 #[.agg #[h, nd0, pt, sm, .slice pA ps.length pc, ne], .slice dA dn.length dc, .string id] w fun e w' => ∃ v, e = .returned v ∧ Ext w w' ∧ Own scell 9 1 w.heap.size w' v (missP dn id ps) := by
  refine calls_act Try.func21 rfl Try.ntmps21 rfl rfl ?_
  show Code.wp _ _ _ (act 107 [(0, true, .agg #[h, nd0, pt, sm, .slice pA ps.length pc, ne]), (1, true, .slice dA dn.length dc), (2, true, .string id)] _) _
  have hX : Ext w w := Ext.rfl' w
  refine wp_seq ?_
  refine wp_region_lit ?_
  refine s_box rfl ?_
  intro g1 u1 hu1 hB1 hg1 hs1
  replace hB1 : Blk u1 g1 28 ([h, nd0, pt, sm, .slice pA ps.length pc, ne]) := hB1
  have ge_g1 : w.heap.size ≤ g1 := by have := hX.size; omega
  replace hX := hX.comp hu1
  refine s_look (look_assign rfl rfl) ?_
  refine s_nil ?_
  refine then_normal ?_
  refine wp_seq ?_
  refine region_q ?_
  refine q_look (look_loadN Try.underlying28 rfl szTry_28 rfl rfl rfl (ext_cell_n hB1)) ?_
  refine q_look (look_move rfl rfl) ?_
  refine q_call (vs := [_, _]) enTry_33 ⟨⟨_, rfl, rfl⟩, ⟨_, rfl, rfl⟩, trivial⟩ (fun wc hw => cext hw (find_any h nd0 pt sm pA ps pc ne id wc (hD.ext (hX.comp hw)))) ?_
  refine q_look (look_assign rfl rfl) ?_
  refine q_nil ?_
  intro w1 hw1
  replace hX := hX.comp hw1
  replace hB1 := hB1.ext hw1
  obtain ⟨first, hfi⟩ : ∃ first, first = findP id ps := ⟨_, rfl⟩
  have hfb := findP_bd id ps
  rw [← hfi] at hfb
  rw [← hfi]
  refine then_normal ?_
  refine wp_seq ?_
  refine wp_seq ?_
  refine region_s ?_
  refine q_look (look_move rfl rfl) ?_
  refine q_look (look_lss rfl rfl rfl rfl) ?_
  refine q_nil ?_
  rintro _ rfl
  refine then_normal ?_
  refine cond_split rfl (fun hc20 => ?_) (fun hc20 => ?_)
  · have h0 : first < 0 := nn_t hc20
    refine wp_seq ?_
    refine region_s ?_
    refine q_look (look_assign rfl rfl) ?_
    refine q_nil ?_
    rintro _ rfl
    refine then_normal ?_
    refine wp_ret ?_
    refine then_ret ?_
    exact res1 Try.results21 rfl ⟨_, rfl, hX, (Own.nil _ _ _ _ _).as (miss_none (by rw [← hfi]; exact h0)).symm⟩
  · have h0 : ¬ first < 0 := nn_f hc20
    refine wp_skip ?_
    refine then_normal ?_
    refine wp_seq ?_
    refine wp_region_lit ?_
    refine s_look (look_fieldAddr Try.underlying28 rfl (fun _ _ => rfl) rfl rfl) ?_
    refine s_look (look_load1 Try.underlying25 rfl rfl rfl (eqc (hB1.cell rfl))) ?_
    refine s_look (look_len_slice Try.underlying25 rfl rfl) ?_
    refine s_make (ce := bocell) (zx := false) (m := ps.length) Try.underlying57 zsbTry_4 rfl rfl rfl rfl rfl rfl (by omega) hD.len ?_
    intro g2 u2 hu2 hNB hg2
    have ge_g2 : w.heap.size ≤ g2 := by have := hX.size; omega
    have lt_g1_g2 : g1 < g2 := by have := hB1.lt; omega
    replace hNB := hNB.weak hX.size
    replace hX := hX.comp hu2
    replace hB1 := hB1.ext hu2
    have ne_hNB_g1 : Value.ownBlock (.slice (some ⟨g2, 0, none⟩) (ps.length) (ps.length)) ≠ some g1 := by simp [Value.ownBlock]; omega
    refine s_look (look_assign rfl rfl) ?_
    refine s_nil ?_
    refine then_normal ?_
    refine wp_seq ?_
    refine wp_region_lit ?_
    refine s_look (look_move rfl rfl) ?_
    refine s_buildSlice (parts := [(0, .tmp 25)]) (vs := [(0, _)]) (cells := icell first) Try.underlying35 szTry_3 zeTry_3 rfl rfl ⟨⟨_, rfl, rfl⟩, trivial⟩ rfl (by kernel_rfl) ?_
    intro g3 u3 hu3 hB3 hg3 hs3
    have lt_g1_g3 : g1 < g3 := by have := hB1.lt; omega
    have ne_hNB_g3 : (Value.ownBlock (.slice (some ⟨g2, 0, none⟩) (ps.length) (ps.length))) ≠ some g3 := hNB.ne_new (by omega)
    have ge_g3 : w.heap.size ≤ g3 := by have := hX.size; omega
    replace hX := hX.comp hu3
    replace hB1 := hB1.ext hu3
    replace hNB := hNB.ext hu3
    refine s_look (look_assign rfl rfl) ?_
    refine s_nil ?_
    rw [ndB_nil] at hNB
    have hW := Own.one (base := w.heap.size) (ce := icell) (size := 1) (x := first) hB3 ge_g3 rfl
    have ne_hW_g1 : Value.ownBlock (.slice (some ⟨g3, 0, none⟩) 1 1) ≠ some g1 := by simp [Value.ownBlock]; omega
    have dis_hW_hNB : Dis (.slice (some ⟨g3, 0, none⟩) 1 1) (.slice (some ⟨g2, 0, none⟩) ps.length ps.length) := fun k hk e => by simp only [Value.ownBlock, Option.some.injEq] at hk e; exact ne_hNB_g3 (by rw [← hk] at e; simp only [Value.ownBlock]; rw [e])
    refine then_normal ?_
    refine wp_seq ?_
    refine wp_seq ?_
    refine region_s ?_
    refine q_look (look_assign rfl rfl) ?_
    refine q_nil ?_
    rintro _ rfl
    refine then_normal ?_
    refine wp_block ?_
    refine loop_act (fun (ls : Nat × List Int × Value) => [(1, .slice dA dn.length dc), (2, .string id), (3, .pointer (some ⟨g1, 0, none⟩)), (6, .slice none 0 0), (7, .int .i64 first), (8, .slice (some ⟨g2, 0, none⟩) ps.length ps.length), (9, ls.2.2), (10, .int .i64 (ls.1 : Int))]) (fun ls w' => (Ext w w') ∧ (Blk w' g1 28 [h, nd0, pt, sm, .slice pA ps.length pc, ne]) ∧ (Own bocell 4 1 w.heap.size w' (.slice (some ⟨g2, 0, none⟩) ps.length ps.length) (ndB ps.length ls.2.1)) ∧ (Own icell 3 1 w.heap.size w' ls.2.2 (first :: ls.2.1)) ∧ (Value.ownBlock ls.2.2 ≠ some g1) ∧ (Dis ls.2.2 (.slice (some ⟨g2, 0, none⟩) ps.length ps.length)) ∧ (ls.1 ≤ (first :: ls.2.1).length) ∧ (QOk ps.length ((first :: ls.2.1).drop ls.1) ls.2.1) ∧ (run ps (((first :: ls.2.1).drop ls.1).length + (ps.length - ls.2.1.length) + 1) ((first :: ls.2.1).drop ls.1) ls.2.1 = ND ps id)) (fun ls => ps.length + 1 - ls.1) ((0, [], .slice (some ⟨g3, 0, none⟩) 1 1)) ?_ ?_ ?_
    · exact ⟨rfl, rfl, rfl, rfl, rfl, rfl, rfl, rfl, trivial⟩
    · exact ⟨hX, hB1, hNB, hW, ne_hW_g1, dis_hW_hNB, Nat.zero_le _, ⟨fun k hk => by rw [List.mem_singleton.1 hk]; omega, List.nodup_nil, fun k hk => by cases hk⟩, by unfold ND; rw [← hfi]; show run ps (1 + (ps.length - 0) + 1) [first] [] = _; congr 1; omega⟩
    · rintro ⟨i, nd, wv⟩ σ wr hF
      obtain ⟨hX, hB1, hNB, hW, ne_hW_g1, dis_hW_hNB, hi, hst, hrun⟩ : (Ext w wr) ∧ (Blk wr g1 28 [h, nd0, pt, sm, .slice pA ps.length pc, ne]) ∧ (Own bocell 4 1 w.heap.size wr (.slice (some ⟨g2, 0, none⟩) ps.length ps.length) (ndB ps.length nd)) ∧ (Own icell 3 1 w.heap.size wr wv (first :: nd)) ∧ (Value.ownBlock wv ≠ some g1) ∧ (Dis wv (.slice (some ⟨g2, 0, none⟩) ps.length ps.length)) ∧ (i ≤ (first :: nd).length) ∧ (QOk ps.length ((first :: nd).drop i) nd) ∧ (run ps (((first :: nd).drop i).length + (ps.length - nd.length) + 1) ((first :: nd).drop i) nd = ND ps id) := hF
      show Code.wp _ _ _ (act 107 [(1, true, .slice dA dn.length dc), (2, true, .string id), (3, true, .pointer (some ⟨g1, 0, none⟩)), (6, true, .slice none 0 0), (7, true, .int .i64 first), (8, true, .slice (some ⟨g2, 0, none⟩) ps.length ps.length), (9, true, wv), (10, true, .int .i64 (i : Int))] _) _
      refine wp_seq ?_
      refine wp_seq ?_
      obtain ⟨Aw, cw, rfl, hSW, hcw, _⟩ := hW.sl hce_i
      refine region_s ?_
      refine q_look (look_move rfl rfl) ?_
      refine q_look (look_move rfl rfl) ?_
      refine q_look (look_len_slice Try.underlying35 rfl rfl) ?_
      refine q_look (look_lss rfl rfl rfl rfl) ?_
      refine q_nil ?_
      rintro _ rfl
      refine then_normal ?_
      refine cond_split rfl (fun hc30 => ?_) (fun hc30 => ?_)
      · have hlt0 : i < (first :: nd).length := by have := nn_t hc30; omega
        obtain ⟨k, hk⟩ := get_lt hlt0
        obtain ⟨bw, ow, rfl, _⟩ := hSW.at_ hlt0
        have hkb : 0 ≤ k ∧ k < (ps.length : Int) := by
          rcases List.mem_cons.1 (mem_get hk) with e | e
          · subst e; omega
          · exact hst.nd k e
        obtain ⟨ki, rfl⟩ : ∃ ki : Nat, k = (ki : Int) := ⟨k.toNat, by omega⟩
        have hlt : ki < ps.length := by omega
        obtain ⟨p, hp⟩ := get_lt hlt
        obtain ⟨b1, o1, rfl, _⟩ := (hD.sl.ext hX).at_ hlt
        have hpo := hD.ok p (mem_get hp)
        obtain ⟨A2, hA2⟩ : ∃ A2, p.A = A2 := ⟨_, rfl⟩
        have hpo1 := hpo.1
        rw [hA2] at hpo1
        refine wp_skip ?_
        refine then_normal ?_
        refine wp_seq ?_
        refine wp_block ?_
        refine wp_seq ?_
        refine region_h (fun W => Ext w W ∧ Blk W g1 28 ([h, nd0, pt, sm, .slice (some ⟨b1, o1, none⟩) ps.length pc, ne]) ∧ Own bocell 4 1 w.heap.size W (.slice (some ⟨g2, 0, none⟩) ps.length ps.length) (ndB ps.length nd) ∧ Own icell 3 1 w.heap.size W (.slice (some ⟨bw, ow, none⟩) (first :: nd).length cw) (first :: nd)) [(0, true), (1, true), (2, true), (3, true), (4, true), (5, true), (6, true), (7, true), (8, false), (9, false)] mixed (by kernel_rfl) rfl (by kernel_rfl) (by repeat (first | exact pk_body | refine pk_then ?_ | refine pk_block ?_))  ?_
        intro u4 hR4
        replace hX := hX.comp hR4
        replace hB1 := hB1.ext hR4
        replace hNB := hNB.ext hR4
        replace hW := hW.ext hR4
        refine ⟨⟨hX, hB1, hNB, hW⟩, ?_⟩
        refine h_look rfl (look_fieldAddr Try.underlying28 rfl (fun _ _ => rfl) rfl rfl) ?_
        refine h_look rfl (look_load1 Try.underlying25 rfl rfl rfl (fun w' hS => (hS.2.1).cell rfl)) ?_
        refine h_look rfl (look_move rfl rfl) ?_
        refine h_look rfl (look_move rfl rfl) ?_
        refine h_look rfl (look_indexAddr _ Try.underlying35 szTry_3 rfl rfl rfl rfl rfl (by omega)) ?_
        refine h_look rfl (look_load1 Try.underlying3 rfl rfl rfl (fun w' hS => (hS.2.2.2.rd hce_i i (ki : Int) hk) 0 _ rfl)) ?_
        refine h_look rfl (look_indexAddr _ Try.underlying25 szTry_48 rfl rfl rfl rfl rfl (by omega)) ?_
        refine h_look rfl (look_loadN Try.underlying48 rfl szTry_48 rfl rfl rfl (cs := pcell p) (fun w' hS => ((hD.sl.ext hS.1).rd ki p hp))) ?_
        refine h_seq rfl ?_ ⟨hX, hB1, hNB, hW⟩
        refine s_alloc zeTry_48 ?_
        intro g5 u5 hu5 hB5 hg5 hs5
        have lt_g1_g5 : g1 < g5 := by have := hB1.lt; omega
        have ne_hNB_g5 : (Value.ownBlock (.slice (some ⟨g2, 0, none⟩) ps.length ps.length)) ≠ some g5 := hNB.ne_new (by omega)
        have ne_hW_g5 : (Value.ownBlock (.slice (some ⟨bw, ow, none⟩) (first :: nd).length cw)) ≠ some g5 := hW.ne_new (by omega)
        have ge_g5 : w.heap.size ≤ g5 := by have := hX.size; omega
        replace hX := hX.comp hu5
        replace hB1 := hB1.ext hu5
        replace hNB := hNB.ext hu5
        replace hW := hW.ext hu5
        refine s_nil ?_
        refine then_normal ?_
        refine ⟨⟨hX, hB1, hNB, hW⟩, ?_⟩
        refine h_seq rfl ?_ ⟨hX, hB1, hNB, hW⟩
        refine s_store szTry_48 rfl (by simp [pcell, scell, Value.cells, Value.oneCell']) rfl rfl hB5 rfl ?_
        intro u6 hk6 hT6
        replace hT6 : Blk u6 g5 48 (pcell p) := hT6
        replace hX := hX.kp hk6 (by omega)
        replace hB1 := hB1.kp hk6 (by omega)
        replace hNB := hNB.kp hk6 ne_hNB_g5
        replace hW := hW.kp hk6 ne_hW_g5
        clear hB5
        have hB5 := hT6
        refine s_nil ?_
        refine then_normal ?_
        refine ⟨⟨hX, hB1, hNB, hW⟩, ?_⟩
        refine h_nil ?_
        refine then_normal ?_
        refine wp_seq ?_
        refine region_s ?_
        refine q_look (look_assign rfl rfl) ?_
        refine q_nil ?_
        rintro _ rfl
        refine then_normal ?_
        refine wp_block ?_
        refine loop_act (fun (ls : Nat × List Int × Value) => [(1, .slice dA dn.length dc), (2, .string id), (3, .pointer (some ⟨g1, 0, none⟩)), (6, .slice none 0 0), (7, .int .i64 first), (8, .slice (some ⟨g2, 0, none⟩) ps.length ps.length), (9, ls.2.2), (10, .int .i64 (i : Int)), (11, .pointer (some ⟨g5, 0, none⟩)), (12, .int .i64 (ls.1 : Int))]) (fun ls w' => (Ext w w') ∧ (Blk w' g1 28 [h, nd0, pt, sm, .slice (some ⟨b1, o1, none⟩) ps.length pc, ne]) ∧ (Blk w' g5 48 (pcell p)) ∧ (Own bocell 4 1 w.heap.size w' (.slice (some ⟨g2, 0, none⟩) ps.length ps.length) (ndB ps.length ls.2.1)) ∧ (Own icell 3 1 w.heap.size w' ls.2.2 (first :: ls.2.1)) ∧ (Value.ownBlock ls.2.2 ≠ some g1) ∧ (Dis ls.2.2 (.slice (some ⟨g2, 0, none⟩) ps.length ps.length)) ∧ (Value.ownBlock ls.2.2 ≠ some g5) ∧ (ls.1 ≤ p.after.length) ∧ (i + 1 ≤ (first :: ls.2.1).length) ∧ (QOk ps.length ((first :: ls.2.1).drop (i + 1)) ls.2.1) ∧ (foldA ps (p.after.drop ls.1) ((first :: ls.2.1).drop (i + 1), ls.2.1) = foldA ps p.after ((first :: nd).drop (i + 1), nd)) ∧ (((first :: ls.2.1).drop (i + 1)).length + (ps.length - ls.2.1.length) = ((first :: nd).drop (i + 1)).length + (ps.length - nd.length))) (fun ls => p.after.length - ls.1) ((0, nd, .slice (some ⟨bw, ow, none⟩) (first :: nd).length cw)) ?_ ?_ ?_
        · exact ⟨rfl, rfl, rfl, rfl, rfl, rfl, rfl, rfl, rfl, rfl, trivial⟩
        · exact ⟨hX, hB1, hB5, hNB, hW, ne_hW_g1, dis_hW_hNB, ne_hW_g5, Nat.zero_le _, by show i + 1 ≤ (first :: nd).length; omega, (by have h1 := hst; rw [drop_get hk] at h1; exact h1.tail), rfl, rfl⟩
        · rintro ⟨j, nd2, wv⟩ σ wr hF
          obtain ⟨hX, hB1, hB5, hNB, hW, ne_hW_g1, dis_hW_hNB, ne_hW_g5, hj, hi2, hst2, hfold, hlen2⟩ : (Ext w wr) ∧ (Blk wr g1 28 [h, nd0, pt, sm, .slice (some ⟨b1, o1, none⟩) ps.length pc, ne]) ∧ (Blk wr g5 48 (pcell p)) ∧ (Own bocell 4 1 w.heap.size wr (.slice (some ⟨g2, 0, none⟩) ps.length ps.length) (ndB ps.length nd2)) ∧ (Own icell 3 1 w.heap.size wr wv (first :: nd2)) ∧ (Value.ownBlock wv ≠ some g1) ∧ (Dis wv (.slice (some ⟨g2, 0, none⟩) ps.length ps.length)) ∧ (Value.ownBlock wv ≠ some g5) ∧ (j ≤ p.after.length) ∧ (i + 1 ≤ (first :: nd2).length) ∧ (QOk ps.length ((first :: nd2).drop (i + 1)) nd2) ∧ (foldA ps (p.after.drop j) ((first :: nd2).drop (i + 1), nd2) = foldA ps p.after ((first :: nd).drop (i + 1), nd)) ∧ (((first :: nd2).drop (i + 1)).length + (ps.length - nd2.length) = ((first :: nd).drop (i + 1)).length + (ps.length - nd.length)) := hF
          show Code.wp _ _ _ (act 107 [(1, true, .slice dA dn.length dc), (2, true, .string id), (3, true, .pointer (some ⟨g1, 0, none⟩)), (6, true, .slice none 0 0), (7, true, .int .i64 first), (8, true, .slice (some ⟨g2, 0, none⟩) ps.length ps.length), (9, true, wv), (10, true, .int .i64 (i : Int)), (11, true, .pointer (some ⟨g5, 0, none⟩)), (12, true, .int .i64 (j : Int))] _) _
          refine wp_seq ?_
          refine wp_seq ?_
          refine region_s ?_
          refine q_look (look_move rfl rfl) ?_
          refine q_look (look_fieldAddr Try.underlying48 rfl (fun _ _ => rfl) rfl rfl) ?_
          refine q_look (Look.as (look_load1 Try.underlying31 rfl rfl rfl (eqc (hB5.cell rfl))) (v' := .slice A2 p.after.length p.cap) (by rw [hA2])) ?_
          refine q_look (look_len_slice Try.underlying31 rfl rfl) ?_
          refine q_look (look_lss rfl rfl rfl rfl) ?_
          refine q_nil ?_
          rintro _ rfl
          refine then_normal ?_
          refine cond_split rfl (fun hc45 => ?_) (fun hc45 => ?_)
          · have hlj : j < p.after.length := by have := nn_t hc45; omega
            obtain ⟨x, hx⟩ := get_lt hlj
            obtain ⟨b2, o2, rfl, hr2⟩ := (hpo1.ext hX).at_ hlj
            have hfx := findP_bd x ps
            have hpl2 := hpo.2.1
            refine wp_skip ?_
            refine then_normal ?_
            refine wp_seq ?_
            refine wp_block ?_
            refine wp_seq ?_
            refine region_qd mixed (by kernel_rfl) ?_
            refine q_look (look_loadN Try.underlying28 rfl szTry_28 rfl rfl rfl (ext_cell_n hB1)) ?_
            refine q_look (look_fieldAddr Try.underlying48 rfl (fun _ _ => rfl) rfl rfl) ?_
            refine q_look (Look.as (look_load1 Try.underlying31 rfl rfl rfl (ext_cell (hB5.cell rfl))) (v' := .slice (some ⟨b2, o2, none⟩) p.after.length p.cap) (by rw [hA2])) ?_
            refine q_look (look_move rfl rfl) ?_
            refine q_look (look_indexAddr _ Try.underlying31 szTry_9 rfl rfl rfl rfl rfl (by omega)) ?_
            refine q_look (look_load1 Try.underlying9 rfl rfl rfl (ext_cell (((hpo1.ext hX).rd j x hx) 0 _ rfl))) ?_
            refine q_call (vs := [_, _]) enTry_33 ⟨⟨_, rfl, rfl⟩, ⟨_, rfl, rfl⟩, trivial⟩ (fun wc hw => cext hw (find_any h nd0 pt sm (some ⟨b1, o1, none⟩) ps pc ne x wc (hD.ext (hX.comp hw)))) ?_
            refine q_look (look_assign rfl rfl) ?_
            refine q_nil ?_
            intro w2 hw2
            replace hX := hX.comp hw2
            replace hB1 := hB1.ext hw2
            replace hB5 := hB5.ext hw2
            replace hNB := hNB.ext hw2
            replace hW := hW.ext hw2
            refine then_normal ?_
            refine wp_seq ?_
            refine region_s ?_
            refine q_look (look_move rfl rfl) ?_
            refine q_look (look_geq rfl rfl rfl rfl) ?_
            refine q_look (look_move rfl rfl) ?_
            refine q_lookg rfl rfl rfl (fun hq => look_move rfl rfl) ?_
            refine q_lookg rfl rfl rfl (fun hq => look_move rfl rfl) ?_
            refine q_lookg rfl rfl rfl (fun hq => look_indexAddr (findP x ps).toNat Try.underlying57 szTry_4 rfl hq rfl hq (by have := nn_t (gqR hq); omega) (by have := nn_t (gqR hq); omega)) ?_
            refine q_lookg rfl rfl rfl (fun hq => look_load1 Try.underlying4 rfl rfl hq (eqc ((hNB.rd hce_bo (findP x ps).toNat _ (ndB_get (by have := nn_t (gqR hq); omega))) 0 _ rfl))) ?_
            refine q_lookg rfl rfl rfl (fun hq => look_not rfl hq) ?_
            refine q_look (look_and rfl rfl rfl rfl) ?_
            refine q_nil ?_
            rintro _ rfl
            refine then_normal ?_
            refine cond_split rfl (fun hc63 => ?_) (fun hc63 => ?_)
            · have hnew : 0 ≤ findP x ps ∧ ¬ findP x ps ∈ nd2 := by
                rw [Bool.and_eq_true] at hc63
                have h1 := nn_t hc63.1
                have h2 := nd_t hc63.2
                rw [show (((findP x ps).toNat : Nat) : Int) = findP x ps by omega] at h2
                exact ⟨h1, h2⟩
              have hjx : findP x ps = (((findP x ps).toNat : Nat) : Int) := by omega
              refine wp_seq ?_
              refine wp_region_lit ?_
              refine s_look (look_move rfl rfl) ?_
              refine s_look (look_move rfl rfl) ?_
              refine s_look (look_indexAddr (findP x ps).toNat Try.underlying57 szTry_4 rfl rfl rfl rfl (by omega) (by omega)) ?_
              refine s_storeRow (ce := bocell) (kv := (fun b : Bool => Value.bool b)) (u := true) (j := (findP x ps).toNat) szTry_4 (fun _ => rfl) rfl rfl (by rfl) (by rfl) hNB (by omega) (by rw [ndB_len]; omega) ?_
              intro u7 hk7 hT7
              replace hX := hX.kp hk7 (by omega)
              replace hB1 := hB1.kp hk7 (fun e => ne_hNB_g1 (by rw [e]; rfl))
              replace hB5 := hB5.kp hk7 (fun e => ne_hNB_g5 (by rw [e]; rfl))
              replace hW := hW.kp hk7 (fun e => dis_hW_hNB g2 e rfl)
              clear hNB
              have hNB := hT7
              refine s_nil ?_
              refine then_normal ?_
              refine wp_region_lit ?_
              refine s_look (look_move rfl rfl) ?_
              refine s_look (look_move rfl rfl) ?_
              refine s_buildSlice (parts := [(0, .tmp 68)]) (vs := [(0, _)]) (cells := icell (findP x ps)) Try.underlying35 szTry_3 zeTry_3 rfl rfl ⟨⟨_, rfl, rfl⟩, trivial⟩ rfl (by kernel_rfl) ?_
              intro g8 u8 hu8 hB8 hg8 hs8
              have lt_g1_g8 : g1 < g8 := by have := hB1.lt; omega
              have lt_g5_g8 : g5 < g8 := by have := hB5.lt; omega
              have ne_hNB_g8 : (Value.ownBlock (.slice (some ⟨g2, 0, none⟩) ps.length ps.length)) ≠ some g8 := hNB.ne_new (by omega)
              have ne_hW_g8 : (Value.ownBlock (wv)) ≠ some g8 := hW.ne_new (by omega)
              have ge_g8 : w.heap.size ≤ g8 := by have := hX.size; omega
              replace hX := hX.comp hu8
              replace hB1 := hB1.ext hu8
              replace hB5 := hB5.ext hu8
              replace hNB := hNB.ext hu8
              replace hW := hW.ext hu8
              have hsz9 := hX.size
              refine s_appendL (ce := icell) (news := [findP x ps]) Try.underlying35 zsbTry_3 rfl rfl rfl hW rfl (Blk.src (x := findP x ps) rfl (by simp [icell, Value.oneCell']) hB8) (by have h1 := hst2.len; have := hps; have := maxLen_is; simp only [List.length_cons, List.length_nil]; omega) (by have h1 := hst2.len; have := hps; simp only [List.length_cons, List.length_nil]; omega) (by omega) ?_
              intro v9 u9 hN9 hgr9 hat9
              replace hX := hX.grow hW (Nat.le_refl _) hgr9
              have hn_hB1 := hB1.grown hgr9 ne_hW_g1
              have hn_hB5 := hB5.grown hgr9 ne_hW_g5
              replace ne_hW_g1 := ne_app ne_hW_g1 hB1.lt hat9
              replace ne_hW_g5 := ne_app ne_hW_g5 hB5.lt hat9
              clear hB1
              have hB1 := hn_hB1
              clear hn_hB1
              clear hB5
              have hB5 := hn_hB5
              clear hn_hB5
              have hn_hNB := hNB.grown hgr9 (Dis.ne dis_hW_hNB)
              replace dis_hW_hNB := Dis.app dis_hW_hNB (fun k e => (hNB.ge e).2) hat9
              clear hNB
              have hNB := hn_hNB
              clear hn_hNB
              clear hW
              have hW := hN9
              refine s_look (look_assign rfl rfl) ?_
              refine s_nil ?_
              refine inB_normal ?_
              refine then_normal ?_
              refine region_s ?_
              refine q_look (look_move rfl rfl) ?_
              refine q_look (look_add rfl rfl rfl rfl (by have := hD.len; have := maxLen_is; unfold I64; omega)) ?_
              refine q_look (look_assign rfl rfl) ?_
              refine q_nil ?_
              rintro _ rfl
              exact loop_end ((j + 1, nd2 ++ [findP x ps], v9)) (by simp only []; omega) ⟨rfl, rfl, rfl, rfl, rfl, rfl, rfl, rfl, rfl, rfl, trivial⟩ ⟨hX, hB1, hB5, (by rw [hjx]; rw [← ndB_set (by omega)]; exact hNB), hW, ne_hW_g1, dis_hW_hNB, ne_hW_g5, by show j + 1 ≤ p.after.length; omega, by show i + 1 ≤ (first :: (nd2 ++ [_])).length; simp only [List.length_cons, List.length_append] at hi2 ⊢; omega, (by have h1 := hst2.add (k := findP x ps) (by omega) hnew.2; rw [← drop_snoc hi2] at h1; exact h1), by rw [← hfold, foldA_drop hx, stepA_pos hnew]; show foldA ps _ ((first :: (nd2 ++ [findP x ps])).drop (i + 1), _) = _; rw [← drop_snoc hi2]; rfl, by have h9 := hst2.len_lt (k := findP x ps) (by omega) hnew.2; show ((first :: (nd2 ++ [findP x ps])).drop (i + 1)).length + (ps.length - (nd2 ++ [findP x ps]).length) = _; simp only [List.length_drop, List.length_cons, List.length_append, List.length_nil] at hlen2 hi2 ⊢; omega⟩
            · have hnew : ¬ (0 ≤ findP x ps ∧ ¬ findP x ps ∈ nd2) := fun hh => by
                rw [decide_eq_true hh.1, Bool.true_and] at hc63
                have h2 := nd_f hc63
                rw [show (((findP x ps).toNat : Nat) : Int) = findP x ps by have := hh.1; omega] at h2
                exact hh.2 h2
              refine wp_skip ?_
              refine inB_normal ?_
              refine then_normal ?_
              refine region_s ?_
              refine q_look (look_move rfl rfl) ?_
              refine q_look (look_add rfl rfl rfl rfl (by have := hD.len; have := maxLen_is; unfold I64; omega)) ?_
              refine q_look (look_assign rfl rfl) ?_
              refine q_nil ?_
              rintro _ rfl
              exact loop_end ((j + 1, nd2, wv)) (by simp only []; omega) ⟨rfl, rfl, rfl, rfl, rfl, rfl, rfl, rfl, rfl, rfl, trivial⟩ ⟨hX, hB1, hB5, hNB, hW, ne_hW_g1, dis_hW_hNB, ne_hW_g5, by show j + 1 ≤ p.after.length; omega, hi2, hst2, by rw [← hfold, foldA_drop hx, stepA_neg hnew], hlen2⟩
          · obtain rfl : j = p.after.length := by have := nn_f hc45; omega
            rw [List.drop_length] at hfold
            change (_, nd2) = _ at hfold
            refine wp_exit ?_
            refine then_exit ?_
            refine then_exit ?_
            refine inB_exit_same ?_
            refine inB_normal ?_
            refine then_normal ?_
            refine region_s ?_
            refine q_look (look_move rfl rfl) ?_
            refine q_look (look_add rfl rfl rfl rfl (by have := hD.len; have := maxLen_is; unfold I64; omega)) ?_
            refine q_look (look_assign rfl rfl) ?_
            refine q_nil ?_
            rintro _ rfl
            exact loop_end ((i + 1, nd2, wv)) (by have hl := hst.len; simp only [List.length_cons] at hi hlt0 ⊢; omega) ⟨rfl, rfl, rfl, rfl, rfl, rfl, rfl, rfl, trivial⟩ ⟨hX, hB1, hNB, hW, ne_hW_g1, dis_hW_hNB, by show i + 1 ≤ (first :: nd2).length; have h1 := hst2.len; omega, hst2, by rw [← hrun, drop_get hk, run, if_neg (by omega), aft_eq hp, ← hfold]; congr 1; show ((first :: nd2).drop (i + 1)).length + (ps.length - nd2.length) + 1 = _; rw [List.length_cons]; omega⟩
      · obtain rfl : i = (first :: nd).length := by have := nn_f hc30; omega
        rw [List.drop_length] at hrun
        obtain rfl : nd = ND ps id := by rw [← hrun]; rfl
        refine wp_exit ?_
        refine then_exit ?_
        refine then_exit ?_
        refine inB_exit_same ?_
        refine then_normal ?_
        refine wp_seq ?_
        have hO := Own.nil scell 9 1 w.heap.size w
        refine region_s ?_
        refine q_look (look_assign rfl rfl) ?_
        refine q_nil ?_
        rintro _ rfl
        refine then_normal ?_
        refine wp_seq ?_
        refine wp_seq ?_
        refine region_s ?_
        refine q_look (look_assign rfl rfl) ?_
        refine q_nil ?_
        rintro _ rfl
        refine then_normal ?_
        refine wp_block ?_
        refine loop_act (fun (ls : Nat × Value × List ByteArray) => [(1, .slice dA dn.length dc), (3, .pointer (some ⟨g1, 0, none⟩)), (7, .int .i64 first), (8, .slice (some ⟨g2, 0, none⟩) ps.length ps.length), (14, ls.2.1), (15, .int .i64 (ls.1 : Int))]) (fun ls w' => (Ext w w') ∧ (Blk w' g1 28 [h, nd0, pt, sm, .slice pA ps.length pc, ne]) ∧ (Own bocell 4 1 w.heap.size w' (.slice (some ⟨g2, 0, none⟩) ps.length ps.length) (ndB ps.length (ND ps id))) ∧ (Own scell 9 1 w.heap.size w' ls.2.1 ls.2.2) ∧ (Value.ownBlock ls.2.1 ≠ some g1) ∧ (Dis ls.2.1 (.slice (some ⟨g2, 0, none⟩) ps.length ps.length)) ∧ (ls.1 ≤ ps.length) ∧ (ls.2.2.length ≤ ls.1) ∧ (ls.2.2 ++ misL dn (ND ps id) first (ps.drop ls.1) ls.1 = missP dn id ps)) (fun ls => ps.length - ls.1) ((0, .slice none 0 0, [])) ?_ ?_ ?_
        · exact ⟨rfl, rfl, rfl, rfl, rfl, rfl, trivial⟩
        · exact ⟨hX, hB1, hNB, Own.nil _ _ _ _ _, by simp [Value.ownBlock], (fun k hk => by cases hk), Nat.zero_le _, Nat.le_refl _, by rw [hfi]; rfl⟩
        · rintro ⟨k, ov, ol⟩ σ wr hF
          obtain ⟨hX, hB1, hNB, hO, ne_hO_g1, dis_hO_hNB, hk, hol, hout⟩ : (Ext w wr) ∧ (Blk wr g1 28 [h, nd0, pt, sm, .slice pA ps.length pc, ne]) ∧ (Own bocell 4 1 w.heap.size wr (.slice (some ⟨g2, 0, none⟩) ps.length ps.length) (ndB ps.length (ND ps id))) ∧ (Own scell 9 1 w.heap.size wr ov ol) ∧ (Value.ownBlock ov ≠ some g1) ∧ (Dis ov (.slice (some ⟨g2, 0, none⟩) ps.length ps.length)) ∧ (k ≤ ps.length) ∧ (ol.length ≤ k) ∧ (ol ++ misL dn (ND ps id) first (ps.drop k) k = missP dn id ps) := hF
          show Code.wp _ _ _ (act 107 [(1, true, .slice dA dn.length dc), (3, true, .pointer (some ⟨g1, 0, none⟩)), (7, true, .int .i64 first), (8, true, .slice (some ⟨g2, 0, none⟩) ps.length ps.length), (14, true, ov), (15, true, .int .i64 (k : Int))] _) _
          refine wp_seq ?_
          refine wp_seq ?_
          refine region_s ?_
          refine q_look (look_move rfl rfl) ?_
          refine q_look (look_move rfl rfl) ?_
          refine q_look (look_len_slice Try.underlying57 rfl rfl) ?_
          refine q_look (look_lss rfl rfl rfl rfl) ?_
          refine q_nil ?_
          rintro _ rfl
          refine then_normal ?_
          refine cond_split rfl (fun hc74 => ?_) (fun hc74 => ?_)
          · have hlt : k < ps.length := by have := nn_t hc74; omega
            obtain ⟨p, hp⟩ := get_lt hlt
            obtain ⟨b1, o1, rfl, _⟩ := (hD.sl.ext hX).at_ hlt
            refine wp_skip ?_
            refine then_normal ?_
            refine wp_seq ?_
            refine wp_block ?_
            refine wp_seq ?_
            refine region_q ?_
            refine q_look (look_move rfl rfl) ?_
            refine q_look (look_move rfl rfl) ?_
            refine q_look (look_indexAddr _ Try.underlying57 szTry_4 rfl rfl rfl rfl rfl (by omega)) ?_
            refine q_look (look_load1 Try.underlying4 rfl rfl rfl (ext_cell ((hNB.rd hce_bo k _ (ndB_get hlt)) 0 _ rfl))) ?_
            refine q_look (look_move rfl rfl) ?_
            refine q_lookg rfl rfl rfl (fun hq => look_move rfl rfl) ?_
            refine q_lookg rfl rfl rfl (fun hq => look_move rfl rfl) ?_
            refine q_lookg rfl rfl rfl (fun hq => look_neq rfl hq rfl hq) ?_
            refine q_look (look_and rfl rfl rfl rfl) ?_
            refine q_look (look_move rfl rfl) ?_
            refine q_lookg rfl rfl rfl (fun hq => look_move rfl rfl) ?_
            refine q_lookg rfl rfl rfl (fun hq => look_fieldAddr Try.underlying28 rfl (fun _ _ => rfl) rfl rfl) ?_
            refine q_lookg rfl rfl rfl (fun hq => look_load1 Try.underlying25 rfl rfl hq (ext_cell (hB1.cell rfl))) ?_
            refine q_lookg rfl rfl rfl (fun hq => look_move rfl rfl) ?_
            refine q_lookg rfl rfl rfl (fun hq => look_indexAddr _ Try.underlying25 szTry_48 rfl hq rfl hq rfl (by omega)) ?_
            refine q_lookg rfl rfl rfl (fun hq => look_fieldAddr Try.underlying48 rfl (fun _ _ => rfl) rfl hq) ?_
            refine q_lookg rfl rfl rfl (fun hq => look_load1 Try.underlying9 rfl rfl hq (ext_cell (((hD.sl.ext hX).rd k p hp) _ _ rfl))) ?_
            refine q_callg (vs := [_, _]) rfl rfl rfl enTry_27 (fun hq => ⟨⟨_, rfl, hq⟩, ⟨_, rfl, hq⟩, trivial⟩) (fun hq wc hw => cext hw (has_any dn dA dc p.id wc (hN.ext (hX.comp hw)) hnl)) ?_
            refine q_lookg rfl rfl rfl (fun hq => look_not rfl hq) ?_
            refine q_look (look_and rfl rfl rfl rfl) ?_
            refine q_nil ?_
            intro w3 hw3
            replace hX := hX.comp hw3
            replace hB1 := hB1.ext hw3
            replace hNB := hNB.ext hw3
            replace hO := hO.ext hw3
            refine then_normal ?_
            refine cond_split rfl (fun hc96 => ?_) (fun hc96 => ?_)
            · have hin : (k : Int) ∈ ND ps id ∧ (k : Int) ≠ first ∧ ¬ p.id ∈ dn := by simp only [Bool.and_eq_true] at hc96; exact ⟨nn_t hc96.1.1, nd_t hc96.1.2, nd_t hc96.2⟩
              refine wp_region_lit ?_
              refine s_look (look_move rfl rfl) ?_
              refine s_look (look_fieldAddr Try.underlying28 rfl (fun _ _ => rfl) rfl rfl) ?_
              refine s_look (look_load1 Try.underlying25 rfl rfl rfl (eqc (hB1.cell rfl))) ?_
              refine s_look (look_move rfl rfl) ?_
              refine s_look (look_indexAddr _ Try.underlying25 szTry_48 rfl rfl rfl rfl rfl (by omega)) ?_
              refine s_look (look_fieldAddr Try.underlying48 rfl (fun _ _ => rfl) rfl rfl) ?_
              refine s_look (look_load1 Try.underlying9 rfl rfl rfl (eqc (((hD.sl.ext hX).rd k p hp) _ _ rfl))) ?_
              refine s_buildSlice (parts := [(0, .tmp 103)]) (vs := [(0, _)]) (cells := scell p.id) Try.underlying31 szTry_9 zeTry_9 rfl rfl ⟨⟨_, rfl, rfl⟩, trivial⟩ rfl (by kernel_rfl) ?_
              intro g10 u10 hu10 hB10 hg10 hs10
              have lt_g1_g10 : g1 < g10 := by have := hB1.lt; omega
              have ne_hNB_g10 : (Value.ownBlock (.slice (some ⟨g2, 0, none⟩) ps.length ps.length)) ≠ some g10 := hNB.ne_new (by omega)
              have ne_hO_g10 : (Value.ownBlock (ov)) ≠ some g10 := hO.ne_new (by omega)
              have ge_g10 : w.heap.size ≤ g10 := by have := hX.size; omega
              replace hX := hX.comp hu10
              replace hB1 := hB1.ext hu10
              replace hNB := hNB.ext hu10
              replace hO := hO.ext hu10
              have hsz11 := hX.size
              refine s_appendL (ce := scell) (news := [p.id]) Try.underlying31 zsbTry_9 rfl rfl rfl hO rfl (Blk.src (x := p.id) rfl (by simp [scell, Value.oneCell']) hB10) (by simp only [List.length_cons, List.length_nil]; rw [maxLen_is]; omega) (by simp only [List.length_cons, List.length_nil]; omega) (by omega) ?_
              intro v11 u11 hN11 hgr11 hat11
              replace hX := hX.grow hO (Nat.le_refl _) hgr11
              have hn_hB1 := hB1.grown hgr11 ne_hO_g1
              replace ne_hO_g1 := ne_app ne_hO_g1 hB1.lt hat11
              clear hB1
              have hB1 := hn_hB1
              clear hn_hB1
              have hn_hNB := hNB.grown hgr11 (Dis.ne dis_hO_hNB)
              replace dis_hO_hNB := Dis.app dis_hO_hNB (fun k e => (hNB.ge e).2) hat11
              clear hNB
              have hNB := hn_hNB
              clear hn_hNB
              clear hO
              have hO := hN11
              refine s_look (look_assign rfl rfl) ?_
              refine s_nil ?_
              refine inB_normal ?_
              refine then_normal ?_
              refine region_s ?_
              refine q_look (look_move rfl rfl) ?_
              refine q_look (look_add rfl rfl rfl rfl (by have := hD.len; have := maxLen_is; unfold I64; omega)) ?_
              refine q_look (look_assign rfl rfl) ?_
              refine q_nil ?_
              rintro _ rfl
              exact loop_end ((k + 1, v11, ol ++ [p.id])) (by simp only []; omega) ⟨rfl, rfl, rfl, rfl, rfl, rfl, trivial⟩ ⟨hX, hB1, hNB, hO, ne_hO_g1, dis_hO_hNB, by show k + 1 ≤ ps.length; omega, by show (ol ++ [_]).length ≤ k + 1; simp only [List.length_append, List.length_cons, List.length_nil]; omega, by rw [← hout, drop_get hp, misL, if_pos hin, ← List.append_assoc]⟩
            · have hin : ¬ ((k : Int) ∈ ND ps id ∧ (k : Int) ≠ first ∧ ¬ p.id ∈ dn) := fun hh => by rw [decide_eq_true hh.1, decide_eq_false hh.2.1, decide_eq_false hh.2.2] at hc96; cases hc96
              refine wp_skip ?_
              refine inB_normal ?_
              refine then_normal ?_
              refine region_s ?_
              refine q_look (look_move rfl rfl) ?_
              refine q_look (look_add rfl rfl rfl rfl (by have := hD.len; have := maxLen_is; unfold I64; omega)) ?_
              refine q_look (look_assign rfl rfl) ?_
              refine q_nil ?_
              rintro _ rfl
              exact loop_end ((k + 1, ov, ol)) (by simp only []; omega) ⟨rfl, rfl, rfl, rfl, rfl, rfl, trivial⟩ ⟨hX, hB1, hNB, hO, ne_hO_g1, dis_hO_hNB, by show k + 1 ≤ ps.length; omega, by show ol.length ≤ k + 1; omega, by rw [← hout, drop_get hp, misL, if_neg hin]; rfl⟩
          · obtain rfl : k = ps.length := by have := nn_f hc74; omega
            rw [List.drop_length] at hout
            change ol ++ [] = _ at hout
            rw [List.append_nil] at hout
            refine wp_exit ?_
            refine then_exit ?_
            refine then_exit ?_
            refine inB_exit_same ?_
            refine then_normal ?_
            refine wp_seq ?_
            refine region_s ?_
            refine q_look (look_move rfl rfl) ?_
            refine q_look (look_assign rfl rfl) ?_
            refine q_nil ?_
            rintro _ rfl
            refine then_normal ?_
            refine wp_ret ?_
            exact res1 Try.results21 rfl ⟨_, rfl, hX, hO.as hout⟩

end Go.Proofs.Ytldgigjapifagaa
