/- The walks of chapter 44 (route), fifth part: Corners. -/
import Derived.Test.YthddekipelbooaaD
namespace Go.Proofs.Ythddekipelbooaa
open Go Go.RowKit Core
set_option linter.unusedVariables false
set_option linter.unusedSimpArgs false
attribute [local irreducible] wpQuiet wpList wpH wpT Code.wp Calls bodyPost act


theorem eqc_comm {a b : Cl} : (.bool !decide (a = b) : Value) = .bool !decide (b = a) := by
  congr 2
  rw [Bool.eq_iff_iff, decide_eq_true_eq, decide_eq_true_eq]
  exact eq_comm

theorem corners_any (path : List Cl) (A : Option Addr) (c : Nat) (w : World) (hA : Sl ccell 3 w A path) (hla : path.length ≤ maxLen) (hl : path.length ≤ 4000000) :
    Calls Try.prog 7 #[.slice A path.length c] w fun e w' => ∃ v, e = .returned v ∧ Ext w w' ∧ Core.Own ccell 26 3 w.heap.size w' v (cornersP path) := by
  refine calls_act Try.func7 rfl Try.ntmps7 rfl rfl ?_
  show Code.wp _ _ _ (act 44 [(0, true, .slice A path.length c)] _) _
  have hX : Ext w w := Ext.rfl' w
  refine wp_seq ?_
  refine region_s ?_
  refine q_look (look_assign rfl rfl) ?_
  refine q_nil ?_
  rintro _ rfl
  refine then_normal ?_
  refine wp_seq ?_
  refine wp_seq ?_
  refine region_s ?_
  refine q_look (look_move rfl rfl) ?_
  refine q_look (look_len_slice Try.underlying22 rfl rfl) ?_
  refine q_look (look_move rfl rfl) ?_
  refine q_nil ?_
  rintro _ rfl
  have hO := Own.nil ccell 35 3 w.heap.size w
  refine then_normal ?_
  refine wp_block ?_
  refine loop_act (fun (ls : Nat × Value × List Cl) => [(0, .slice A path.length c), (2, ls.2.1), (5, .slice A path.length c), (6, .int .i64 (path.length : Int)), (7, .int .i64 (ls.1 : Int))]) (fun ls w' => (Ext w w') ∧ (Core.Own ccell 26 3 w.heap.size w' ls.2.1 ls.2.2) ∧ (ls.1 ≤ path.length) ∧ (ls.2.2.length ≤ ls.1) ∧ (ls.2.2 ++ corL (pv path ls.1) (path.drop ls.1) = cornersP path)) (fun ls => path.length - ls.1) ((0, .slice none 0 0, [])) ?_ ?_ ?_
  · exact ⟨rfl, rfl, rfl, rfl, rfl, trivial⟩
  · exact ⟨hX, Own.nil _ _ _ _ _, Nat.zero_le _, Nat.le_refl _, rfl⟩
  · rintro ⟨k, ov, ol⟩ σ wr hF
    obtain ⟨hX, hO, hk, hol, hf⟩ : (Ext w wr) ∧ (Core.Own ccell 26 3 w.heap.size wr ov ol) ∧ (k ≤ path.length) ∧ (ol.length ≤ k) ∧ (ol ++ corL (pv path k) (path.drop k) = cornersP path) := hF
    show Code.wp _ _ _ (act 44 [(0, true, .slice A path.length c), (2, true, ov), (5, true, .slice A path.length c), (6, true, .int .i64 (path.length : Int)), (7, true, .int .i64 (k : Int))] _) _
    refine wp_seq ?_
    refine region_s ?_
    refine q_look (look_lss rfl rfl rfl rfl) ?_
    refine q_nil ?_
    rintro _ rfl
    refine then_normal ?_
    refine wp_seq ?_
    refine cond_split rfl (fun hc8 => ?_) (fun hc8 => ?_)
    · have hlt : k < path.length := by have := nn_t hc8; omega
      obtain ⟨x, hxx⟩ := get_lt hlt
      obtain ⟨b2, o2, rfl, _⟩ := (hA.ext hX).at_ hlt
      obtain ⟨px, hpx⟩ := prev_ex path k x hk
      obtain ⟨nx, hnx⟩ := next_ex path k x
      refine wp_skip ?_
      refine then_normal ?_
      refine wp_seq ?_
      refine wp_block ?_
      refine wp_seq ?_
      refine wp_region_lit ?_
      refine s_look (look_move rfl rfl) ?_
      refine s_look (look_indexAddr _ Try.underlying22 szTry_26 rfl rfl rfl rfl rfl (by omega)) ?_
      refine s_look (look_loadN Try.underlying26 rfl szTry_26 rfl rfl rfl (cs := ccell x) (eqn ((hA.ext hX).rd k x hxx))) ?_
      refine s_alloc zeTry_26 ?_
      intro g1 u1 hu1 hB1 hg1 hs1
      have ne_hO_g1 : (Value.ownBlock (ov)) ≠ some g1 := hO.ne_new (by omega)
      have ge_g1 : w.heap.size ≤ g1 := by have := hX.size; omega
      replace hX := hX.comp hu1
      replace hO := hO.ext hu1
      refine s_look (look_assign rfl rfl) ?_
      refine s_store szTry_26 rfl (by simp [ccell, gcell, Value.cells, Value.oneCell']) rfl rfl hB1 rfl ?_
      intro u2 hk2 hT2
      replace hT2 : Blk u2 g1 26 (ccell x) := hT2
      replace hX := hX.kp hk2 (by omega)
      replace hO := hO.kp hk2 ne_hO_g1
      clear hB1
      have hB1 := hT2
      refine s_nil ?_
      refine then_normal ?_
      refine wp_seq ?_
      refine region_qd mixed (by kernel_rfl) ?_
      refine q_look (look_move rfl rfl) ?_
      refine q_look (look_eql rfl rfl rfl rfl) ?_
      refine q_look (look_move rfl rfl) ?_
      refine q_lookg rfl rfl rfl (fun hq => look_move rfl rfl) ?_
      refine q_lookg rfl rfl rfl (fun hq => look_move rfl rfl) ?_
      refine q_lookg rfl rfl rfl (fun hq => look_len_slice Try.underlying22 rfl hq) ?_
      refine q_lookg rfl rfl rfl (fun hq => look_sub rfl hq rfl rfl (by have := maxLen_is; unfold I64; omega)) ?_
      refine q_lookg rfl rfl rfl (fun hq => look_eql rfl hq rfl hq) ?_
      refine q_look (look_or rfl rfl rfl rfl) ?_
      refine q_look (look_move rfl rfl) ?_
      refine q_lookg rfl rfl rfl (fun hq => look_move rfl rfl) ?_
      refine q_lookg rfl rfl rfl (fun hq => look_move rfl rfl) ?_
      refine q_lookg rfl rfl rfl (fun hq => look_add rfl hq rfl rfl (by have := maxLen_is; unfold I64; omega)) ?_
      refine q_lookg rfl rfl rfl (fun hq => look_indexAddr (k + 1) Try.underlying22 szTry_26 rfl hq rfl hq (by omega) (g_cor hlt hq).2) ?_
      refine q_lookg rfl rfl rfl (fun hq => look_loadN Try.underlying26 rfl szTry_26 rfl rfl hq (cs := ccell nx) (extn ((hA.ext hX).rd (k + 1) nx (hnx (g_cor hlt hq).2)))) ?_
      refine q_lookg rfl rfl rfl (fun hq => look_loadN Try.underlying26 rfl szTry_26 rfl rfl rfl (ext_cell_n hB1)) ?_
      refine q_callg (vs := [_, _]) rfl rfl rfl enTry_25 (fun hq => ⟨⟨_, rfl, hq⟩, ⟨_, rfl, hq⟩, trivial⟩) (fun hq wc hw => cext hw (less_any nx x wc)) ?_
      refine q_lookg rfl rfl rfl (fun hq => look_loadN Try.underlying26 rfl szTry_26 rfl rfl rfl (ext_cell_n hB1)) ?_
      refine q_lookg rfl rfl rfl (fun hq => look_move rfl rfl) ?_
      refine q_lookg rfl rfl rfl (fun hq => look_move rfl rfl) ?_
      refine q_lookg rfl rfl rfl (fun hq => look_sub rfl hq rfl rfl (by have := maxLen_is; unfold I64; omega)) ?_
      refine q_lookg rfl rfl rfl (fun hq => look_indexAddr (k - 1) Try.underlying22 szTry_26 rfl hq rfl hq (by have := g_cor hlt hq; omega) (by omega)) ?_
      refine q_lookg rfl rfl rfl (fun hq => look_loadN Try.underlying26 rfl szTry_26 rfl rfl hq (cs := ccell px) (extn ((hA.ext hX).rd (k - 1) px (hpx (g_cor hlt hq).1)))) ?_
      refine q_callg (vs := [_, _]) rfl rfl rfl enTry_25 (fun hq => ⟨⟨_, rfl, hq⟩, ⟨_, rfl, hq⟩, trivial⟩) (fun hq wc hw => cext hw (less_any x px wc)) ?_
      refine q_lookg rfl rfl rfl (fun hq => look_neq_flat Try.underlying26 stood35 guard35 rfl hq rfl hq (eqC _ _)) ?_
      refine q_look (look_or rfl rfl rfl rfl) ?_
      refine q_nil ?_
      intro w1 hw1
      replace hX := hX.comp hw1
      replace hB1 := hB1.ext hw1
      replace hO := hO.ext hw1
      refine then_normal ?_
      refine cond_split rfl (fun hc37 => ?_) (fun hc37 => ?_)
      · have hcr : isC path k nx x px = true := hc37
        refine wp_region_lit ?_
        refine s_look (look_move rfl rfl) ?_
        refine s_look (look_loadN Try.underlying26 rfl szTry_26 rfl rfl rfl (eqc_n hB1)) ?_
        refine s_buildSlice (parts := [(0, .tmp 39)]) (vs := [(0, _)]) (cells := ccell x) Try.underlying22 szTry_26 zeTry_26 rfl rfl ⟨⟨_, rfl, rfl⟩, trivial⟩ rfl (by kernel_rfl) ?_
        intro g3 u3 hu3 hB3 hg3 hs3
        have lt_g1_g3 : g1 < g3 := by have := hB1.lt; omega
        have ne_hO_g3 : (Value.ownBlock (ov)) ≠ some g3 := hO.ne_new (by omega)
        have ge_g3 : w.heap.size ≤ g3 := by have := hX.size; omega
        replace hX := hX.comp hu3
        replace hB1 := hB1.ext hu3
        replace hO := hO.ext hu3
        have hsz4 := hX.size
        refine s_appendL (ce := ccell) (news := [x]) Try.underlying22 zsbTry_26 rfl rfl rfl hO rfl (Blk.src (x := x) rfl (by simp [ccell, Value.oneCell']) hB3) (by have := maxLen_is; simp only [List.length_cons, List.length_nil]; omega) (by simp only [List.length_cons, List.length_nil]; omega) (by omega) ?_
        intro v4 u4 hN4 hgr4 hat4
        replace hX := hX.grow hO (Nat.le_refl _) hgr4
        have hn_hB1 := hB1.grown hgr4 ne_hO_g1
        replace ne_hO_g1 := ne_app ne_hO_g1 hB1.lt hat4
        clear hB1
        have hB1 := hn_hB1
        clear hn_hB1
        clear hO
        have hO := hN4
        refine s_look (look_assign rfl rfl) ?_
        refine s_nil ?_
        refine inB_normal ?_
        refine then_normal ?_
        refine region_s ?_
        refine q_look (look_add rfl rfl rfl rfl (by have := maxLen_is; unfold I64; omega)) ?_
        refine q_look (look_move rfl rfl) ?_
        refine q_nil ?_
        rintro _ rfl
        exact loop_end ((k + 1, v4, (ol ++ [x]))) (by simp only []; omega) ⟨rfl, rfl, rfl, rfl, rfl, trivial⟩ ⟨hX, hO, by show k + 1 ≤ path.length; omega, by show (ol ++ [x]).length ≤ k + 1; rw [List.length_append, List.length_singleton]; omega, by rw [← hf, cor_step hxx hpx hnx, if_pos hcr, List.append_assoc]⟩
      · have hcr : isC path k nx x px = false := hc37
        refine wp_skip ?_
        refine inB_normal ?_
        refine then_normal ?_
        refine region_s ?_
        refine q_look (look_add rfl rfl rfl rfl (by have := maxLen_is; unfold I64; omega)) ?_
        refine q_look (look_move rfl rfl) ?_
        refine q_nil ?_
        rintro _ rfl
        exact loop_end ((k + 1, ov, ol)) (by simp only []; omega) ⟨rfl, rfl, rfl, rfl, rfl, trivial⟩ ⟨hX, hO, by show k + 1 ≤ path.length; omega, by show ol.length ≤ k + 1; omega, by rw [← hf, cor_step hxx hpx hnx, if_neg (by rw [hcr]; decide)]; rfl⟩
    · obtain rfl : k = path.length := by have := nn_f hc8; omega
      rw [List.drop_eq_nil_of_le (Nat.le_refl _)] at hf
      have hf2 : ol = cornersP path := by rw [← hf]; unfold corL; simp
      refine wp_exit ?_
      refine then_exit ?_
      refine then_exit ?_
      refine inB_exit_same ?_
      refine then_normal ?_
      refine wp_seq ?_
      refine region_s ?_
      refine q_look (look_move rfl rfl) ?_
      refine q_look (look_assign rfl rfl) ?_
      refine q_nil ?_
      rintro _ rfl
      refine then_normal ?_
      refine wp_ret ?_
      exact res1 Try.results7 rfl ⟨_, rfl, hX, hO.as hf2⟩

end Go.Proofs.Ythddekipelbooaa
