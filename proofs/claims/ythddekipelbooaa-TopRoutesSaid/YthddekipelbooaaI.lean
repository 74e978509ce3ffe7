/- The walks of chapter 44 (route), ninth part: heap.Push, heap.Pop. -/
import Derived.Test.YthddekipelbooaaH
namespace Go.Proofs.Ythddekipelbooaa
open Go Go.RowKit Core
set_option linter.unusedVariables false
set_option linter.unusedSimpArgs false
attribute [local irreducible] wpQuiet wpList wpH wpT Code.wp Calls bodyPost act

theorem hpush_any (n0 q : Nat) (l0 : List It) (x : It) (w : World) (hQ : QS n0 w q l0) (hl0 : l0.length ≤ 1000000) :
    Calls Try.prog 35 #[vH q, .iface 77 (.agg (itcell x).toArray)] w fun e w' => e = .returned (.tuple #[]) ∧ QM q w w' ∧ QS n0 w' q (pushH l0 x) := by
  refine calls_act Try.func35 rfl Try.ntmps35 rfl rfl ?_
  show Code.wp _ _ _ (act 12 [(0, true, vH q), (1, true, .iface 77 (.agg (itcell x).toArray))] _) _
  have hX : QM q w w := QM.rfl' hQ.lt
  refine wp_seq ?_
  refine wp_region_lit ?_
  refine s_look (look_move rfl rfl) ?_
  refine s_look (look_move rfl rfl) ?_
  refine s_invokeQ (vs := [_]) rfl ⟨⟨_, rfl, rfl⟩, trivial⟩ (pushQ hQ (by omega)) ?_
  rintro _ u1 ⟨rfl, hm1, hQ1⟩
  refine ⟨_, rfl, ?_⟩
  replace hX := hX.trans hm1
  clear hQ
  have hQ := hQ1
  refine s_nil ?_
  refine then_normal ?_
  refine wp_region_lit ?_
  refine s_look (look_move rfl rfl) ?_
  refine s_look (look_move rfl rfl) ?_
  refine s_invokeQ (vs := []) rfl trivial (lenQ hQ) ?_
  rintro _ u2 ⟨rfl, hc2⟩
  refine ⟨_, rfl, ?_⟩
  replace hX := hX.comp hc2
  replace hQ := hQ.ext hc2
  refine s_look (Look.as (look_sub rfl rfl rfl rfl (by rw [List.length_append, List.length_singleton]; unfold I64; omega)) (v' := .int .i64 (l0.length : Int)) (by rw [List.length_append, List.length_singleton]; congr 1; omega)) ?_
  refine s_call (vs := [_, _]) enTry_48 ⟨⟨_, rfl, rfl⟩, ⟨_, rfl, rfl⟩, trivial⟩ (up_any n0 q l0.length (l0 ++ [x]) _ hQ (by rw [List.length_append, List.length_singleton]; omega) (by rw [List.length_append, List.length_singleton]; omega)) ?_
  rintro _ u3 ⟨rfl, hm3, hQ3⟩
  refine ⟨_, rfl, ?_⟩
  replace hX := hX.trans hm3
  clear hQ
  have hQ := hQ3
  refine s_nil ?_
  exact resE Try.results35 ⟨rfl, hX, hQ⟩

theorem hpop_any (n0 q : Nat) (l0 : List It) (w : World) (hQ : QS n0 w q l0) (hpos : 0 < l0.length) (hl0 : l0.length ≤ 1000000) :
    Calls Try.prog 37 #[vH q] w fun e w' => e = .returned (.iface 77 (.agg (itcell (popX l0)).toArray)) ∧ QM q w w' ∧ QS n0 w' q (popL l0) := by
  refine calls_act Try.func37 rfl Try.ntmps37 rfl rfl ?_
  show Code.wp _ _ _ (act 15 [(0, true, vH q)] _) _
  have hX : QM q w w := QM.rfl' hQ.lt
  refine wp_seq ?_
  refine region_s ?_
  refine q_look (look_assign rfl rfl) ?_
  refine q_nil ?_
  rintro _ rfl
  refine then_normal ?_
  refine wp_seq ?_
  refine wp_region_lit ?_
  refine s_look (look_move rfl rfl) ?_
  refine s_invokeQ (vs := []) rfl trivial (lenQ hQ) ?_
  rintro _ u1 ⟨rfl, hc1⟩
  refine ⟨_, rfl, ?_⟩
  replace hX := hX.comp hc1
  replace hQ := hQ.ext hc1
  refine s_look (Look.as (look_sub rfl rfl rfl rfl (by unfold I64; omega)) (v' := .int .i64 ((l0.length - 1 : Nat) : Int)) (by congr 1; omega)) ?_
  refine s_look (look_assign rfl rfl) ?_
  refine s_nil ?_
  obtain ⟨x, hx⟩ := get_lt hpos
  obtain ⟨y, hy⟩ := get_lt (show l0.length - 1 < l0.length by omega)
  refine then_normal ?_
  refine wp_seq ?_
  refine wp_region_lit ?_
  refine s_look (look_move rfl rfl) ?_
  refine s_look (look_move rfl rfl) ?_
  refine s_invokeQ (vs := [_, _]) rfl ⟨⟨_, rfl, rfl⟩, ⟨_, rfl, rfl⟩, trivial⟩ (swapQ (i := 0) (j := l0.length - 1) hQ hx hy) ?_
  rintro _ u2 ⟨rfl, hm2, hQ2⟩
  refine ⟨_, rfl, ?_⟩
  replace hX := hX.trans hm2
  clear hQ
  have hQ := hQ2
  rw [swp_eq hx hy] at hQ
  refine s_nil ?_
  refine then_normal ?_
  refine wp_seq ?_
  refine wp_region_lit ?_
  refine s_look (look_move rfl rfl) ?_
  refine s_look (look_move rfl rfl) ?_
  refine s_call (vs := [_, _, _]) enTry_49 ⟨⟨_, rfl, rfl⟩, ⟨_, rfl, rfl⟩, ⟨_, rfl, rfl⟩, trivial⟩ (down_any n0 q 0 (l0.length - 1) (swp l0 0 (l0.length - 1)) _ hQ (by rw [swp_len]; exact hpos) (by rw [swp_len]; omega) (by rw [swp_len]; omega)) ?_
  rintro _ u3 ⟨_, rfl, hm3, hQ3⟩
  refine ⟨_, rfl, ?_⟩
  replace hX := hX.trans hm3
  clear hQ
  have hQ := hQ3
  refine s_nil ?_
  have e1 := popM_eq hpos
  unfold popM at e1
  rw [e1] at hQ
  refine then_normal ?_
  refine wp_seq ?_
  refine wp_region_lit ?_
  refine s_look (look_move rfl rfl) ?_
  refine s_invokeQ (vs := []) rfl trivial (popQ hQ) ?_
  rintro _ u4 ⟨rfl, hm4, hQ4⟩
  refine ⟨_, rfl, ?_⟩
  replace hX := hX.trans hm4
  clear hQ
  have hQ := hQ4
  refine s_look (look_assign rfl rfl) ?_
  refine s_nil ?_
  refine then_normal ?_
  refine wp_ret ?_
  exact res1 Try.results37 rfl ⟨rfl, hX, hQ⟩

end Go.Proofs.Ythddekipelbooaa
