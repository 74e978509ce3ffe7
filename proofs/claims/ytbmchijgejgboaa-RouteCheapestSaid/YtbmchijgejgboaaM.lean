/- The walks of chapter 44 (route): fill. -/
import Derived.Test.YtbmchijgejgboaaL
namespace Go.Proofs.Ytbmchijgejgboaa
open Go Go.RowKit Core
set_option linter.unusedVariables false
set_option linter.unusedSimpArgs false
attribute [local irreducible] wpQuiet wpList wpH wpT Code.wp Calls bodyPost act


theorem Blk.sub {w : World} {g o : Nat} {t : TypeId} {cs b : List Value} (h : Blk w g t cs) (hb : (cs.drop o).take b.length = b) : ∀ (j : Nat) (v : Value), b[j]? = some v → w.cell? ⟨g, o + j, none⟩ = some v := by
  intro j v hv
  refine h.cell ?_
  have hj := (List.getElem?_eq_some_iff.1 hv).1
  rw [← hb, List.getElem?_take_of_lt hj, List.getElem?_drop] at hv
  exact hv
theorem Mut.kpn {g g' : Nat} {a b c : World} (h : Mut g a b) (k : Kp g' b c) (hg : a.heap.size ≤ g') : Mut g a c :=
  ⟨k.os.trans h.os, k.tape.trans h.tape, k.output.trans h.output, by have := h.size; rw [k.size]; exact this, fun i hi hn => (k.block i (by omega)).trans (h.block i hi hn)⟩
theorem Mut.qm {g n0 q : Nat} {w a b : World} {l : List It} (h : Mut g w a) (k : QM q a b) (hQ : QS n0 a q l) (hn : w.heap.size ≤ n0) : Mut g w b :=
  ⟨k.os.trans h.os, k.tape.trans h.tape, k.output.trans h.output, Nat.le_trans h.size k.size, fun i hi hne => ((k.blk i (Nat.lt_of_lt_of_le hi h.size) (Sep.old hQ (by omega))).1).trans (h.block i hi hne)⟩
theorem cell_map {κ β : Type} [DecidableEq κ] {kv : κ → Value} {vv : β → Value} {w w' : World} {gm : Nat} {m : List (κ × β)} {p : Addr} {v : Value} (hM : MapV kv vv w gm m) (h : Mut gm w w') (hc : w.cell? p = some v) : w'.cell? p = some v := by
  obtain ⟨es, clock, hb, _⟩ := hM
  have hne : p.block ≠ gm := fun e => by unfold World.cell? at hc; rw [e, hb] at hc; cases hc
  exact (World.cell?_of_block (w := w) (h.block _ (cell_lt hc) hne)).trans hc
theorem GOk.mt {κ β : Type} [DecidableEq κ] {kv : κ → Value} {vv : β → Value} {w w' : World} {gm : Nat} {m : List (κ × β)} {g : Gr} (hG : GOk w g) (hM : MapV kv vv w gm m) (h : Mut gm w w') : GOk w' g := by
  refine ⟨?_, hG.len, hG.i⟩
  rcases hG.sl with e | ⟨b, o, h1, h2⟩
  · exact .inl e
  · exact .inr ⟨b, o, h1, fun i x hx j v hv => cell_map hM h (h2 i x hx j v hv)⟩
theorem W18_at {k : Nat} {x : Cl} (h : ways[k]? = some x) : (W18.drop (k * 3)).take 3 = ccell x := by
  rw [W18_eq]
  have hl := (List.getElem?_eq_some_iff.1 h).1
  have hk : k = 0 ∨ k = 1 ∨ k = 2 ∨ k = 3 ∨ k = 4 ∨ k = 5 := by simp [ways] at hl; omega
  rcases hk with e | e | e | e | e | e <;> subst e <;> simp [ways] at h <;> subst h <;> rfl
theorem ways_len : ways.length = 6 := rfl
theorem ways_take {k : Nat} (h : ¬ k < 6) : ways.take k = ways := List.take_of_length_le (by rw [ways_len]; omega)
/-- fill's queue while it is filled. -/
theorem push_next {q : List It} {c : Cl} {f : Cl → Int} {k : Nat} {x : Cl} {l : List It} (hx : ways[k]? = some x) (hl : l = pushAll q c f (ways.take k)) : pushH l ⟨c, x, f x⟩ = pushAll q c f (ways.take (k + 1)) := by
  rw [take_get hx, pushAll_snoc, hl]
theorem vput_len {m : KM} {x : Cl × Cl} {v : Int} (h : vget m x = none) : (vput m x v).length = m.length + 1 := by rw [vput_new h, List.length_append]; rfl
theorem pop_len {l : List It} : (popL l).length = l.length - 1 := by unfold popL; rw [List.length_take, popM_len]; omega


theorem fre_t {g : Gr} {c : Cl} (h : (!inB g c || decide (c ∈ g.bl)) = false) : Fre g c := by
  obtain ⟨h1, h2⟩ := or_f h
  exact ⟨nt_f h1, of_decide_eq_false h2⟩
theorem fre_f {g : Gr} {c : Cl} (h : (!inB g c || decide (c ∈ g.bl)) = true) : ¬ Fre g c := by
  rintro ⟨h1, h2⟩
  rw [h1, decide_eq_false h2] at h; cases h


theorem lb_init {l : List It} {b : Cl} (hl : l = pushAll [] b (fun _ => 0) ways) : ∀ it ∈ l, it.left ≤ 1001 * ((([] : KM).length : Nat) : Int) := fun it hi => by
  rw [hl] at hi
  rcases (pushAll_mem heap_nil).1 hi with e | ⟨u, _, e⟩
  · cases e
  · subst e; exact Int.le_refl _
theorem lb_dead {l : List It} {m : KM} {v : Int} {k : Cl × Cl} (hk : vget m k = none) (hpp : l.Perm (popX l :: popL l)) (h : ∀ it ∈ l, it.left ≤ 1001 * (m.length : Int)) : ∀ it ∈ popL l, it.left ≤ 1001 * ((vput m k v).length : Int) := fun it hi => by
  have := h it (hpp.symm.subset (.tail _ hi))
  rw [vput_len hk]; omega
theorem mb_next {m : KM} {v : Int} {k : Cl × Cl} (hk : vget m k = none) (hv : v ≤ 1001 * (m.length : Int)) (h : ∀ y n, vget m y = some n → n ≤ 1001 * (m.length : Int)) : ∀ y n, vget (vput m k v) y = some n → n ≤ 1001 * ((vput m k v).length : Int) := fun y n hn => by
  rw [vget_put] at hn
  rw [vput_len hk]
  split at hn
  · cases hn; omega
  · have := h y n hn; omega
theorem lb_next {g : Gr} {bend : Int} {b c : Cl} {l l2 : List It} {m : KM} {v : Int} {k : Cl × Cl} (hb : 0 ≤ bend ∧ bend ≤ 1000) (hI : FI g bend b l m) (hk : vget m k = none) (hpp : l.Perm (popX l :: popL l)) (hpos : 0 < l.length) (h : ∀ it ∈ l, it.left ≤ 1001 * (m.length : Int))
    (hl : l2 = pushAll (popL l) c (fun v => (popX l).left + stepP bend v (popX l).by_) ways) : ∀ it ∈ l2, it.left ≤ 1001 * ((vput m k v).length : Int) := fun it hi => by
  rw [hl] at hi
  rcases (pushAll_mem (pop_ok hI.heap hpos).1).1 hi with e | ⟨u, _, e⟩
  · exact lb_dead hk hpp h it e
  · subst e
    have h1 := h _ (hpp.symm.subset (.head _))
    have h2 := stepP_bd hb.1 u (popX l).by_
    rw [vput_len hk]
    show (popX l).left + _ ≤ _
    omega
theorem left_I64 {g : Gr} {bend : Int} {b : Cl} {l : List It} {m : KM} (hb : 0 ≤ bend ∧ bend ≤ 1000) (hI : FI g bend b l m) (hpos : 0 < l.length) (hpp : l.Perm (popX l :: popL l)) (h : ∀ it ∈ l, it.left ≤ 1001 * (m.length : Int)) (hm : m.length ≤ 96768) (x : Cl) : I64 ((popX l).left + stepP bend x (popX l).by_) := by
  have h1 := h _ (hpp.symm.subset (.head _))
  have h2 := stepP_bd hb.1 x (popX l).by_
  have h3 := (hI.sq _ (hpp.symm.subset (.head _))).1.nn hb.1
  unfold I64; omega

set_option maxHeartbeats 4000000 in
theorem fill_any (gf gm : Nat) (g : Gr) (bend : Int) (b : Cl) (w : World) (hF : Blk w gf 55 (fcell g bend gm)) (hb : 0 ≤ bend ∧ bend ≤ 1000) (hM0 : MapV kR vI w gm []) (hne : gf ≠ gm) (hG : GOk w g) (hok : szA g = true ∧ (∀ c ∈ g.bl, inB g c = true) ∧ Asc g.bl) (hfb : Fre g b) :
    Calls Try.prog 35 #[.pointer (some ⟨gf, 0, none⟩), .agg (ccell b).toArray] w fun e w' => e = .returned (.tuple #[]) ∧ Mut gm w w' ∧ ∃ m, MapV kR vI w' gm m ∧ Know g bend b (fun c u => vget m (c, u)) ∧ ∀ y n, vget m y = some n → n ≤ 100000000 := by
  refine calls_act Try.func35 rfl Try.ntmps35 rfl rfl ?_
  show Code.wp _ _ _ (act 100 [(0, true, .pointer (some ⟨gf, 0, none⟩)), (1, true, .agg (ccell b).toArray)] _) _
  have hX : Mut gm w w := Mut.rfl' gm w
  have hM := hM0
  have hs := hok.1
  refine wp_seq ?_
  refine wp_region_lit ?_
  refine s_box rfl ?_
  intro g1 u1 hu1 hB1 hg1 hs1
  replace hB1 : Blk u1 g1 35 (ccell b) := hB1
  have lt_gf_g1 : gf < g1 := by have := hF.lt; omega
  have lt_gm_g1 : gm < g1 := by have := hM.lt; omega
  have ge_g1 : w.heap.size ≤ g1 := by have := hX.size; omega
  replace hX := hX.comp hu1
  replace hF := hF.ext hu1
  replace hM := hM.ext hu1
  refine s_nil ?_
  obtain ⟨n0, hn0⟩ : ∃ n, n = u1.heap.size := ⟨_, rfl⟩
  have hn : w.heap.size ≤ n0 := by have := hX.size; omega
  have ltF : gf < n0 := by have := hF.lt; omega
  have ltM : gm < n0 := by have := hM.lt; omega
  have ltE : g1 < n0 := by have := hB1.lt; omega
  refine then_normal ?_
  refine wp_seq ?_
  refine wp_region_lit ?_
  refine s_buildSlice0 Try.underlying76 szTry_79 ?_
  intro g2 u2 hu2 hB2 hg2 hs2
  have lt_gf_g2 : gf < g2 := by have := hF.lt; omega
  have lt_gm_g2 : gm < g2 := by have := hM.lt; omega
  have lt_g1_g2 : g1 < g2 := by have := hB1.lt; omega
  have ge_g2 : w.heap.size ≤ g2 := by have := hX.size; omega
  replace hX := hX.comp hu2
  replace hF := hF.ext hu2
  replace hM := hM.ext hu2
  replace hB1 := hB1.ext hu2
  refine s_box rfl ?_
  intro g3 u3 hu3 hB3 hg3 hs3
  have lt_gf_g3 : gf < g3 := by have := hF.lt; omega
  have lt_gm_g3 : gm < g3 := by have := hM.lt; omega
  have lt_g1_g3 : g1 < g3 := by have := hB1.lt; omega
  have lt_g2_g3 : g2 < g3 := by have := hB2.lt; omega
  have ge_g3 : w.heap.size ≤ g3 := by have := hX.size; omega
  replace hX := hX.comp hu3
  replace hF := hF.ext hu3
  replace hM := hM.ext hu3
  replace hB1 := hB1.ext hu3
  replace hB2 := hB2.ext hu3
  refine s_look (look_assign rfl rfl) ?_
  refine s_nil ?_
  have hQ : QS n0 _ g3 [] := ⟨_, hB3, Own.lit (l := []) hB2 rfl rfl rfl (by omega) (by decide), by intro e; have := Option.some.inj e; simp only at this; omega, by omega⟩
  obtain ⟨q, hq⟩ : ∃ q, q = g3 := ⟨_, rfl⟩
  rw [← hq] at hQ ⊢
  have spgf : Sep _ q gf := Sep.old hQ ltF
  have spgm : Sep _ q gm := Sep.old hQ ltM
  have spg1 : Sep _ q g1 := Sep.old hQ ltE
  refine then_normal ?_
  refine wp_seq ?_
  refine wp_seq ?_
  refine region_q ?_
  refine q_call (vs := []) enTry_43 trivial (fun wc hw => cext hw (ways_any wc)) ?_
  refine q_look (look_move rfl rfl) ?_
  refine q_nil ?_
  intro w1 hw1
  replace spgf := spgf.ext hw1 hQ.lt
  replace spgm := spgm.ext hw1 hQ.lt
  replace spg1 := spg1.ext hw1 hQ.lt
  replace hQ := hQ.ext hw1
  replace hX := hX.comp hw1
  replace hF := hF.ext hw1
  replace hM := hM.ext hw1
  replace hB1 := hB1.ext hw1
  refine then_normal ?_
  refine wp_block ?_
  refine loop_act (fun (ls : Nat × List It) => [(0, .pointer (some ⟨gf, 0, none⟩)), (3, .pointer (some ⟨g1, 0, none⟩)), (4, .pointer (some ⟨q, 0, none⟩)), (15, .agg W18.toArray), (16, .int .i64 (ls.1 : Int))]) (fun ls w' => (Mut gm w w') ∧ (Blk w' gf 55 (fcell g bend gm)) ∧ (Sep w' q gf) ∧ (Sep w' q gm) ∧ (Sep w' q g1) ∧ (Blk w' g1 35 (ccell b)) ∧ (MapV kR vI w' gm []) ∧ (QS n0 w' q ls.2) ∧ (ls.1 ≤ 6) ∧ (ls.2 = pushAll [] b (fun _ => 0) (ways.take ls.1)) ∧ (ls.2.length = ls.1)) (fun ls => 6 - ls.1) ((0, [])) ?_ ?_ ?_
  · exact ⟨rfl, rfl, rfl, rfl, rfl, trivial⟩
  · exact ⟨hX, hF, spgf, spgm, spg1, hB1, hM, hQ, Nat.zero_le _, rfl, rfl⟩
  · rintro ⟨k, l⟩ σ wr hF
    obtain ⟨hX, hF, spgf, spgm, spg1, hB1, hM, hQ, hk, hl, hll⟩ : (Mut gm w wr) ∧ (Blk wr gf 55 (fcell g bend gm)) ∧ (Sep wr q gf) ∧ (Sep wr q gm) ∧ (Sep wr q g1) ∧ (Blk wr g1 35 (ccell b)) ∧ (MapV kR vI wr gm []) ∧ (QS n0 wr q l) ∧ (k ≤ 6) ∧ (l = pushAll [] b (fun _ => 0) (ways.take k)) ∧ (l.length = k) := hF
    show Code.wp _ _ _ (act 100 [(0, true, .pointer (some ⟨gf, 0, none⟩)), (3, true, .pointer (some ⟨g1, 0, none⟩)), (4, true, .pointer (some ⟨q, 0, none⟩)), (15, true, .agg W18.toArray), (16, true, .int .i64 (k : Int))] _) _
    refine wp_seq ?_
    refine region_s ?_
    refine q_look (look_lss rfl rfl rfl rfl) ?_
    refine q_nil ?_
    rintro _ rfl
    refine then_normal ?_
    refine wp_seq ?_
    refine cond_split rfl (fun hc17 => ?_) (fun hc17 => ?_)
    · have hlt : k < 6 := by have := nn_t hc17; omega
      obtain ⟨x, hxx⟩ := get_lt (show k < ways.length from hlt)
      refine wp_skip ?_
      refine then_normal ?_
      refine wp_seq ?_
      refine wp_block ?_
      refine wp_seq ?_
      refine wp_region_lit ?_
      refine s_look (look_index_arr k Try.underlying67 Try.underlying35 rfl szTry_35 rfl rfl rfl rfl rfl hlt (W18_at hxx)) ?_
      refine s_alloc zeTry_35 ?_
      intro g4 u4 hu4 hB4 hg4 hs4
      have spg4 : Sep _ q g4 := Sep.new hQ (by omega)
      have lt_gf_g4 : gf < g4 := by have := hF.lt; omega
      have lt_gm_g4 : gm < g4 := by have := hM.lt; omega
      have lt_g1_g4 : g1 < g4 := by have := hB1.lt; omega
      have ge_g4 : w.heap.size ≤ g4 := by have := hX.size; omega
      replace spgf := spgf.ext hu4 hQ.lt
      replace spgm := spgm.ext hu4 hQ.lt
      replace spg1 := spg1.ext hu4 hQ.lt
      replace spg4 := spg4.ext hu4 hQ.lt
      replace hQ := hQ.ext hu4
      replace hX := hX.comp hu4
      replace hF := hF.ext hu4
      replace hM := hM.ext hu4
      replace hB1 := hB1.ext hu4
      refine s_store szTry_35 rfl (by simp [ccell, gcell, itcell, rcell, Value.cells, Value.oneCell']) rfl rfl hB4 rfl ?_
      intro u5 hk5 hT5
      replace hT5 : Blk u5 g4 35 (ccell x) := hT5
      replace hX := Mut.kpn hX hk5 ge_g4
      replace hF := hF.kp hk5 (by omega)
      replace hM := hM.kp hk5 (by omega)
      replace hB1 := hB1.kp hk5 (by omega)
      replace hQ := hQ.kp hk5 spg4
      replace spgf := spgf.kp hk5 spg4.1.symm
      replace spgm := spgm.kp hk5 spg4.1.symm
      replace spg1 := spg1.kp hk5 spg4.1.symm
      replace spg4 := spg4.kp hk5 spg4.1.symm
      clear hB4
      have hB4 := hT5
      refine s_nil ?_
      refine then_normal ?_
      refine wp_region_lit ?_
      refine s_look (look_move rfl rfl) ?_
      refine s_look (look_makeIface (by kernel_rfl) rfl rfl) ?_
      refine s_look (look_loadN Try.underlying35 rfl szTry_35 rfl rfl rfl (eqc_n hB1)) ?_
      refine s_look (look_loadN Try.underlying35 rfl szTry_35 rfl rfl rfl (eqc_n hB4)) ?_
      refine s_look (look_build (pl := [(0, 3), (3, 3)]) (parts := [(0, .tmp 21), (1, .tmp 22)]) (vs := [(0, .agg (ccell b).toArray), (1, .agg (ccell x).toArray)]) (cells := rcell b x) Try.underlying58 zeTry_58 (by kernel_rfl) ⟨⟨_, rfl, rfl⟩, ⟨_, rfl, rfl⟩, trivial⟩ rfl (by kernel_rfl)) ?_
      refine s_look (look_build (pl := [(0, 6), (6, 1)]) (parts := [(0, .tmp 23), (1, .const (Go.Value.int Go.IntKind.i64 0))]) (vs := [(0, .agg (rcell b x).toArray), (1, .int .i64 0)]) (cells := itcell ⟨b, x, 0⟩) Try.underlying79 zeTry_79 (by kernel_rfl) ⟨⟨_, rfl, rfl⟩, ⟨_, rfl, rfl⟩, trivial⟩ rfl (by kernel_rfl)) ?_
      refine s_look (look_makeIface (by kernel_rfl) rfl rfl) ?_
      refine s_call (vs := [_, _]) enTry_45 ⟨⟨_, rfl, rfl⟩, ⟨_, rfl, rfl⟩, trivial⟩ (hpush_any n0 q l ⟨b, x, 0⟩ _ hQ (by omega)) ?_
      rintro _ u6 ⟨rfl, hm6, hq6⟩
      refine ⟨_, rfl, ?_⟩
      replace hX := Mut.qm hX hm6 hQ hn
      have tpgf := (hm6.blk _ hF.lt spgf).2
      have tpgm := (hm6.blk _ hM.lt spgm).2
      have tpg1 := (hm6.blk _ hB1.lt spg1).2
      have tpg4 := (hm6.blk _ hB4.lt spg4).2
      replace hF := Blk.qm hF hm6 spgf
      replace hM := MapV.qm hM hm6 spgm
      replace hB1 := Blk.qm hB1 hm6 spg1
      replace hB4 := Blk.qm hB4 hm6 spg4
      clear spgf
      have spgf := tpgf
      clear tpgf
      clear spgm
      have spgm := tpgm
      clear tpgm
      clear spg1
      have spg1 := tpg1
      clear tpg1
      clear spg4
      have spg4 := tpg4
      clear tpg4
      clear hQ
      have hQ := hq6
      refine s_nil ?_
      refine inB_normal ?_
      refine then_normal ?_
      refine region_s ?_
      refine q_look (look_add rfl rfl rfl rfl (by unfold I64; omega)) ?_
      refine q_look (look_move rfl rfl) ?_
      refine q_nil ?_
      rintro _ rfl
      exact loop_end ((k + 1, pushH l ⟨b, x, 0⟩)) (by simp only []; omega) ⟨rfl, rfl, rfl, rfl, rfl, trivial⟩ ⟨hX, hF, spgf, spgm, spg1, hB1, hM, hQ, by show k + 1 ≤ 6; omega, push_next hxx hl, by show (pushH l ⟨b, x, 0⟩).length = k + 1; unfold pushH; rw [upL_len]; simp [hll]⟩
    · have hge : ¬ k < 6 := by have := nn_f hc17; omega
      rw [ways_take hge] at hl
      refine wp_exit ?_
      refine then_exit ?_
      refine then_exit ?_
      refine inB_exit_same ?_
      refine then_normal ?_
      refine wp_block ?_
      refine loop_act (fun (ls : List It × KM) => [(0, .pointer (some ⟨gf, 0, none⟩)), (3, .pointer (some ⟨g1, 0, none⟩)), (4, .pointer (some ⟨q, 0, none⟩))]) (fun ls w' => (Mut gm w w') ∧ (Blk w' gf 55 (fcell g bend gm)) ∧ (Sep w' q gf) ∧ (Sep w' q gm) ∧ (Sep w' q g1) ∧ (Blk w' g1 35 (ccell b)) ∧ (MapV kR vI w' gm ls.2) ∧ (QS n0 w' q ls.1) ∧ (FI g bend b ls.1 ls.2) ∧ (ls.1.length ≤ 6 + 6 * ls.2.length) ∧ (∀ it ∈ ls.1, it.left ≤ 1001 * (ls.2.length : Int)) ∧ (∀ y n, vget ls.2 y = some n → n ≤ 1001 * (ls.2.length : Int))) (fun ls => 7 * (96768 - ls.2.length) + ls.1.length) ((l, [])) ?_ ?_ ?_
      · exact ⟨rfl, rfl, rfl, trivial⟩
      · exact ⟨hX, hF, spgf, spgm, spg1, hB1, hM, hQ, hl ▸ FI.init hfb, by show l.length ≤ 6; omega, lb_init hl, fun y n h => (by cases h)⟩
      · rintro ⟨l, m⟩ σ wr hF
        obtain ⟨hX, hF, spgf, spgm, spg1, hB1, hM, hQ, hI, hle, hlb, hmb⟩ : (Mut gm w wr) ∧ (Blk wr gf 55 (fcell g bend gm)) ∧ (Sep wr q gf) ∧ (Sep wr q gm) ∧ (Sep wr q g1) ∧ (Blk wr g1 35 (ccell b)) ∧ (MapV kR vI wr gm m) ∧ (QS n0 wr q l) ∧ (FI g bend b l m) ∧ (l.length ≤ 6 + 6 * m.length) ∧ (∀ it ∈ l, it.left ≤ 1001 * (m.length : Int)) ∧ (∀ y n, vget m y = some n → n ≤ 1001 * (m.length : Int)) := hF
        show Code.wp _ _ _ (act 100 [(0, true, .pointer (some ⟨gf, 0, none⟩)), (3, true, .pointer (some ⟨g1, 0, none⟩)), (4, true, .pointer (some ⟨q, 0, none⟩))] _) _
        refine wp_seq ?_
        refine wp_seq ?_
        have hml := hI.len hs
        obtain ⟨v0, hBq, hOq, hneq, hgeq⟩ := id hQ
        obtain ⟨A0, cq, rfl, _⟩ := hOq.sl hce_t
        refine region_q ?_
        refine q_look (look_move rfl rfl) ?_
        refine q_look (look_nilCheck rfl rfl) ?_
        refine q_look (look_load1 Try.underlying76 rfl rfl rfl (ext_cell (hBq.cell rfl))) ?_
        refine q_call (vs := [_]) enTry_46 ⟨⟨_, rfl, rfl⟩, trivial⟩ (fun wc hw => cext hw (qlen_any A0 l.length cq wc)) ?_
        refine q_look (look_gtr rfl rfl rfl rfl) ?_
        refine q_nil ?_
        intro w2 hw2
        replace spgf := spgf.ext hw2 hQ.lt
        replace spgm := spgm.ext hw2 hQ.lt
        replace spg1 := spg1.ext hw2 hQ.lt
        replace hQ := hQ.ext hw2
        replace hX := hX.comp hw2
        replace hF := hF.ext hw2
        replace hM := hM.ext hw2
        replace hB1 := hB1.ext hw2
        refine then_normal ?_
        refine cond_split rfl (fun hc32 => ?_) (fun hc32 => ?_)
        · have hpos : 0 < l.length := by have := nn_t hc32; omega
          obtain ⟨_, hpp, _⟩ := pop_ok hI.heap hpos
          obtain ⟨hsx, hfx, hwx⟩ := hI.sq _ (hpp.symm.subset (.head _))
          refine wp_skip ?_
          refine then_normal ?_
          refine wp_block ?_
          refine wp_seq ?_
          refine wp_region_lit ?_
          refine s_look (look_move rfl rfl) ?_
          refine s_look (look_makeIface (by kernel_rfl) rfl rfl) ?_
          refine s_call (vs := [_]) enTry_47 ⟨⟨_, rfl, rfl⟩, trivial⟩ (hpop_any n0 q l _ hQ hpos (by omega)) ?_
          rintro _ u7 ⟨rfl, hm7, hq7⟩
          refine ⟨_, rfl, ?_⟩
          replace hX := Mut.qm hX hm7 hQ hn
          have tpgf := (hm7.blk _ hF.lt spgf).2
          have tpgm := (hm7.blk _ hM.lt spgm).2
          have tpg1 := (hm7.blk _ hB1.lt spg1).2
          replace hF := Blk.qm hF hm7 spgf
          replace hM := MapV.qm hM hm7 spgm
          replace hB1 := Blk.qm hB1 hm7 spg1
          clear spgf
          have spgf := tpgf
          clear tpgf
          clear spgm
          have spgm := tpgm
          clear tpgm
          clear spg1
          have spg1 := tpg1
          clear tpg1
          clear hQ
          have hQ := hq7
          refine s_look (look_typeAssert Try.underlying79 rfl rfl rfl) ?_
          refine s_alloc zeTry_79 ?_
          intro g8 u8 hu8 hB8 hg8 hs8
          have spg8 : Sep _ q g8 := Sep.new hQ (by omega)
          have lt_gf_g8 : gf < g8 := by have := hF.lt; omega
          have lt_gm_g8 : gm < g8 := by have := hM.lt; omega
          have lt_g1_g8 : g1 < g8 := by have := hB1.lt; omega
          have ge_g8 : w.heap.size ≤ g8 := by have := hX.size; omega
          replace spgf := spgf.ext hu8 hQ.lt
          replace spgm := spgm.ext hu8 hQ.lt
          replace spg1 := spg1.ext hu8 hQ.lt
          replace spg8 := spg8.ext hu8 hQ.lt
          replace hQ := hQ.ext hu8
          replace hX := hX.comp hu8
          replace hF := hF.ext hu8
          replace hM := hM.ext hu8
          replace hB1 := hB1.ext hu8
          refine s_store szTry_79 rfl (by simp [ccell, gcell, itcell, rcell, Value.cells, Value.oneCell']) rfl rfl hB8 rfl ?_
          intro u9 hk9 hT9
          replace hT9 : Blk u9 g8 79 (itcell (popX l)) := hT9
          replace hX := Mut.kpn hX hk9 ge_g8
          replace hF := hF.kp hk9 (by omega)
          replace hM := hM.kp hk9 (by omega)
          replace hB1 := hB1.kp hk9 (by omega)
          replace hQ := hQ.kp hk9 spg8
          replace spgf := spgf.kp hk9 spg8.1.symm
          replace spgm := spgm.kp hk9 spg8.1.symm
          replace spg1 := spg1.kp hk9 spg8.1.symm
          replace spg8 := spg8.kp hk9 spg8.1.symm
          clear hB8
          have hB8 := hT9
          refine s_nil ?_
          refine then_normal ?_
          refine wp_seq ?_
          refine wp_seq ?_
          refine region_qd mixed (by kernel_rfl) ?_
          refine q_look (look_move rfl rfl) ?_
          refine q_look (look_nilCheck rfl rfl) ?_
          refine q_look (look_fieldAddr Try.underlying55 rfl (fun _ _ => rfl) rfl rfl) ?_
          refine q_look (look_load1 Try.underlying53 rfl rfl rfl (ext_cell (hF.cell rfl))) ?_
          refine q_look (look_fieldAddr Try.underlying79 rfl (fun _ _ => rfl) rfl rfl) ?_
          refine q_look (look_loadN Try.underlying58 rfl szTry_58 rfl rfl rfl (cs := rcell (popX l).at_ (popX l).by_) (extn (Blk.sub hB8 rfl))) ?_
          refine q_look (look_mapV_ok (a := ((popX l).at_, (popX l).by_)) (vv := vI) (z0 := (0 : Int)) klR Try.underlying53 zvI rfl rfl rfl rfl (fun w' e => hM.ext e)) ?_
          refine q_look (look_move rfl rfl) ?_
          refine q_look (look_extract rfl rfl rfl) ?_
          refine q_look (look_extract rfl rfl rfl) ?_
          refine q_look (look_assign rfl rfl) ?_
          refine q_look (look_assign rfl rfl) ?_
          refine q_nil ?_
          intro w3 hw3
          replace spgf := spgf.ext hw3 hQ.lt
          replace spgm := spgm.ext hw3 hQ.lt
          replace spg1 := spg1.ext hw3 hQ.lt
          replace spg8 := spg8.ext hw3 hQ.lt
          replace hQ := hQ.ext hw3
          replace hX := hX.comp hw3
          replace hF := hF.ext hw3
          replace hM := hM.ext hw3
          replace hB1 := hB1.ext hw3
          replace hB8 := hB8.ext hw3
          refine then_normal ?_
          refine wp_seq ?_
          refine region_s ?_
          refine q_look (look_move rfl rfl) ?_
          refine q_nil ?_
          rintro _ rfl
          refine then_normal ?_
          refine cond_split rfl (fun hc47 => ?_) (fun hc47 => ?_)
          · obtain ⟨kk, hkn⟩ := Option.isSome_iff_exists.1 (show (vget m ((popX l).at_, (popX l).by_)).isSome = true from hc47)
            refine wp_exit ?_
            refine then_exit ?_
            refine inB_exit_same ?_
            exact loop_end ((popL l, m)) (by show 7 * (96768 - m.length) + (popL l).length < 7 * (96768 - m.length) + l.length; rw [pop_len]; omega) ⟨rfl, rfl, rfl, trivial⟩ ⟨hX, hF, spgf, spgm, spg1, hB1, hM, hQ, hI.known hpos hkn, by show (popL l).length ≤ 6 + 6 * m.length; rw [pop_len]; omega, fun it hi => hlb it (hpp.symm.subset (.tail _ hi)), hmb⟩
          · have hkn : vget m ((popX l).at_, (popX l).by_) = none := Option.isSome_eq_false_iff.1 (show (vget m ((popX l).at_, (popX l).by_)).isSome = false from hc47) |> Option.isNone_iff_eq_none.1
            refine wp_skip ?_
            refine then_normal ?_
            refine wp_seq ?_
            refine region_hl (fun W => Blk W gf 55 (fcell g bend gm) ∧ Blk W g8 79 (itcell (popX l))) [8] (tl := [_]) rfl [(0, true), (1, true), (2, true), (3, true), (4, true), (5, true), (6, true), (7, true)] mixed (by kernel_rfl) rfl (by kernel_rfl) (by repeat (first | exact pk_body | refine pk_then ?_ | refine pk_block ?_))  ?_
            intro u10 hR10
            replace spgf := spgf.ext hR10 hQ.lt
            replace spgm := spgm.ext hR10 hQ.lt
            replace spg1 := spg1.ext hR10 hQ.lt
            replace spg8 := spg8.ext hR10 hQ.lt
            replace hQ := hQ.ext hR10
            replace hX := hX.comp hR10
            replace hF := hF.ext hR10
            replace hM := hM.ext hR10
            replace hB1 := hB1.ext hR10
            replace hB8 := hB8.ext hR10
            refine ⟨⟨hF, hB8⟩, ?_⟩
            refine h_look rfl (look_move rfl rfl) ?_
            refine h_look rfl (look_nilCheck rfl rfl) ?_
            refine h_look rfl (look_fieldAddr Try.underlying55 rfl (fun _ _ => rfl) rfl rfl) ?_
            refine h_look rfl (look_load1 Try.underlying53 rfl rfl rfl (fun w' hS => (hS.1).cell rfl)) ?_
            refine h_look rfl (look_fieldAddr Try.underlying79 rfl (fun _ _ => rfl) rfl rfl) ?_
            refine h_look rfl (look_loadN Try.underlying58 rfl szTry_58 rfl rfl rfl (cs := rcell (popX l).at_ (popX l).by_) (fun w' hS => Blk.sub hS.2 rfl)) ?_
            refine h_look rfl (look_fieldAddr Try.underlying79 rfl (fun _ _ => rfl) rfl rfl) ?_
            refine h_look rfl (look_load1 Try.underlying3 rfl rfl rfl (fun w' hS => (hS.2).cell rfl)) ?_
            refine h_nil ?_
            refine then_wpl ?_
            refine s_mapUpdateV (a := ((popX l).at_, (popX l).by_)) (v := (popX l).left) klR Try.underlying53 rfl rfl rfl hM ?_
            intro u11 hk11 hT11
            replace hX := hX.kp hk11 rfl
            replace hF := hF.kp hk11 (hne)
            replace hB1 := hB1.kp hk11 (by omega)
            replace hB8 := hB8.kp hk11 (by omega)
            replace hQ := hQ.kp hk11 spgm
            replace spgf := spgf.kp hk11 spgm.1.symm
            replace spg1 := spg1.kp hk11 spgm.1.symm
            replace spg8 := spg8.kp hk11 spgm.1.symm
            replace spgm := spgm.kp hk11 spgm.1.symm
            clear hM
            have hM := hT11
            refine s_nil ?_
            refine then_normal ?_
            refine wp_seq ?_
            refine wp_region_lit ?_
            refine s_look (look_fieldAddr Try.underlying79 rfl (fun _ _ => rfl) rfl rfl) ?_
            refine s_look (look_fieldAddr Try.underlying58 rfl (fun _ _ => rfl) rfl rfl) ?_
            refine s_look (look_loadN Try.underlying35 rfl szTry_35 rfl rfl rfl (cs := ccell (popX l).at_) (eqn (Blk.sub hB8 rfl))) ?_
            refine s_look (look_fieldAddr Try.underlying79 rfl (fun _ _ => rfl) rfl rfl) ?_
            refine s_look (look_fieldAddr Try.underlying58 rfl (fun _ _ => rfl) rfl rfl) ?_
            refine s_look (look_loadN Try.underlying35 rfl szTry_35 rfl rfl rfl (cs := ccell (popX l).by_) (eqn (Blk.sub hB8 rfl))) ?_
            refine s_call (vs := [_, _]) enTry_33 ⟨⟨_, rfl, rfl⟩, ⟨_, rfl, rfl⟩, trivial⟩ (less_any (popX l).at_ (popX l).by_ _) ?_
            rintro _ u12 ⟨rfl, hc12⟩
            refine ⟨_, rfl, ?_⟩
            replace spgf := spgf.ext hc12 hQ.lt
            replace spgm := spgm.ext hc12 hQ.lt
            replace spg1 := spg1.ext hc12 hQ.lt
            replace spg8 := spg8.ext hc12 hQ.lt
            replace hQ := hQ.ext hc12
            replace hX := hX.comp hc12
            replace hF := hF.ext hc12
            replace hM := hM.ext hc12
            replace hB1 := hB1.ext hc12
            replace hB8 := hB8.ext hc12
            refine s_alloc zeTry_35 ?_
            intro g13 u13 hu13 hB13 hg13 hs13
            have spg13 : Sep _ q g13 := Sep.new hQ (by omega)
            have lt_gf_g13 : gf < g13 := by have := hF.lt; omega
            have lt_gm_g13 : gm < g13 := by have := hM.lt; omega
            have lt_g1_g13 : g1 < g13 := by have := hB1.lt; omega
            have lt_g8_g13 : g8 < g13 := by have := hB8.lt; omega
            have ge_g13 : w.heap.size ≤ g13 := by have := hX.size; omega
            replace spgf := spgf.ext hu13 hQ.lt
            replace spgm := spgm.ext hu13 hQ.lt
            replace spg1 := spg1.ext hu13 hQ.lt
            replace spg8 := spg8.ext hu13 hQ.lt
            replace spg13 := spg13.ext hu13 hQ.lt
            replace hQ := hQ.ext hu13
            replace hX := hX.comp hu13
            replace hF := hF.ext hu13
            replace hM := hM.ext hu13
            replace hB1 := hB1.ext hu13
            replace hB8 := hB8.ext hu13
            refine s_store szTry_35 rfl (by simp [ccell, gcell, itcell, rcell, Value.cells, Value.oneCell']) rfl rfl hB13 rfl ?_
            intro u14 hk14 hT14
            replace hT14 : Blk u14 g13 35 (ccell (subW (popX l).at_ (popX l).by_)) := hT14
            replace hX := Mut.kpn hX hk14 ge_g13
            replace hF := hF.kp hk14 (by omega)
            replace hM := hM.kp hk14 (by omega)
            replace hB1 := hB1.kp hk14 (by omega)
            replace hB8 := hB8.kp hk14 (by omega)
            replace hQ := hQ.kp hk14 spg13
            replace spgf := spgf.kp hk14 spg13.1.symm
            replace spgm := spgm.kp hk14 spg13.1.symm
            replace spg1 := spg1.kp hk14 spg13.1.symm
            replace spg8 := spg8.kp hk14 spg13.1.symm
            replace spg13 := spg13.kp hk14 spg13.1.symm
            clear hB13
            have hB13 := hT14
            refine s_nil ?_
            have hsw : subW (popX l).at_ (popX l).by_ = csub (popX l).at_ (popX l).by_ := subW_way hs hfx.1 hwx
            rw [hsw] at hB13
            obtain ⟨c, hc⟩ : ∃ c, c = csub (popX l).at_ (popX l).by_ := ⟨_, rfl⟩
            rw [← hc] at hB13
            refine then_normal ?_
            refine wp_seq ?_
            refine wp_seq ?_
            refine region_qd mixed (by kernel_rfl) ?_
            refine q_look (look_move rfl rfl) ?_
            refine q_look (look_nilCheck rfl rfl) ?_
            refine q_look (look_fieldAddr Try.underlying55 rfl (fun _ _ => rfl) rfl rfl) ?_
            refine q_look (look_loadN Try.underlying24 rfl szTry_24 rfl rfl rfl (cs := gcell g) (extn (Blk.sub hF rfl))) ?_
            refine q_look (look_loadN Try.underlying35 rfl szTry_35 rfl rfl rfl (ext_cell_n hB13)) ?_
            refine q_call (vs := [_, _]) enTry_27 ⟨⟨_, rfl, rfl⟩, ⟨_, rfl, rfl⟩, trivial⟩ (fun wc hw => cext hw (inside_any g c wc)) ?_
            refine q_look (look_not rfl rfl) ?_
            refine q_look (look_move rfl rfl) ?_
            refine q_lookg rfl rfl rfl (fun hq => look_move rfl rfl) ?_
            refine q_lookg rfl rfl rfl (fun hq => look_nilCheck rfl hq) ?_
            refine q_lookg rfl rfl rfl (fun hq => look_fieldAddr Try.underlying55 rfl (fun _ _ => rfl) rfl hq) ?_
            refine q_lookg rfl rfl rfl (fun hq => look_loadN Try.underlying24 rfl szTry_24 rfl rfl hq (cs := gcell g) (extn (Blk.sub hF rfl))) ?_
            refine q_lookg rfl rfl rfl (fun hq => look_loadN Try.underlying35 rfl szTry_35 rfl rfl rfl (ext_cell_n hB13)) ?_
            refine q_callg (vs := [_, _]) rfl rfl rfl enTry_30 (fun hq => ⟨⟨_, rfl, hq⟩, ⟨_, rfl, hq⟩, trivial⟩) (fun hq wc hw => cext hw (blocked_any g c wc (hG.mt hM0 (hX.comp hw)) hok.2.2)) ?_
            refine q_look (look_or rfl rfl rfl rfl) ?_
            refine q_nil ?_
            intro w4 hw4
            replace spgf := spgf.ext hw4 hQ.lt
            replace spgm := spgm.ext hw4 hQ.lt
            replace spg1 := spg1.ext hw4 hQ.lt
            replace spg8 := spg8.ext hw4 hQ.lt
            replace spg13 := spg13.ext hw4 hQ.lt
            replace hQ := hQ.ext hw4
            replace hX := hX.comp hw4
            replace hF := hF.ext hw4
            replace hM := hM.ext hw4
            replace hB1 := hB1.ext hw4
            replace hB8 := hB8.ext hw4
            replace hB13 := hB13.ext hw4
            refine then_normal ?_
            refine cond_split rfl (fun hc77 => ?_) (fun hc77 => ?_)
            · have hfr : ¬ Fre g (csub (popX l).at_ (popX l).by_) := by rw [← hc]; exact fre_f hc77
              refine wp_exit ?_
              refine then_exit ?_
              refine inB_exit_same ?_
              exact loop_end ((popL l, vput m ((popX l).at_, (popX l).by_) (popX l).left)) (by show 7 * (96768 - (vput m _ _).length) + (popL l).length < 7 * (96768 - m.length) + l.length; rw [pop_len, vput_len hkn]; omega) ⟨rfl, rfl, rfl, trivial⟩ ⟨hX, hF, spgf, spgm, spg1, hB1, hM, hQ, hI.dead hb.1 hpos hkn hfr, by show (popL l).length ≤ 6 + 6 * (vput m _ _).length; rw [pop_len, vput_len hkn]; omega, lb_dead hkn hpp hlb, mb_next hkn (hlb _ (hpp.symm.subset (.head _))) hmb⟩
            · have hfr : Fre g (csub (popX l).at_ (popX l).by_) := by rw [← hc]; exact fre_t hc77
              have hml2 := (hI.next hb.1 hpos hkn hfr).len hs
              rw [vput_len hkn] at hml2
              refine wp_skip ?_
              refine then_normal ?_
              refine wp_seq ?_
              refine region_q ?_
              refine q_call (vs := []) enTry_43 trivial (fun wc hw => cext hw (ways_any wc)) ?_
              refine q_look (look_move rfl rfl) ?_
              refine q_nil ?_
              intro w5 hw5
              replace spgf := spgf.ext hw5 hQ.lt
              replace spgm := spgm.ext hw5 hQ.lt
              replace spg1 := spg1.ext hw5 hQ.lt
              replace spg8 := spg8.ext hw5 hQ.lt
              replace spg13 := spg13.ext hw5 hQ.lt
              replace hQ := hQ.ext hw5
              replace hX := hX.comp hw5
              replace hF := hF.ext hw5
              replace hM := hM.ext hw5
              replace hB1 := hB1.ext hw5
              replace hB8 := hB8.ext hw5
              replace hB13 := hB13.ext hw5
              refine then_normal ?_
              refine wp_block ?_
              refine loop_act (fun (ls : Nat × List It) => [(0, .pointer (some ⟨gf, 0, none⟩)), (3, .pointer (some ⟨g1, 0, none⟩)), (4, .pointer (some ⟨q, 0, none⟩)), (7, .pointer (some ⟨g8, 0, none⟩)), (10, .pointer (some ⟨g13, 0, none⟩)), (78, .agg W18.toArray), (79, .int .i64 (ls.1 : Int))]) (fun ls w' => (Mut gm w w') ∧ (Blk w' gf 55 (fcell g bend gm)) ∧ (Sep w' q gf) ∧ (Sep w' q gm) ∧ (Sep w' q g1) ∧ (Blk w' g1 35 (ccell b)) ∧ (MapV kR vI w' gm (vput m ((popX l).at_, (popX l).by_) (popX l).left)) ∧ (QS n0 w' q ls.2) ∧ (Blk w' g8 79 (itcell (popX l))) ∧ (Sep w' q g8) ∧ (Blk w' g13 35 (ccell c)) ∧ (Sep w' q g13) ∧ (ls.1 ≤ 6) ∧ (ls.2 = pushAll (popL l) (csub (popX l).at_ (popX l).by_) (fun v => (popX l).left + stepP bend v (popX l).by_) (ways.take ls.1)) ∧ (ls.2.length = (popL l).length + ls.1)) (fun ls => 6 - ls.1) ((0, popL l)) ?_ ?_ ?_
              · exact ⟨rfl, rfl, rfl, rfl, rfl, rfl, rfl, trivial⟩
              · exact ⟨hX, hF, spgf, spgm, spg1, hB1, hM, hQ, hB8, spg8, hB13, spg13, Nat.zero_le _, rfl, rfl⟩
              · rintro ⟨k, l2⟩ σ wr hF
                obtain ⟨hX, hF, spgf, spgm, spg1, hB1, hM, hQ, hB8, spg8, hB13, spg13, hk, hl2, hll2⟩ : (Mut gm w wr) ∧ (Blk wr gf 55 (fcell g bend gm)) ∧ (Sep wr q gf) ∧ (Sep wr q gm) ∧ (Sep wr q g1) ∧ (Blk wr g1 35 (ccell b)) ∧ (MapV kR vI wr gm (vput m ((popX l).at_, (popX l).by_) (popX l).left)) ∧ (QS n0 wr q l2) ∧ (Blk wr g8 79 (itcell (popX l))) ∧ (Sep wr q g8) ∧ (Blk wr g13 35 (ccell c)) ∧ (Sep wr q g13) ∧ (k ≤ 6) ∧ (l2 = pushAll (popL l) (csub (popX l).at_ (popX l).by_) (fun v => (popX l).left + stepP bend v (popX l).by_) (ways.take k)) ∧ (l2.length = (popL l).length + k) := hF
                show Code.wp _ _ _ (act 100 [(0, true, .pointer (some ⟨gf, 0, none⟩)), (3, true, .pointer (some ⟨g1, 0, none⟩)), (4, true, .pointer (some ⟨q, 0, none⟩)), (7, true, .pointer (some ⟨g8, 0, none⟩)), (10, true, .pointer (some ⟨g13, 0, none⟩)), (78, true, .agg W18.toArray), (79, true, .int .i64 (k : Int))] _) _
                refine wp_seq ?_
                refine region_s ?_
                refine q_look (look_lss rfl rfl rfl rfl) ?_
                refine q_nil ?_
                rintro _ rfl
                refine then_normal ?_
                refine wp_seq ?_
                refine cond_split rfl (fun hc80 => ?_) (fun hc80 => ?_)
                · have hlt : k < 6 := by have := nn_t hc80; omega
                  obtain ⟨x, hxx⟩ := get_lt (show k < ways.length from hlt)
                  refine wp_skip ?_
                  refine then_normal ?_
                  refine wp_seq ?_
                  refine wp_block ?_
                  refine wp_seq ?_
                  refine wp_region_lit ?_
                  refine s_look (look_index_arr k Try.underlying67 Try.underlying35 rfl szTry_35 rfl rfl rfl rfl rfl hlt (W18_at hxx)) ?_
                  refine s_alloc zeTry_35 ?_
                  intro g15 u15 hu15 hB15 hg15 hs15
                  have spg15 : Sep _ q g15 := Sep.new hQ (by omega)
                  have lt_gf_g15 : gf < g15 := by have := hF.lt; omega
                  have lt_gm_g15 : gm < g15 := by have := hM.lt; omega
                  have lt_g1_g15 : g1 < g15 := by have := hB1.lt; omega
                  have lt_g8_g15 : g8 < g15 := by have := hB8.lt; omega
                  have lt_g13_g15 : g13 < g15 := by have := hB13.lt; omega
                  have ge_g15 : w.heap.size ≤ g15 := by have := hX.size; omega
                  replace spgf := spgf.ext hu15 hQ.lt
                  replace spgm := spgm.ext hu15 hQ.lt
                  replace spg1 := spg1.ext hu15 hQ.lt
                  replace spg8 := spg8.ext hu15 hQ.lt
                  replace spg13 := spg13.ext hu15 hQ.lt
                  replace spg15 := spg15.ext hu15 hQ.lt
                  replace hQ := hQ.ext hu15
                  replace hX := hX.comp hu15
                  replace hF := hF.ext hu15
                  replace hM := hM.ext hu15
                  replace hB1 := hB1.ext hu15
                  replace hB8 := hB8.ext hu15
                  replace hB13 := hB13.ext hu15
                  refine s_store szTry_35 rfl (by simp [ccell, gcell, itcell, rcell, Value.cells, Value.oneCell']) rfl rfl hB15 rfl ?_
                  intro u16 hk16 hT16
                  replace hT16 : Blk u16 g15 35 (ccell x) := hT16
                  replace hX := Mut.kpn hX hk16 ge_g15
                  replace hF := hF.kp hk16 (by omega)
                  replace hM := hM.kp hk16 (by omega)
                  replace hB1 := hB1.kp hk16 (by omega)
                  replace hB8 := hB8.kp hk16 (by omega)
                  replace hB13 := hB13.kp hk16 (by omega)
                  replace hQ := hQ.kp hk16 spg15
                  replace spgf := spgf.kp hk16 spg15.1.symm
                  replace spgm := spgm.kp hk16 spg15.1.symm
                  replace spg1 := spg1.kp hk16 spg15.1.symm
                  replace spg8 := spg8.kp hk16 spg15.1.symm
                  replace spg13 := spg13.kp hk16 spg15.1.symm
                  replace spg15 := spg15.kp hk16 spg15.1.symm
                  clear hB15
                  have hB15 := hT16
                  refine s_nil ?_
                  refine then_normal ?_
                  refine region_hl (fun W => Blk W gf 55 (fcell g bend gm) ∧ Blk W g8 79 (itcell (popX l)) ∧ Blk W g13 35 (ccell c) ∧ Blk W g15 35 (ccell x)) [16] (tl := [_]) rfl [(0, true), (1, true), (2, true), (3, true), (4, true), (5, true), (6, true), (7, true), (8, true), (9, true), (10, true), (11, true), (12, false), (13, true), (14, true), (15, true)] mixed (by kernel_rfl) rfl (by kernel_rfl) (by repeat (first | exact pk_body | refine pk_then ?_ | refine pk_block ?_))  ?_
                  intro u17 hR17
                  replace spgf := spgf.ext hR17 hQ.lt
                  replace spgm := spgm.ext hR17 hQ.lt
                  replace spg1 := spg1.ext hR17 hQ.lt
                  replace spg8 := spg8.ext hR17 hQ.lt
                  replace spg13 := spg13.ext hR17 hQ.lt
                  replace spg15 := spg15.ext hR17 hQ.lt
                  replace hQ := hQ.ext hR17
                  replace hX := hX.comp hR17
                  replace hF := hF.ext hR17
                  replace hM := hM.ext hR17
                  replace hB1 := hB1.ext hR17
                  replace hB8 := hB8.ext hR17
                  replace hB13 := hB13.ext hR17
                  replace hB15 := hB15.ext hR17
                  refine ⟨⟨hF, hB8, hB13, hB15⟩, ?_⟩
                  refine h_look rfl (look_move rfl rfl) ?_
                  refine h_look rfl (look_makeIface (by kernel_rfl) rfl rfl) ?_
                  refine h_look rfl (look_loadN Try.underlying35 rfl szTry_35 rfl rfl rfl (fun w' hS j v hv => by rw [Nat.zero_add]; exact (hS.2.2.1).cell hv)) ?_
                  refine h_look rfl (look_loadN Try.underlying35 rfl szTry_35 rfl rfl rfl (fun w' hS j v hv => by rw [Nat.zero_add]; exact (hS.2.2.2).cell hv)) ?_
                  refine h_look rfl (look_build (pl := [(0, 3), (3, 3)]) (parts := [(0, .tmp 84), (1, .tmp 85)]) (vs := [(0, .agg (ccell c).toArray), (1, .agg (ccell x).toArray)]) (cells := rcell c x) Try.underlying58 zeTry_58 (by kernel_rfl) ⟨⟨_, rfl, rfl⟩, ⟨_, rfl, rfl⟩, trivial⟩ rfl (by kernel_rfl)) ?_
                  refine h_look rfl (look_fieldAddr Try.underlying79 rfl (fun _ _ => rfl) rfl rfl) ?_
                  refine h_look rfl (look_load1 Try.underlying3 rfl rfl rfl (fun w' hS => (hS.2.1).cell rfl)) ?_
                  refine h_look rfl (look_move rfl rfl) ?_
                  refine h_look rfl (look_loadN Try.underlying35 rfl szTry_35 rfl rfl rfl (fun w' hS j v hv => by rw [Nat.zero_add]; exact (hS.2.2.2).cell hv)) ?_
                  refine h_look rfl (look_fieldAddr Try.underlying79 rfl (fun _ _ => rfl) rfl rfl) ?_
                  refine h_look rfl (look_fieldAddr Try.underlying58 rfl (fun _ _ => rfl) rfl rfl) ?_
                  refine h_look rfl (look_loadN Try.underlying35 rfl szTry_35 rfl rfl rfl (cs := ccell (popX l).by_) (fun w' hS => Blk.sub hS.2.1 rfl)) ?_
                  refine h_seq rfl ?_ ⟨hF, hB8, hB13, hB15⟩
                  refine s_call (vs := [_, _, _]) enTry_48 ⟨⟨_, rfl, rfl⟩, ⟨_, rfl, rfl⟩, ⟨_, rfl, rfl⟩, trivial⟩ (step_any gf gm g bend x (popX l).by_ _ hF hb) ?_
                  rintro _ u18 ⟨rfl, hc18⟩
                  refine ⟨_, rfl, ?_⟩
                  replace spgf := spgf.ext hc18 hQ.lt
                  replace spgm := spgm.ext hc18 hQ.lt
                  replace spg1 := spg1.ext hc18 hQ.lt
                  replace spg8 := spg8.ext hc18 hQ.lt
                  replace spg13 := spg13.ext hc18 hQ.lt
                  replace spg15 := spg15.ext hc18 hQ.lt
                  replace hQ := hQ.ext hc18
                  replace hX := hX.comp hc18
                  replace hF := hF.ext hc18
                  replace hM := hM.ext hc18
                  replace hB1 := hB1.ext hc18
                  replace hB8 := hB8.ext hc18
                  replace hB13 := hB13.ext hc18
                  replace hB15 := hB15.ext hc18
                  refine s_nil ?_
                  refine then_normal ?_
                  refine ⟨⟨hF, hB8, hB13, hB15⟩, ?_⟩
                  refine h_look rfl (look_add rfl rfl rfl rfl (left_I64 hb hI hpos hpp hlb hml x)) ?_
                  refine h_look rfl (look_build (pl := [(0, 6), (6, 1)]) (parts := [(0, .tmp 86), (1, .tmp 95)]) (vs := [(0, .agg (rcell c x).toArray), (1, .int .i64 ((popX l).left + stepP bend x (popX l).by_))]) (cells := itcell ⟨c, x, (popX l).left + stepP bend x (popX l).by_⟩) Try.underlying79 zeTry_79 (by kernel_rfl) ⟨⟨_, rfl, rfl⟩, ⟨_, rfl, rfl⟩, trivial⟩ rfl (by kernel_rfl)) ?_
                  refine h_look rfl (look_makeIface (by kernel_rfl) rfl rfl) ?_
                  refine h_nil ?_
                  refine then_wpl ?_
                  refine s_call (vs := [_, _]) enTry_45 ⟨⟨_, rfl, rfl⟩, ⟨_, rfl, rfl⟩, trivial⟩ (hpush_any n0 q l2 ⟨c, x, (popX l).left + stepP bend x (popX l).by_⟩ _ hQ (by rw [hll2, pop_len]; omega)) ?_
                  rintro _ u19 ⟨rfl, hm19, hq19⟩
                  refine ⟨_, rfl, ?_⟩
                  replace hX := Mut.qm hX hm19 hQ hn
                  have tpgf := (hm19.blk _ hF.lt spgf).2
                  have tpgm := (hm19.blk _ hM.lt spgm).2
                  have tpg1 := (hm19.blk _ hB1.lt spg1).2
                  have tpg8 := (hm19.blk _ hB8.lt spg8).2
                  have tpg13 := (hm19.blk _ hB13.lt spg13).2
                  have tpg15 := (hm19.blk _ hB15.lt spg15).2
                  replace hF := Blk.qm hF hm19 spgf
                  replace hM := MapV.qm hM hm19 spgm
                  replace hB1 := Blk.qm hB1 hm19 spg1
                  replace hB8 := Blk.qm hB8 hm19 spg8
                  replace hB13 := Blk.qm hB13 hm19 spg13
                  replace hB15 := Blk.qm hB15 hm19 spg15
                  clear spgf
                  have spgf := tpgf
                  clear tpgf
                  clear spgm
                  have spgm := tpgm
                  clear tpgm
                  clear spg1
                  have spg1 := tpg1
                  clear tpg1
                  clear spg8
                  have spg8 := tpg8
                  clear tpg8
                  clear spg13
                  have spg13 := tpg13
                  clear tpg13
                  clear spg15
                  have spg15 := tpg15
                  clear tpg15
                  clear hQ
                  have hQ := hq19
                  refine s_nil ?_
                  refine inB_normal ?_
                  refine then_normal ?_
                  refine region_s ?_
                  refine q_look (look_add rfl rfl rfl rfl (by unfold I64; omega)) ?_
                  refine q_look (look_move rfl rfl) ?_
                  refine q_nil ?_
                  rintro _ rfl
                  exact loop_end ((k + 1, pushH l2 ⟨c, x, (popX l).left + stepP bend x (popX l).by_⟩)) (by simp only []; omega) ⟨rfl, rfl, rfl, rfl, rfl, rfl, rfl, trivial⟩ ⟨hX, hF, spgf, spgm, spg1, hB1, hM, hQ, hB8, spg8, hB13, spg13, by show k + 1 ≤ 6; omega, by rw [← push_next hxx hl2, hc], by show (pushH l2 _).length = (popL l).length + (k + 1); unfold pushH; rw [upL_len, List.length_append, hll2]; rfl⟩
                · have hge : ¬ k < 6 := by have := nn_f hc80; omega
                  rw [ways_take hge] at hl2
                  obtain rfl : k = 6 := by omega
                  refine wp_exit ?_
                  refine then_exit ?_
                  refine then_exit ?_
                  refine inB_exit_same ?_
                  refine inB_normal ?_
                  exact loop_end ((l2, vput m ((popX l).at_, (popX l).by_) (popX l).left)) (by show 7 * (96768 - (vput m _ _).length) + l2.length < 7 * (96768 - m.length) + l.length; rw [hll2, pop_len, vput_len hkn]; omega) ⟨rfl, rfl, rfl, trivial⟩ ⟨hX, hF, spgf, spgm, spg1, hB1, hM, hQ, by show FI g bend b l2 _; rw [hl2]; exact hI.next hb.1 hpos hkn hfr, by show l2.length ≤ 6 + 6 * (vput m _ _).length; rw [vput_len hkn, hll2, pop_len]; omega, lb_next hb hI hkn hpp hpos hlb hl2, mb_next hkn (hlb _ (hpp.symm.subset (.head _))) hmb⟩
        · have hnil : l = [] := List.eq_nil_of_length_eq_zero (by have := nn_f hc32; omega)
          subst hnil
          refine wp_exit ?_
          refine then_exit ?_
          refine then_exit ?_
          refine inB_exit_same ?_
          exact resE Try.results35 ⟨rfl, hX, m, hM, hI.done, fun y n h => by have := hmb y n h; omega⟩

end Go.Proofs.Ytbmchijgejgboaa
