/- The walks of chapter 47 (outfit), seventh part: the reference's order; Order and Starts. -/
import Derived.Test.YtldgigjapifagaaF
namespace Go.Proofs.Ytldgigjapifagaa
open Go Go.RowKit Core
set_option linter.unusedVariables false
set_option linter.unusedSimpArgs false
attribute [local irreducible] wpQuiet wpList wpH wpT Code.wp Calls bodyPost act


theorem ordRun_spec (ps : List Pk) : ∀ (f : Nat) (od od' : List Int), ordRun ps f od = some od' → (∀ k ∈ od, 0 ≤ k ∧ k < (ps.length : Int)) → (∀ k ∈ od', 0 ≤ k ∧ k < (ps.length : Int)) ∧ od'.length = od.length + f
  | 0, od, od', h, hb => by cases h; exact ⟨hb, rfl⟩
  | f + 1, od, od', h, hb => by
    unfold ordRun at h
    split at h
    · cases h
    · rename_i h0
      have hn := next_bd ps od
      obtain ⟨h1, h2⟩ := ordRun_spec ps f _ od' h (fun k hk => by
        rcases List.mem_append.1 hk with e | e
        · exact hb k e
        · rw [List.mem_singleton.1 e]; omega)
      exact ⟨h1, by rw [h2, List.length_append]; simp; omega⟩
theorem oList_bd {ps : List Pk} {k : Int} (h : k ∈ oList ps) : 0 ≤ k ∧ k < (ps.length : Int) := by
  unfold oList at h
  split at h
  · cases h
  · cases hr : ordRun ps ps.length [] with
    | none => rw [hr] at h; cases h
    | some od => rw [hr] at h; exact (ordRun_spec ps _ _ _ hr (fun k hk => by cases hk)).1 k h
theorem oList_len (ps : List Pk) : (oList ps).length ≤ ps.length := by
  unfold oList
  split
  · simp
  · cases hr : ordRun ps ps.length [] with
    | none => simp
    | some od => have := (ordRun_spec ps _ _ _ hr (fun k hk => by cases hk)).2; simp at this; simp; omega
theorem oList_full {ps : List Pk} (h : oErr ps = 0) : (oList ps).length = ps.length := by
  unfold oErr at h
  unfold oList
  split at h
  · cases h
  · rename_i h64
    rw [if_neg h64]
    cases hr : ordRun ps ps.length [] with
    | none => rw [hr] at h; cases h
    | some od => have := (ordRun_spec ps _ _ _ hr (fun k hk => by cases hk)).2; simp at this; simpa using this
theorem oList_err {ps : List Pk} (h : oErr ps ≠ 0) : oList ps = [] := by
  unfold oErr at h
  unfold oList
  split
  · rfl
  · rename_i h64
    rw [if_neg h64] at h
    cases hr : ordRun ps ps.length [] with
    | none => rfl
    | some od => rw [hr] at h; exact absurd rfl h
def ordS (ps : List Pk) : List ByteArray := (oList ps).map fun k => (ps.getD k.toNat pk0).id
def hrAt (ps : List Pk) (k : Int) : Int := hrs (ps.getD k.toNat pk0)
/-- One package in an After: the starts. -/
def stepS (ps : List Pk) (i : Nat) (L : List Int) (x : ByteArray) : List Int :=
  if 0 ≤ findP x ps then L.set i (max (L.getD i 0) (L.getD (findP x ps).toNat 0 + hrAt ps (findP x ps))) else L
def rowS (ps : List Pk) (L : List Int) (i : Int) : List Int := (aft ps i).foldl (stepS ps i.toNat) L
def startsP (ps : List Pk) : List Int := if oErr ps ≠ 0 then [] else (oList ps).foldl (rowS ps) (List.replicate ps.length 0)
theorem getD_of {α : Type} {l : List α} {i : Nat} {x d : α} (h : l[i]? = some x) : l.getD i d = x := by rw [List.getD_eq_getElem?_getD, h]; rfl
theorem map_take_snoc {l : List Int} {j : Nat} {k : Int} (f : Int → ByteArray) (h : l[j]? = some k) : (l.take (j + 1)).map f = (l.take j).map f ++ [f k] := by rw [take_get h]; simp

theorem free_any (h nd pt sm : Value) (pA : Option Addr) (ps : List Pk) (pc : Nat) (ne : Value) (p : Pk) (od : List Int) (tb tcap : Nat) (w : World) (hD : DOk w pA ps) (hp : POk w p) (hT : Sl bocell 1 w (some ⟨tb, 0, none⟩) (ndB ps.length od)) :
    Calls Try.prog 42 #[.agg #[h, nd, pt, sm, .slice pA ps.length pc, ne], .agg (pcell p).toArray, .slice (some ⟨tb, 0, none⟩) ps.length tcap] w fun e w' => e = .returned (.bool (freeP ps od p)) ∧ Ext w w' := by
  refine calls_act Try.func42 rfl Try.ntmps42 rfl rfl ?_
  show Code.wp _ _ _ (act 32 [(0, true, .agg #[h, nd, pt, sm, .slice pA ps.length pc, ne]), (1, true, .agg (pcell p).toArray), (2, true, .slice (some ⟨tb, 0, none⟩) ps.length tcap)] _) _
  have hX : Ext w w := Ext.rfl' w
  obtain ⟨A2, hA2⟩ : ∃ A2, p.A = A2 := ⟨_, rfl⟩
  have hpo1 := hp.1
  rw [hA2] at hpo1
  refine wp_seq ?_
  refine wp_region_lit ?_
  refine s_box rfl ?_
  intro g1 u1 hu1 hB1 hg1 hs1
  replace hB1 : Blk u1 g1 28 ([h, nd, pt, sm, .slice pA ps.length pc, ne]) := hB1
  have ge_g1 : w.heap.size ≤ g1 := by have := hX.size; omega
  replace hX := hX.comp hu1
  refine s_box rfl ?_
  intro g2 u2 hu2 hB2 hg2 hs2
  replace hB2 : Blk u2 g2 48 (pcell p) := hB2
  have lt_g1_g2 : g1 < g2 := by have := hB1.lt; omega
  have ge_g2 : w.heap.size ≤ g2 := by have := hX.size; omega
  replace hX := hX.comp hu2
  replace hB1 := hB1.ext hu2
  refine s_look (look_assign rfl rfl) ?_
  refine s_nil ?_
  refine then_normal ?_
  refine wp_seq ?_
  refine wp_seq ?_
  refine region_s ?_
  refine q_look (look_assign rfl rfl) ?_
  refine q_nil ?_
  rintro _ rfl
  refine then_normal ?_
  refine wp_block ?_
  refine loop_act (fun (j : Nat) => [(2, .slice (some ⟨tb, 0, none⟩) ps.length tcap), (3, .pointer (some ⟨g1, 0, none⟩)), (4, .pointer (some ⟨g2, 0, none⟩)), (7, .int .i64 (j : Int))]) (fun j w' => (Ext w w') ∧ (Blk w' g1 28 [h, nd, pt, sm, .slice pA ps.length pc, ne]) ∧ (Blk w' g2 48 (pcell p)) ∧ (j ≤ p.after.length) ∧ (p.after.any (openP ps od) = (p.after.drop j).any (openP ps od))) (fun j => p.after.length - j) (0) ?_ ?_ ?_
  · exact ⟨rfl, rfl, rfl, rfl, trivial⟩
  · exact ⟨hX, hB1, hB2, Nat.zero_le _, rfl⟩
  · rintro j σ wr hF
    obtain ⟨hX, hB1, hB2, hj, hf⟩ : (Ext w wr) ∧ (Blk wr g1 28 [h, nd, pt, sm, .slice pA ps.length pc, ne]) ∧ (Blk wr g2 48 (pcell p)) ∧ (j ≤ p.after.length) ∧ (p.after.any (openP ps od) = (p.after.drop j).any (openP ps od)) := hF
    show Code.wp _ _ _ (act 32 [(2, true, .slice (some ⟨tb, 0, none⟩) ps.length tcap), (3, true, .pointer (some ⟨g1, 0, none⟩)), (4, true, .pointer (some ⟨g2, 0, none⟩)), (7, true, .int .i64 (j : Int))] _) _
    refine wp_seq ?_
    refine wp_seq ?_
    refine region_s ?_
    refine q_look (look_move rfl rfl) ?_
    refine q_look (look_fieldAddr Try.underlying48 rfl (fun _ _ => rfl) rfl rfl) ?_
    refine q_look (Look.as (look_load1 Try.underlying31 rfl rfl rfl (eqc (hB2.cell rfl))) (v' := .slice A2 p.after.length p.cap) (by rw [hA2])) ?_
    refine q_look (look_len_slice Try.underlying31 rfl rfl) ?_
    refine q_look (look_lss rfl rfl rfl rfl) ?_
    refine q_nil ?_
    rintro _ rfl
    refine then_normal ?_
    refine cond_split rfl (fun hc13 => ?_) (fun hc13 => ?_)
    · have hlj : j < p.after.length := by have := nn_t hc13; omega
      obtain ⟨x, hx⟩ := get_lt hlj
      obtain ⟨b2, o2, rfl, hr2⟩ := (hpo1.ext hX).at_ hlj
      have hfx := findP_bd x ps
      refine wp_skip ?_
      refine then_normal ?_
      refine wp_seq ?_
      refine wp_block ?_
      refine wp_seq ?_
      refine region_qd mixed (by kernel_rfl) ?_
      refine q_look (look_loadN Try.underlying28 rfl szTry_28 rfl rfl rfl (ext_cell_n hB1)) ?_
      refine q_look (look_fieldAddr Try.underlying48 rfl (fun _ _ => rfl) rfl rfl) ?_
      refine q_look (Look.as (look_load1 Try.underlying31 rfl rfl rfl (ext_cell (hB2.cell rfl))) (v' := .slice (some ⟨b2, o2, none⟩) p.after.length p.cap) (by rw [hA2])) ?_
      refine q_look (look_move rfl rfl) ?_
      refine q_look (look_indexAddr _ Try.underlying31 szTry_9 rfl rfl rfl rfl rfl (by omega)) ?_
      refine q_look (look_load1 Try.underlying9 rfl rfl rfl (ext_cell (((hpo1.ext hX).rd j x hx) 0 _ rfl))) ?_
      refine q_call (vs := [_, _]) enTry_33 ⟨⟨_, rfl, rfl⟩, ⟨_, rfl, rfl⟩, trivial⟩ (fun wc hw => cext hw (find_any h nd pt sm pA ps pc ne x wc (hD.ext (hX.comp hw)))) ?_
      refine q_look (look_assign rfl rfl) ?_
      refine q_nil ?_
      intro w1 hw1
      replace hX := hX.comp hw1
      replace hB1 := hB1.ext hw1
      replace hB2 := hB2.ext hw1
      refine then_normal ?_
      refine wp_seq ?_
      refine region_s ?_
      refine q_look (look_move rfl rfl) ?_
      refine q_look (look_geq rfl rfl rfl rfl) ?_
      refine q_look (look_move rfl rfl) ?_
      refine q_lookg rfl rfl rfl (fun hq => look_move rfl rfl) ?_
      refine q_lookg rfl rfl rfl (fun hq => look_move rfl rfl) ?_
      refine q_lookg rfl rfl rfl (fun hq => look_indexAddr (findP x ps).toNat Try.underlying57 szTry_4 rfl hq rfl hq (by have := nn_t (gqR hq); omega) (by have := nn_t (gqR hq); omega)) ?_
      refine q_lookg rfl rfl rfl (fun hq => look_load1 Try.underlying4 rfl rfl hq (eqc (((hT.ext hX).rd (findP x ps).toNat _ (ndB_get (by have := nn_t (gqR hq); omega))) 0 _ rfl))) ?_
      refine q_lookg rfl rfl rfl (fun hq => look_not rfl hq) ?_
      refine q_look (look_and rfl rfl rfl rfl) ?_
      refine q_nil ?_
      rintro _ rfl
      refine then_normal ?_
      refine cond_split rfl (fun hc31 => ?_) (fun hc31 => ?_)
      · have hyes : openP ps od x = true := by
          unfold openP
          rw [Bool.and_eq_true] at hc31 ⊢
          have h1 := nn_t hc31.1
          have h2 := nd_t hc31.2
          rw [show (((findP x ps).toNat : Nat) : Int) = findP x ps by omega] at h2
          exact ⟨decide_eq_true h1, by rw [decide_eq_false h2]; rfl⟩
        refine wp_seq ?_
        refine region_s ?_
        refine q_look (look_assign rfl rfl) ?_
        refine q_nil ?_
        rintro _ rfl
        refine then_normal ?_
        refine wp_ret ?_
        refine inB_ret ?_
        refine then_ret ?_
        refine then_ret ?_
        refine inB_ret ?_
        refine then_ret ?_
        exact res1 Try.results42 rfl ⟨ret_bool (by unfold freeP; rw [hf, drop_get hx, List.any_cons, hyes]; rfl), hX⟩
      · have hno : openP ps od x = false := by
          rw [← Bool.not_eq_true]
          intro hh
          unfold openP at hh
          rw [Bool.and_eq_true] at hh
          have h1 := nn_t hh.1
          have h2 := nd_t hh.2
          rw [decide_eq_true h1, Bool.true_and] at hc31
          have h3 := nd_f hc31
          rw [show (((findP x ps).toNat : Nat) : Int) = findP x ps by omega] at h3
          exact h2 h3
        refine wp_skip ?_
        refine inB_normal ?_
        refine then_normal ?_
        refine region_s ?_
        refine q_look (look_move rfl rfl) ?_
        refine q_look (look_add rfl rfl rfl rfl (by have h8 := hp.2.1; have := maxLen_is; unfold I64; omega)) ?_
        refine q_look (look_assign rfl rfl) ?_
        refine q_nil ?_
        rintro _ rfl
        exact loop_end (j + 1) (by omega) ⟨rfl, rfl, rfl, rfl, trivial⟩ ⟨hX, hB1, hB2, by omega, by rw [hf, drop_get hx, List.any_cons, hno]; rfl⟩
    · have hge : ¬ j < p.after.length := by have := nn_f hc13; omega
      refine wp_exit ?_
      refine then_exit ?_
      refine then_exit ?_
      refine inB_exit_same ?_
      refine then_normal ?_
      refine wp_seq ?_
      refine region_s ?_
      refine q_look (look_assign rfl rfl) ?_
      refine q_nil ?_
      rintro _ rfl
      refine then_normal ?_
      refine wp_ret ?_
      exact res1 Try.results42 rfl ⟨ret_bool (by unfold freeP; rw [hf, List.drop_eq_nil_of_le (by omega)]; rfl), hX⟩

theorem reforder_any (h nd pt sm : Value) (pA : Option Addr) (ps : List Pk) (pc : Nat) (ne : Value) (w : World) (hD : DOk w pA ps) :
    Calls Try.prog 30 #[.agg #[h, nd, pt, sm, .slice pA ps.length pc, ne]] w fun e w' => ∃ v, e = .returned (.tuple #[v, .int .i64 (oErr ps)]) ∧ Ext w w' ∧ Core.Own icell 3 1 w.heap.size w' v (oList ps) := by
  refine calls_act Try.func30 rfl Try.ntmps30 rfl rfl ?_
  show Code.wp _ _ _ (act 59 [(0, true, .agg #[h, nd, pt, sm, .slice pA ps.length pc, ne])] _) _
  have hX : Ext w w := Ext.rfl' w
  refine wp_seq ?_
  refine wp_region_lit ?_
  refine s_box rfl ?_
  intro g1 u1 hu1 hB1 hg1 hs1
  replace hB1 : Blk u1 g1 28 ([h, nd, pt, sm, .slice pA ps.length pc, ne]) := hB1
  have ge_g1 : w.heap.size ≤ g1 := by have := hX.size; omega
  replace hX := hX.comp hu1
  refine s_look (look_assign rfl rfl) ?_
  refine s_look (look_assign rfl rfl) ?_
  refine s_nil ?_
  refine then_normal ?_
  refine wp_seq ?_
  refine wp_seq ?_
  refine region_s ?_
  refine q_look (look_fieldAddr Try.underlying28 rfl (fun _ _ => rfl) rfl rfl) ?_
  refine q_look (look_load1 Try.underlying25 rfl rfl rfl (eqc (hB1.cell rfl))) ?_
  refine q_look (look_len_slice Try.underlying25 rfl rfl) ?_
  refine q_look (look_gtr rfl rfl rfl rfl) ?_
  refine q_nil ?_
  rintro _ rfl
  refine then_normal ?_
  refine cond_split rfl (fun hc11 => ?_) (fun hc11 => ?_)
  · have h64 : 64 < (ps.length : Int) := nn_t hc11
    refine wp_seq ?_
    refine region_s ?_
    refine q_look (look_assign rfl rfl) ?_
    refine q_look (look_assign rfl rfl) ?_
    refine q_nil ?_
    rintro _ rfl
    refine then_normal ?_
    refine wp_ret ?_
    refine then_ret ?_
    exact res2 Try.results30 rfl rfl ⟨_, by rw [(o_long (by omega)).1], hX, (Own.nil _ _ _ _ _).as (o_long (by omega)).2.symm⟩
  · have h64 : ¬ (64 < (ps.length : Int)) := nn_f hc11
    refine wp_skip ?_
    refine then_normal ?_
    refine wp_seq ?_
    refine wp_region_lit ?_
    refine s_look (look_fieldAddr Try.underlying28 rfl (fun _ _ => rfl) rfl rfl) ?_
    refine s_look (look_load1 Try.underlying25 rfl rfl rfl (eqc (hB1.cell rfl))) ?_
    refine s_look (look_len_slice Try.underlying25 rfl rfl) ?_
    refine s_make (ce := bocell) (zx := false) (m := ps.length) Try.underlying57 zsbTry_4 rfl rfl rfl rfl rfl rfl (by omega) hD.len ?_
    intro g2 u2 hu2 hT hg2
    have ge_g2 : w.heap.size ≤ g2 := by have := hX.size; omega
    have lt_g1_g2 : g1 < g2 := by have := hB1.lt; omega
    replace hT := hT.weak hX.size
    replace hX := hX.comp hu2
    replace hB1 := hB1.ext hu2
    have ne_hT_g1 : Value.ownBlock (.slice (some ⟨g2, 0, none⟩) (ps.length) (ps.length)) ≠ some g1 := by simp [Value.ownBlock]; omega
    refine s_look (look_assign rfl rfl) ?_
    refine s_nil ?_
    refine then_normal ?_
    refine wp_seq ?_
    refine region_s ?_
    refine q_look (look_assign rfl rfl) ?_
    refine q_nil ?_
    rintro _ rfl
    rw [ndB_nil] at hT
    have hO := Own.nil icell 3 1 w.heap.size w
    refine then_normal ?_
    refine wp_seq ?_
    refine wp_block ?_
    refine loop_act (fun (ls : List Int × Value) => [(1, .pointer (some ⟨g1, 0, none⟩)), (4, .slice (some ⟨g2, 0, none⟩) ps.length ps.length), (5, ls.2)]) (fun ls w' => (Ext w w') ∧ (Blk w' g1 28 [h, nd, pt, sm, .slice pA ps.length pc, ne]) ∧ (Core.Own bocell 4 1 w.heap.size w' (.slice (some ⟨g2, 0, none⟩) ps.length ps.length) (ndB ps.length ls.1)) ∧ (Core.Own icell 3 1 w.heap.size w' ls.2 ls.1) ∧ (Value.ownBlock ls.2 ≠ some g1) ∧ (Dis ls.2 (.slice (some ⟨g2, 0, none⟩) ps.length ps.length)) ∧ (ls.1.length ≤ ps.length) ∧ (ordRun ps (ps.length - ls.1.length) ls.1 = ordRun ps ps.length [])) (fun ls => ps.length - ls.1.length) (([], .slice none 0 0)) ?_ ?_ ?_
    · exact ⟨rfl, rfl, rfl, trivial⟩
    · exact ⟨hX, hB1, hT, Own.nil _ _ _ _ _, (by simp [Value.ownBlock]), (fun k hk => by cases hk), Nat.zero_le _, rfl⟩
    · rintro ⟨od, ov⟩ σ wr hF
      obtain ⟨hX, hB1, hT, hO, ne_hO_g1, dis_hO_hT, hod, hrun⟩ : (Ext w wr) ∧ (Blk wr g1 28 [h, nd, pt, sm, .slice pA ps.length pc, ne]) ∧ (Core.Own bocell 4 1 w.heap.size wr (.slice (some ⟨g2, 0, none⟩) ps.length ps.length) (ndB ps.length od)) ∧ (Core.Own icell 3 1 w.heap.size wr ov od) ∧ (Value.ownBlock ov ≠ some g1) ∧ (Dis ov (.slice (some ⟨g2, 0, none⟩) ps.length ps.length)) ∧ (od.length ≤ ps.length) ∧ (ordRun ps (ps.length - od.length) od = ordRun ps ps.length []) := hF
      show Code.wp _ _ _ (act 59 [(1, true, .pointer (some ⟨g1, 0, none⟩)), (4, true, .slice (some ⟨g2, 0, none⟩) ps.length ps.length), (5, true, ov)] _) _
      refine wp_seq ?_
      refine wp_seq ?_
      obtain ⟨Ao, co, rfl, _, _, _⟩ := hO.sl hce_i
      refine region_s ?_
      refine q_look (look_move rfl rfl) ?_
      refine q_look (look_len_slice Try.underlying35 rfl rfl) ?_
      refine q_look (look_fieldAddr Try.underlying28 rfl (fun _ _ => rfl) rfl rfl) ?_
      refine q_look (look_load1 Try.underlying25 rfl rfl rfl (eqc (hB1.cell rfl))) ?_
      refine q_look (look_len_slice Try.underlying25 rfl rfl) ?_
      refine q_look (look_lss rfl rfl rfl rfl) ?_
      refine q_nil ?_
      rintro _ rfl
      refine then_normal ?_
      refine cond_split rfl (fun hc21 => ?_) (fun hc21 => ?_)
      · have hlt : (od.length : Int) < (ps.length : Int) := nn_t hc21
        replace hlt : od.length < ps.length := by omega
        refine wp_skip ?_
        refine then_normal ?_
        refine wp_block ?_
        refine wp_seq ?_
        refine region_s ?_
        refine q_look (look_assign rfl rfl) ?_
        refine q_nil ?_
        rintro _ rfl
        refine then_normal ?_
        refine wp_seq ?_
        refine wp_seq ?_
        refine region_s ?_
        refine q_look (look_assign rfl rfl) ?_
        refine q_nil ?_
        rintro _ rfl
        refine then_normal ?_
        refine wp_block ?_
        refine loop_act (fun (ls : Nat × Int) => [(1, .pointer (some ⟨g1, 0, none⟩)), (4, .slice (some ⟨g2, 0, none⟩) ps.length ps.length), (5, .slice Ao od.length co), (6, .int .i64 ls.2), (7, .int .i64 (ls.1 : Int))]) (fun ls w' => (Ext w w') ∧ (Blk w' g1 28 [h, nd, pt, sm, .slice pA ps.length pc, ne]) ∧ (Core.Own bocell 4 1 w.heap.size w' (.slice (some ⟨g2, 0, none⟩) ps.length ps.length) (ndB ps.length od)) ∧ (Core.Own icell 3 1 w.heap.size w' (.slice Ao od.length co) od) ∧ (ls.1 ≤ ps.length) ∧ ((ls.2 = -1 ∧ nxtG ps od (ps.drop ls.1) (ls.1 : Int) = nextI ps od) ∨ (0 ≤ ls.2 ∧ ls.2 = nextI ps od))) (fun ls => ps.length - ls.1) ((0, -1)) ?_ ?_ ?_
        · exact ⟨rfl, rfl, rfl, rfl, rfl, trivial⟩
        · exact ⟨hX, hB1, hT, hO, Nat.zero_le _, .inl ⟨rfl, rfl⟩⟩
        · rintro ⟨i, nx⟩ σ wr hF
          obtain ⟨hX, hB1, hT, hO, hi, hnx⟩ : (Ext w wr) ∧ (Blk wr g1 28 [h, nd, pt, sm, .slice pA ps.length pc, ne]) ∧ (Core.Own bocell 4 1 w.heap.size wr (.slice (some ⟨g2, 0, none⟩) ps.length ps.length) (ndB ps.length od)) ∧ (Core.Own icell 3 1 w.heap.size wr (.slice Ao od.length co) od) ∧ (i ≤ ps.length) ∧ ((nx = -1 ∧ nxtG ps od (ps.drop i) (i : Int) = nextI ps od) ∨ (0 ≤ nx ∧ nx = nextI ps od)) := hF
          show Code.wp _ _ _ (act 59 [(1, true, .pointer (some ⟨g1, 0, none⟩)), (4, true, .slice (some ⟨g2, 0, none⟩) ps.length ps.length), (5, true, .slice Ao od.length co), (6, true, .int .i64 nx), (7, true, .int .i64 (i : Int))] _) _
          refine wp_seq ?_
          refine wp_seq ?_
          refine region_s ?_
          refine q_look (look_move rfl rfl) ?_
          refine q_look (look_fieldAddr Try.underlying28 rfl (fun _ _ => rfl) rfl rfl) ?_
          refine q_look (look_load1 Try.underlying25 rfl rfl rfl (eqc (hB1.cell rfl))) ?_
          refine q_look (look_len_slice Try.underlying25 rfl rfl) ?_
          refine q_look (look_lss rfl rfl rfl rfl) ?_
          refine q_look (look_move rfl rfl) ?_
          refine q_lookg rfl rfl rfl (fun hq => look_move rfl rfl) ?_
          refine q_lookg rfl rfl rfl (fun hq => look_lss rfl hq rfl rfl) ?_
          refine q_look (look_and rfl rfl rfl rfl) ?_
          refine q_nil ?_
          rintro _ rfl
          refine then_normal ?_
          refine cond_split rfl (fun hc30 => ?_) (fun hc30 => ?_)
          · have hli : i < ps.length ∧ nx < 0 := by rw [Bool.and_eq_true] at hc30; have := nn_t hc30.1; have := nn_t hc30.2; omega
            have hnx2 : nx = -1 ∧ nxtG ps od (ps.drop i) (i : Int) = nextI ps od := by rcases hnx with h | h; exact h; omega
            obtain ⟨p, hp⟩ := get_lt hli.1
            obtain ⟨b1, o1, rfl, _⟩ := (hD.sl.ext hX).at_ hli.1
            have hpo := hD.ok p (mem_get hp)
            refine wp_skip ?_
            refine then_normal ?_
            refine wp_seq ?_
            refine wp_block ?_
            refine wp_seq ?_
            refine region_qd mixed (by kernel_rfl) ?_
            refine q_look (look_move rfl rfl) ?_
            refine q_look (look_move rfl rfl) ?_
            refine q_look (look_indexAddr _ Try.underlying57 szTry_4 rfl rfl rfl rfl rfl (by omega)) ?_
            refine q_look (look_load1 Try.underlying4 rfl rfl rfl (ext_cell ((hT.rd hce_bo i _ (ndB_get hli.1)) 0 _ rfl))) ?_
            refine q_look (look_not rfl rfl) ?_
            refine q_look (look_move rfl rfl) ?_
            refine q_lookg rfl rfl rfl (fun hq => look_loadN Try.underlying28 rfl szTry_28 rfl rfl rfl (ext_cell_n hB1)) ?_
            refine q_lookg rfl rfl rfl (fun hq => look_fieldAddr Try.underlying28 rfl (fun _ _ => rfl) rfl rfl) ?_
            refine q_lookg rfl rfl rfl (fun hq => look_load1 Try.underlying25 rfl rfl hq (ext_cell (hB1.cell rfl))) ?_
            refine q_lookg rfl rfl rfl (fun hq => look_move rfl rfl) ?_
            refine q_lookg rfl rfl rfl (fun hq => look_indexAddr _ Try.underlying25 szTry_48 rfl hq rfl hq rfl (by omega)) ?_
            refine q_lookg rfl rfl rfl (fun hq => look_loadN Try.underlying48 rfl szTry_48 rfl rfl hq (cs := pcell p) (extn ((hD.sl.ext hX).rd i p hp))) ?_
            refine q_lookg rfl rfl rfl (fun hq => look_move rfl rfl) ?_
            refine q_callg (vs := [_, _, _]) rfl rfl rfl enTry_42 (fun hq => ⟨⟨_, rfl, hq⟩, ⟨_, rfl, hq⟩, ⟨_, rfl, hq⟩, trivial⟩) (fun hq wc hw => cext hw (free_any h nd pt sm (some ⟨b1, o1, none⟩) ps pc ne p od g2 ps.length wc (hD.ext (hX.comp hw)) (hpo.ext (hX.comp hw)) ((hT.slOf hce_bo).1.ext hw))) ?_
            refine q_look (look_and rfl rfl rfl rfl) ?_
            refine q_nil ?_
            intro w1 hw1
            replace hX := hX.comp hw1
            replace hB1 := hB1.ext hw1
            replace hT := hT.ext hw1
            replace hO := hO.ext hw1
            refine then_normal ?_
            refine cond_split rfl (fun hc47 => ?_) (fun hc47 => ?_)
            · have hq : ¬ (i : Int) ∈ od ∧ freeP ps od p = true := by rw [Bool.and_eq_true] at hc47; exact ⟨nd_t hc47.1, hc47.2⟩
              refine region_s ?_
              refine q_look (look_move rfl rfl) ?_
              refine q_look (look_assign rfl rfl) ?_
              refine q_nil ?_
              rintro _ rfl
              refine inB_normal ?_
              refine then_normal ?_
              refine region_s ?_
              refine q_look (look_move rfl rfl) ?_
              refine q_look (look_add rfl rfl rfl rfl (by have := hD.len; have := maxLen_is; unfold I64; omega)) ?_
              refine q_look (look_assign rfl rfl) ?_
              refine q_nil ?_
              rintro _ rfl
              exact loop_end ((i + 1, (i : Int))) (by simp only []; omega) ⟨rfl, rfl, rfl, rfl, rfl, trivial⟩ ⟨hX, hB1, hT, hO, by show i + 1 ≤ ps.length; omega, .inr ⟨by show (0 : Int) ≤ (i : Int); omega, by rw [← hnx2.2, drop_get hp, nxtG, if_pos hq]⟩⟩
            · have hq : ¬ (¬ (i : Int) ∈ od ∧ freeP ps od p = true) := fun hh => by rw [decide_eq_false hh.1, hh.2] at hc47; cases hc47
              refine wp_skip ?_
              refine inB_normal ?_
              refine then_normal ?_
              refine region_s ?_
              refine q_look (look_move rfl rfl) ?_
              refine q_look (look_add rfl rfl rfl rfl (by have := hD.len; have := maxLen_is; unfold I64; omega)) ?_
              refine q_look (look_assign rfl rfl) ?_
              refine q_nil ?_
              rintro _ rfl
              exact loop_end ((i + 1, nx)) (by simp only []; omega) ⟨rfl, rfl, rfl, rfl, rfl, trivial⟩ ⟨hX, hB1, hT, hO, by show i + 1 ≤ ps.length; omega, .inl ⟨hnx2.1, by rw [← hnx2.2, drop_get hp, nxtG, if_neg hq]; rfl⟩⟩
          · have hge : ¬ (i < ps.length ∧ nx < 0) := fun hh => by rw [← Bool.not_eq_true] at hc30; apply hc30; rw [decide_eq_true (by omega), decide_eq_true hh.2]; rfl
            replace hnx : nx = nextI ps od := by
              rcases hnx with h | h
              · have hi2 : ¬ i < ps.length := fun e => hge ⟨e, by omega⟩
                rw [← h.2, List.drop_eq_nil_of_le (by omega)]; exact h.1
              · exact h.2
            refine wp_exit ?_
            refine then_exit ?_
            refine then_exit ?_
            refine inB_exit_same ?_
            refine then_normal ?_
            refine wp_seq ?_
            refine wp_seq ?_
            refine region_s ?_
            refine q_look (look_move rfl rfl) ?_
            refine q_look (look_lss rfl rfl rfl rfl) ?_
            refine q_nil ?_
            rintro _ rfl
            refine then_normal ?_
            refine cond_split rfl (fun hc50 => ?_) (fun hc50 => ?_)
            · have hn0 : nx < 0 := nn_t hc50
              have hcyc : ordRun ps ps.length [] = none := by rw [← hrun, show ps.length - od.length = (ps.length - (od.length + 1)) + 1 by omega, ordRun, ← hnx, if_pos hn0]
              refine wp_seq ?_
              refine region_s ?_
              refine q_look (look_assign rfl rfl) ?_
              refine q_look (look_assign rfl rfl) ?_
              refine q_nil ?_
              rintro _ rfl
              refine then_normal ?_
              refine wp_ret ?_
              refine then_ret ?_
              refine inB_ret ?_
              refine then_ret ?_
              refine inB_ret ?_
              refine then_ret ?_
              exact res2 Try.results30 rfl rfl ⟨_, by rw [(o_cyc (by omega) hcyc).1], hX, (Own.nil _ _ _ _ _).as (o_cyc (by omega) hcyc).2.symm⟩
            · have hn0 : ¬ (nx < 0) := nn_f hc50
              have hnb := next_bd ps od
              rw [← hnx] at hnb
              have hnj : nx = ((nx.toNat : Nat) : Int) := by omega
              refine wp_skip ?_
              refine then_normal ?_
              refine wp_seq ?_
              refine wp_region_lit ?_
              refine s_look (look_move rfl rfl) ?_
              refine s_look (look_move rfl rfl) ?_
              refine s_look (look_indexAddr nx.toNat Try.underlying57 szTry_4 rfl rfl rfl rfl (by omega) (by omega)) ?_
              refine s_storeRow (ce := bocell) (kv := (fun b : Bool => Value.bool b)) (u := true) (j := nx.toNat) szTry_4 (fun _ => rfl) rfl rfl (by rfl) (by rfl) hT (by omega) (by rw [ndB_len]; omega) ?_
              intro u3 hk3 hT3
              replace hX := hX.kp hk3 (by omega)
              replace hB1 := hB1.kp hk3 (fun e => ne_hT_g1 (by rw [e]; rfl))
              replace hO := hO.kp hk3 (fun e => dis_hO_hT g2 e rfl)
              clear hT
              have hT := hT3
              refine s_nil ?_
              refine then_normal ?_
              refine wp_region_lit ?_
              refine s_look (look_move rfl rfl) ?_
              refine s_look (look_move rfl rfl) ?_
              refine s_buildSlice (parts := [(0, .tmp 55)]) (vs := [(0, _)]) (cells := icell nx) Try.underlying35 szTry_3 zeTry_3 rfl rfl ⟨⟨_, rfl, rfl⟩, trivial⟩ rfl (by kernel_rfl) ?_
              intro g4 u4 hu4 hB4 hg4 hs4
              have lt_g1_g4 : g1 < g4 := by have := hB1.lt; omega
              have ne_hT_g4 : (Value.ownBlock (.slice (some ⟨g2, 0, none⟩) ps.length ps.length)) ≠ some g4 := hT.ne_new (by omega)
              have ne_hO_g4 : (Value.ownBlock (.slice Ao od.length co)) ≠ some g4 := hO.ne_new (by omega)
              have ge_g4 : w.heap.size ≤ g4 := by have := hX.size; omega
              replace hX := hX.comp hu4
              replace hB1 := hB1.ext hu4
              replace hT := hT.ext hu4
              replace hO := hO.ext hu4
              have hsz5 := hX.size
              refine s_appendL (ce := icell) (news := [nx]) Try.underlying35 zsbTry_3 rfl rfl rfl hO rfl (Blk.src (x := nx) rfl (by simp [icell, Value.oneCell']) hB4) (by simp only [List.length_cons, List.length_nil]; rw [maxLen_is]; omega) (by simp only [List.length_cons, List.length_nil]; omega) (by omega) ?_
              intro v5 u5 hN5 hgr5 hat5
              replace hX := hX.grow hO (Nat.le_refl _) hgr5
              have hn_hB1 := hB1.grown hgr5 ne_hO_g1
              replace ne_hO_g1 := ne_app ne_hO_g1 hB1.lt hat5
              clear hB1
              have hB1 := hn_hB1
              clear hn_hB1
              have hn_hT := hT.grown hgr5 (Dis.ne dis_hO_hT)
              replace dis_hO_hT := Dis.app dis_hO_hT (fun k e => (hT.ge e).2) hat5
              clear hT
              have hT := hn_hT
              clear hn_hT
              clear hO
              have hO := hN5
              refine s_look (look_assign rfl rfl) ?_
              refine s_nil ?_
              refine inB_normal ?_
              exact loop_end ((od ++ [nx], v5)) (by show ps.length - (od ++ [nx]).length < ps.length - od.length; rw [List.length_append]; simp; omega) ⟨rfl, rfl, rfl, trivial⟩ ⟨hX, hB1, (by rw [hnj, ← ndB_set (by omega)]; exact hT), hO, ne_hO_g1, dis_hO_hT, by show (od ++ [_]).length ≤ ps.length; rw [List.length_append]; simp; omega, by rw [← hrun]; show ordRun ps (ps.length - (od ++ [nx]).length) _ = _; rw [List.length_append, show ps.length - od.length = (ps.length - (od.length + [nx].length)) + 1 by simp; omega, ordRun, ← hnx, if_neg hn0]⟩
      · have hlt : ¬ ((od.length : Int) < (ps.length : Int)) := nn_f hc21
        have hfull : od.length = ps.length := by omega
        rw [hfull, Nat.sub_self] at hrun
        refine wp_exit ?_
        refine then_exit ?_
        refine then_exit ?_
        refine inB_exit_same ?_
        refine then_normal ?_
        refine wp_seq ?_
        refine region_s ?_
        refine q_look (look_move rfl rfl) ?_
        refine q_look (look_assign rfl rfl) ?_
        refine q_look (look_assign rfl rfl) ?_
        refine q_nil ?_
        rintro _ rfl
        refine then_normal ?_
        refine wp_ret ?_
        exact res2 Try.results30 rfl rfl ⟨_, by rw [(o_ok (by omega) hrun.symm).1], hX, hO.as (o_ok (by omega) hrun.symm).2.symm⟩

end Go.Proofs.Ytldgigjapifagaa
