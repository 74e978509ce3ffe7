/- The walks of chapter 47 (outfit), second part: Ready, sums, Few. -/
import Derived.Test.YtldgigjapifagaaA
namespace Go.Proofs.Ytldgigjapifagaa
open Go Go.RowKit Core
set_option linter.unusedVariables false
set_option linter.unusedSimpArgs false
attribute [local irreducible] wpQuiet wpList wpH wpT Code.wp Calls bodyPost act


def pk0 : Pk := ⟨⟨#[]⟩, ⟨#[]⟩, none, 0, 0, 0, none, [], 0⟩
theorem ready_eq {dn : List ByteArray} {id : ByteArray} {ps : List Pk} {i : Nat} {p : Pk} (hi : findP id ps = (i : Int)) (hp : ps[i]? = some p) (hn : ¬ id ∈ dn) : readyP dn id ps = if (p.after.any fun x => !decide (x ∈ dn)) = true then 28 else 0 := by
  unfold readyP
  have e : ps.getD (findP id ps).toNat ⟨⟨#[]⟩, ⟨#[]⟩, none, 0, 0, 0, none, [], 0⟩ = p := by rw [hi, Int.toNat_natCast, List.getD_eq_getElem?_getD, hp]; rfl
  rw [e, if_neg (by omega), if_neg hn]

theorem ready1_any (x0 : ByteArray) (g : Nat) (dn : List ByteArray) (dA : Option Addr) (dc : Nat) (w : World) (hI : Blk w g 31 [.slice dA dn.length dc]) (hN : Sl scell 1 w dA dn) (hnl : dn.length ≤ maxLen) :
    Calls Try.prog 37 #[.string x0, .pointer (some ⟨g, 0, none⟩)] w fun e w' => e = .returned (.bool (!decide (x0 ∈ dn))) ∧ Ext w w' := by
  refine calls_act Try.func37 rfl Try.ntmps37 rfl rfl ?_
  show Code.wp _ _ _ (act 8 [(0, true, .string x0), (1, true, .pointer (some ⟨g, 0, none⟩))] _) _
  have hX : Ext w w := Ext.rfl' w
  refine wp_seq ?_
  refine region_s ?_
  refine q_look (look_assign rfl rfl) ?_
  refine q_nil ?_
  rintro _ rfl
  refine then_normal ?_
  refine wp_seq ?_
  refine region_q ?_
  refine q_look (look_load1 Try.underlying31 rfl rfl rfl (ext_cell (hI.cell rfl))) ?_
  refine q_look (look_move rfl rfl) ?_
  refine q_call (vs := [_, _]) enTry_35 ⟨⟨_, rfl, rfl⟩, ⟨_, rfl, rfl⟩, trivial⟩ (fun wc hw => cext hw (contains_s dn dA dc x0 wc (hN.ext (hX.comp hw)) hnl)) ?_
  refine q_look (look_not rfl rfl) ?_
  refine q_look (look_assign rfl rfl) ?_
  refine q_nil ?_
  intro w1 hw1
  replace hX := hX.comp hw1
  replace hI := hI.ext hw1
  refine then_normal ?_
  refine wp_ret ?_
  exact res1 Try.results37 rfl ⟨rfl, hX⟩

theorem ready_any (h nd pt sm : Value) (pA : Option Addr) (ps : List Pk) (pc : Nat) (ne : Value) (dn : List ByteArray) (dA : Option Addr) (dc : Nat) (id : ByteArray) (w : World) (hD : DOk w pA ps) (hN : Sl scell 1 w dA dn) (hnl : dn.length ≤ maxLen) :
    Calls Try.prog 18 #[.agg #[h, nd, pt, sm, .slice pA ps.length pc, ne], .slice dA dn.length dc, .string id] w fun e w' => e = .returned (.int .i64 (readyP dn id ps)) ∧ Ext w w' := by
  refine calls_act Try.func18 rfl Try.ntmps18 rfl rfl ?_
  show Code.wp _ _ _ (act 27 [(0, true, .agg #[h, nd, pt, sm, .slice pA ps.length pc, ne]), (1, true, .slice dA dn.length dc), (2, true, .string id)] _) _
  have hX : Ext w w := Ext.rfl' w
  refine wp_seq ?_
  refine wp_region_lit ?_
  refine s_box rfl ?_
  intro g1 u1 hu1 hB1 hg1 hs1
  replace hB1 : Blk u1 g1 28 ([h, nd, pt, sm, .slice pA ps.length pc, ne]) := hB1
  have ge_g1 : w.heap.size ≤ g1 := by have := hX.size; omega
  replace hX := hX.comp hu1
  refine s_box rfl ?_
  intro g2 u2 hu2 hB2 hg2 hs2
  replace hB2 : Blk u2 g2 31 ([.slice dA dn.length dc]) := hB2
  have lt_g1_g2 : g1 < g2 := by have := hB1.lt; omega
  have ge_g2 : w.heap.size ≤ g2 := by have := hX.size; omega
  replace hX := hX.comp hu2
  replace hB1 := hB1.ext hu2
  refine s_look (look_assign rfl rfl) ?_
  refine s_nil ?_
  refine then_normal ?_
  refine wp_seq ?_
  refine region_q ?_
  refine q_look (look_loadN Try.underlying28 rfl szTry_28 rfl rfl rfl (ext_cell_n hB1)) ?_
  refine q_look (look_move rfl rfl) ?_
  refine q_call (vs := [_, _]) enTry_31 ⟨⟨_, rfl, rfl⟩, ⟨_, rfl, rfl⟩, trivial⟩ (fun wc hw => cext hw (index_any h nd pt sm pA ps pc ne id wc (hD.ext (hX.comp hw)))) ?_
  refine q_look (look_assign rfl rfl) ?_
  refine q_nil ?_
  intro w1 hw1
  replace hX := hX.comp hw1
  replace hB1 := hB1.ext hw1
  replace hB2 := hB2.ext hw1
  refine then_normal ?_
  refine wp_seq ?_
  refine wp_block ?_
  refine wp_seq ?_
  refine region_s ?_
  refine q_look (look_move rfl rfl) ?_
  refine q_look (look_lss rfl rfl rfl rfl) ?_
  refine q_look (look_assign rfl rfl) ?_
  refine q_nil ?_
  rintro _ rfl
  refine then_normal ?_
  refine cond_split rfl (fun hc11 => ?_) (fun hc11 => ?_)
  · have h0 : findP id ps < 0 := nn_t hc11
    refine wp_seq ?_
    refine region_s ?_
    refine q_look (look_assign rfl rfl) ?_
    refine q_nil ?_
    rintro _ rfl
    refine then_normal ?_
    refine wp_ret ?_
    refine inB_ret ?_
    refine then_ret ?_
    exact res1 Try.results18 rfl ⟨ret_int (by unfold readyP; rw [if_pos h0]), hX⟩
  · have h0 : ¬ (findP id ps < 0) := nn_f hc11
    refine wp_seq ?_
    refine region_q ?_
    refine q_look (look_load1 Try.underlying31 rfl rfl rfl (ext_cell (hB2.cell rfl))) ?_
    refine q_look (look_move rfl rfl) ?_
    refine q_call (vs := [_, _]) enTry_35 ⟨⟨_, rfl, rfl⟩, ⟨_, rfl, rfl⟩, trivial⟩ (fun wc hw => cext hw (contains_s dn dA dc id wc (hN.ext (hX.comp hw)) hnl)) ?_
    refine q_look (look_assign rfl rfl) ?_
    refine q_nil ?_
    intro w2 hw2
    replace hX := hX.comp hw2
    replace hB1 := hB1.ext hw2
    replace hB2 := hB2.ext hw2
    refine then_normal ?_
    refine cond_split rfl (fun hc14 => ?_) (fun hc14 => ?_)
    · have h1 : id ∈ dn := nn_t hc14
      refine wp_seq ?_
      refine region_s ?_
      refine q_look (look_assign rfl rfl) ?_
      refine q_nil ?_
      rintro _ rfl
      refine then_normal ?_
      refine wp_ret ?_
      refine inB_ret ?_
      refine then_ret ?_
      exact res1 Try.results18 rfl ⟨ret_int (by unfold readyP; rw [if_neg h0, if_pos h1]), hX⟩
    · have h1 : ¬ id ∈ dn := nn_f hc14
      have hfb := findP_bd id ps
      obtain ⟨i, hi⟩ : ∃ i : Nat, findP id ps = (i : Int) := ⟨(findP id ps).toNat, by omega⟩
      have hlt : i < ps.length := by omega
      obtain ⟨p, hp⟩ := get_lt hlt
      obtain ⟨b1, o1, rfl, _⟩ := (hD.sl.ext hX).at_ hlt
      have hpo := hD.ok p (mem_get hp)
      rw [hi]
      refine wp_seq ?_
      refine region_q ?_
      refine q_look (look_fieldAddr Try.underlying28 rfl (fun _ _ => rfl) rfl rfl) ?_
      refine q_look (look_load1 Try.underlying25 rfl rfl rfl (ext_cell (hB1.cell rfl))) ?_
      refine q_look (look_move rfl rfl) ?_
      refine q_look (look_indexAddr _ Try.underlying25 szTry_48 rfl rfl rfl rfl rfl (by omega)) ?_
      refine q_look (look_fieldAddr Try.underlying48 rfl (fun _ _ => rfl) rfl rfl) ?_
      refine q_look (look_load1 Try.underlying31 rfl rfl rfl (ext_cell (((hD.sl.ext hX).rd i p hp) _ _ rfl))) ?_
      refine q_look (look_makeFunc (vs := [_]) ⟨⟨_, rfl, rfl⟩, trivial⟩) ?_
      refine q_call (vs := [_, _]) enTry_36 ⟨⟨_, rfl, rfl⟩, ⟨_, rfl, rfl⟩, trivial⟩ (fun wc hw => cext hw (containsf_s p.after p.A p.cap 37 [.pointer (some ⟨g2, 0, none⟩)] (fun x => !decide (x ∈ dn)) wc (hpo.1.ext (hX.comp hw)) hpo.2.1 enTry_37 (fun W e y hy => ready1_any y g2 dn dA dc W (hB2.ext (hw.comp e)) (hN.ext ((hX.comp hw).comp e)) hnl))) ?_
      refine q_look (look_assign rfl rfl) ?_
      refine q_nil ?_
      intro w3 hw3
      replace hX := hX.comp hw3
      replace hB1 := hB1.ext hw3
      replace hB2 := hB2.ext hw3
      refine then_normal ?_
      refine cond_split rfl (fun hc18 => ?_) (fun hc18 => ?_)
      · have h2 : (p.after.any fun x => !decide (x ∈ dn)) = true := hc18
        refine wp_seq ?_
        refine region_s ?_
        refine q_look (look_assign rfl rfl) ?_
        refine q_nil ?_
        rintro _ rfl
        refine then_normal ?_
        refine wp_ret ?_
        refine inB_ret ?_
        refine then_ret ?_
        exact res1 Try.results18 rfl ⟨ret_int (by rw [ready_eq hi hp h1, if_pos h2]), hX⟩
      · have h2 : ¬ (p.after.any fun x => !decide (x ∈ dn)) = true := by rw [hc18]; decide
        refine wp_skip ?_
        refine inB_normal ?_
        refine then_normal ?_
        refine wp_seq ?_
        refine region_s ?_
        refine q_look (look_assign rfl rfl) ?_
        refine q_nil ?_
        rintro _ rfl
        refine then_normal ?_
        refine wp_ret ?_
        exact res1 Try.results18 rfl ⟨ret_int (by rw [ready_eq hi hp h1, if_neg h2]), hX⟩

theorem refready_any (h nd pt sm : Value) (pA : Option Addr) (ps : List Pk) (pc : Nat) (ne : Value) (dn : List ByteArray) (dA : Option Addr) (dc : Nat) (id : ByteArray) (w : World) (hD : DOk w pA ps) (hN : Sl scell 1 w dA dn) (hnl : dn.length ≤ maxLen) :
    Calls Try.prog 19 #[.agg #[h, nd, pt, sm, .slice pA ps.length pc, ne], .slice dA dn.length dc, .string id] w fun e w' => e = .returned (.int .i64 (readyP dn id ps)) ∧ Ext w w' := by
  refine calls_act Try.func19 rfl Try.ntmps19 rfl rfl ?_
  show Code.wp _ _ _ (act 40 [(0, true, .agg #[h, nd, pt, sm, .slice pA ps.length pc, ne]), (1, true, .slice dA dn.length dc), (2, true, .string id)] _) _
  have hX : Ext w w := Ext.rfl' w
  refine wp_seq ?_
  refine wp_region_lit ?_
  refine s_box rfl ?_
  intro g1 u1 hu1 hB1 hg1 hs1
  replace hB1 : Blk u1 g1 28 ([h, nd, pt, sm, .slice pA ps.length pc, ne]) := hB1
  have ge_g1 : w.heap.size ≤ g1 := by have := hX.size; omega
  replace hX := hX.comp hu1
  refine s_look (look_assign rfl rfl) ?_
  refine s_nil ?_
  refine then_normal ?_
  refine wp_seq ?_
  refine region_q ?_
  refine q_look (look_loadN Try.underlying28 rfl szTry_28 rfl rfl rfl (ext_cell_n hB1)) ?_
  refine q_look (look_move rfl rfl) ?_
  refine q_call (vs := [_, _]) enTry_33 ⟨⟨_, rfl, rfl⟩, ⟨_, rfl, rfl⟩, trivial⟩ (fun wc hw => cext hw (find_any h nd pt sm pA ps pc ne id wc (hD.ext (hX.comp hw)))) ?_
  refine q_look (look_assign rfl rfl) ?_
  refine q_nil ?_
  intro w1 hw1
  replace hX := hX.comp hw1
  replace hB1 := hB1.ext hw1
  refine then_normal ?_
  refine wp_seq ?_
  refine wp_seq ?_
  refine region_s ?_
  refine q_look (look_move rfl rfl) ?_
  refine q_look (look_lss rfl rfl rfl rfl) ?_
  refine q_nil ?_
  rintro _ rfl
  refine then_normal ?_
  refine cond_split rfl (fun hc13 => ?_) (fun hc13 => ?_)
  · have h0 : findP id ps < 0 := nn_t hc13
    refine wp_seq ?_
    refine region_s ?_
    refine q_look (look_assign rfl rfl) ?_
    refine q_nil ?_
    rintro _ rfl
    refine then_normal ?_
    refine wp_ret ?_
    refine then_ret ?_
    exact res1 Try.results19 rfl ⟨ret_int (by unfold readyP; rw [if_pos h0]), hX⟩
  · have h0 : ¬ (findP id ps < 0) := nn_f hc13
    refine wp_skip ?_
    refine then_normal ?_
    refine wp_seq ?_
    refine wp_seq ?_
    refine region_q ?_
    refine q_look (look_move rfl rfl) ?_
    refine q_look (look_move rfl rfl) ?_
    refine q_call (vs := [_, _]) enTry_27 ⟨⟨_, rfl, rfl⟩, ⟨_, rfl, rfl⟩, trivial⟩ (fun wc hw => cext hw (has_any dn dA dc id wc (hN.ext (hX.comp hw)) hnl)) ?_
    refine q_nil ?_
    intro w2 hw2
    replace hX := hX.comp hw2
    replace hB1 := hB1.ext hw2
    refine then_normal ?_
    refine cond_split rfl (fun hc16 => ?_) (fun hc16 => ?_)
    · have h1 : id ∈ dn := nn_t hc16
      refine wp_seq ?_
      refine region_s ?_
      refine q_look (look_assign rfl rfl) ?_
      refine q_nil ?_
      rintro _ rfl
      refine then_normal ?_
      refine wp_ret ?_
      refine then_ret ?_
      exact res1 Try.results19 rfl ⟨ret_int (by unfold readyP; rw [if_neg h0, if_pos h1]), hX⟩
    · have h1 : ¬ id ∈ dn := nn_f hc16
      have hfb := findP_bd id ps
      obtain ⟨i, hi⟩ : ∃ i : Nat, findP id ps = (i : Int) := ⟨(findP id ps).toNat, by omega⟩
      have hlt : i < ps.length := by omega
      obtain ⟨p, hp⟩ := get_lt hlt
      obtain ⟨b1, o1, rfl, _⟩ := (hD.sl.ext hX).at_ hlt
      have hpo := hD.ok p (mem_get hp)
      rw [hi]
      refine wp_skip ?_
      refine then_normal ?_
      refine wp_seq ?_
      refine wp_seq ?_
      refine region_s ?_
      refine q_look (look_assign rfl rfl) ?_
      refine q_nil ?_
      rintro _ rfl
      refine then_normal ?_
      refine wp_block ?_
      refine loop_act (fun (j : Nat) => [(1, .slice dA dn.length dc), (2, .string id), (3, .pointer (some ⟨g1, 0, none⟩)), (7, .int .i64 (i : Int)), (8, .int .i64 (j : Int))]) (fun j w' => (Ext w w') ∧ (Blk w' g1 28 [h, nd, pt, sm, .slice (some ⟨b1, o1, none⟩) ps.length pc, ne]) ∧ (j ≤ p.after.length) ∧ ((p.after.any fun x => !decide (x ∈ dn)) = ((p.after.drop j).any fun x => !decide (x ∈ dn)))) (fun j => p.after.length - j) (0) ?_ ?_ ?_
      · exact ⟨rfl, rfl, rfl, rfl, rfl, trivial⟩
      · exact ⟨hX, hB1, Nat.zero_le _, rfl⟩
      · rintro j σ wr hF
        obtain ⟨hX, hB1, hj, hf⟩ : (Ext w wr) ∧ (Blk wr g1 28 [h, nd, pt, sm, .slice (some ⟨b1, o1, none⟩) ps.length pc, ne]) ∧ (j ≤ p.after.length) ∧ ((p.after.any fun x => !decide (x ∈ dn)) = ((p.after.drop j).any fun x => !decide (x ∈ dn))) := hF
        show Code.wp _ _ _ (act 40 [(1, true, .slice dA dn.length dc), (2, true, .string id), (3, true, .pointer (some ⟨g1, 0, none⟩)), (7, true, .int .i64 (i : Int)), (8, true, .int .i64 (j : Int))] _) _
        refine wp_seq ?_
        refine wp_seq ?_
        refine region_s ?_
        refine q_look (look_move rfl rfl) ?_
        refine q_look (look_fieldAddr Try.underlying28 rfl (fun _ _ => rfl) rfl rfl) ?_
        refine q_look (look_load1 Try.underlying25 rfl rfl rfl (eqc (hB1.cell rfl))) ?_
        refine q_look (look_move rfl rfl) ?_
        refine q_look (look_indexAddr _ Try.underlying25 szTry_48 rfl rfl rfl rfl rfl (by omega)) ?_
        refine q_look (look_fieldAddr Try.underlying48 rfl (fun _ _ => rfl) rfl rfl) ?_
        refine q_look (look_load1 Try.underlying31 rfl rfl rfl (eqc (((hD.sl.ext hX).rd i p hp) _ _ rfl))) ?_
        refine q_look (look_len_slice Try.underlying31 rfl rfl) ?_
        refine q_look (look_lss rfl rfl rfl rfl) ?_
        refine q_nil ?_
        rintro _ rfl
        refine then_normal ?_
        refine cond_split rfl (fun hc25 => ?_) (fun hc25 => ?_)
        · have hlj : j < p.after.length := by have := nn_t hc25; omega
          obtain ⟨x, hx⟩ := get_lt hlj
          obtain ⟨b2, o2, hA2, hr2⟩ := (hpo.1.ext hX).at_ hlj
          refine wp_skip ?_
          refine then_normal ?_
          refine wp_seq ?_
          refine wp_block ?_
          refine wp_seq ?_
          refine region_q ?_
          refine q_look (look_move rfl rfl) ?_
          refine q_look (look_fieldAddr Try.underlying28 rfl (fun _ _ => rfl) rfl rfl) ?_
          refine q_look (look_load1 Try.underlying25 rfl rfl rfl (ext_cell (hB1.cell rfl))) ?_
          refine q_look (look_move rfl rfl) ?_
          refine q_look (look_indexAddr _ Try.underlying25 szTry_48 rfl rfl rfl rfl rfl (by omega)) ?_
          refine q_look (look_fieldAddr Try.underlying48 rfl (fun _ _ => rfl) rfl rfl) ?_
          refine q_look (Look.as (look_load1 Try.underlying31 rfl rfl rfl (ext_cell (((hD.sl.ext hX).rd i p hp) _ _ rfl))) (v' := .slice (some ⟨b2, o2, none⟩) p.after.length p.cap) (by rw [hA2])) ?_
          refine q_look (look_move rfl rfl) ?_
          refine q_look (look_indexAddr _ Try.underlying31 szTry_9 rfl rfl rfl rfl rfl (by omega)) ?_
          refine q_look (look_load1 Try.underlying9 rfl rfl rfl (ext_cell ((hr2 j x hx) 0 _ rfl))) ?_
          refine q_call (vs := [_, _]) enTry_27 ⟨⟨_, rfl, rfl⟩, ⟨_, rfl, rfl⟩, trivial⟩ (fun wc hw => cext hw (has_any dn dA dc x wc (hN.ext (hX.comp hw)) hnl)) ?_
          refine q_look (look_not rfl rfl) ?_
          refine q_nil ?_
          intro w3 hw3
          replace hX := hX.comp hw3
          replace hB1 := hB1.ext hw3
          refine then_normal ?_
          refine cond_split rfl (fun hc39 => ?_) (fun hc39 => ?_)
          · have hq : ¬ (x ∈ dn) := nd_t hc39
            refine wp_seq ?_
            refine region_s ?_
            refine q_look (look_assign rfl rfl) ?_
            refine q_nil ?_
            rintro _ rfl
            refine then_normal ?_
            refine wp_ret ?_
            refine inB_ret ?_
            refine then_ret ?_
            refine then_ret ?_
            refine inB_ret ?_
            refine then_ret ?_
            exact res1 Try.results19 rfl ⟨ret_int (by rw [ready_eq hi hp h1, hf, drop_get hx, if_pos (by simp [hq])]), hX⟩
          · have hq : x ∈ dn := nd_f hc39
            refine wp_skip ?_
            refine inB_normal ?_
            refine then_normal ?_
            refine region_s ?_
            refine q_look (look_move rfl rfl) ?_
            refine q_look (look_add rfl rfl rfl rfl (by have := hD.len; have := hpo.2.1; have := maxLen_is; unfold I64; omega)) ?_
            refine q_look (look_assign rfl rfl) ?_
            refine q_nil ?_
            rintro _ rfl
            exact loop_end (j + 1) (by omega) ⟨rfl, rfl, rfl, rfl, rfl, trivial⟩ ⟨hX, hB1, by omega, by rw [hf, drop_get hx, List.any_cons, decide_eq_true hq]; rfl⟩
        · have hge : ¬ j < p.after.length := by have := nn_f hc25; omega
          refine wp_exit ?_
          refine then_exit ?_
          refine then_exit ?_
          refine inB_exit_same ?_
          refine then_normal ?_
          refine wp_seq ?_
          refine region_s ?_
          refine q_look (look_assign rfl rfl) ?_
          refine q_nil ?_
          rintro _ rfl
          refine then_normal ?_
          refine wp_ret ?_
          exact res1 Try.results19 rfl ⟨ret_int (by rw [ready_eq hi hp h1, hf, List.drop_eq_nil_of_le (by omega), if_neg (by simp)]), hX⟩

theorem sums_any (h nd pt sm : Value) (pA : Option Addr) (ps : List Pk) (pc : Nat) (ne : Value) (dn : List ByteArray) (dA : Option Addr) (dc : Nat) (bk : ByteArray) (w : World) (hD : DOk w pA ps) (hN : Sl scell 1 w dA dn) (hnl : dn.length ≤ maxLen) (hps : ps.length ≤ 1000) :
    Calls Try.prog 38 #[.agg #[h, nd, pt, sm, .slice pA ps.length pc, ne], .slice dA dn.length dc, .string bk] w fun e w' => e = .returned (.tuple #[.int .i64 (allP bk ps), .int .i64 (leftP dn bk ps)]) ∧ Ext w w' := by
  refine calls_act Try.func38 rfl Try.ntmps38 rfl rfl ?_
  show Code.wp _ _ _ (act 37 [(0, true, .agg #[h, nd, pt, sm, .slice pA ps.length pc, ne]), (1, true, .slice dA dn.length dc), (2, true, .string bk)] _) _
  have hX : Ext w w := Ext.rfl' w
  refine wp_seq ?_
  refine wp_region_lit ?_
  refine s_box rfl ?_
  intro g1 u1 hu1 hB1 hg1 hs1
  replace hB1 : Blk u1 g1 28 ([h, nd, pt, sm, .slice pA ps.length pc, ne]) := hB1
  have ge_g1 : w.heap.size ≤ g1 := by have := hX.size; omega
  replace hX := hX.comp hu1
  refine s_look (look_assign rfl rfl) ?_
  refine s_look (look_assign rfl rfl) ?_
  refine s_nil ?_
  refine then_normal ?_
  refine wp_seq ?_
  refine wp_seq ?_
  refine region_s ?_
  refine q_look (look_fieldAddr Try.underlying28 rfl (fun _ _ => rfl) rfl rfl) ?_
  refine q_look (look_load1 Try.underlying25 rfl rfl rfl (eqc (hB1.cell rfl))) ?_
  refine q_look (look_len_slice Try.underlying25 rfl rfl) ?_
  refine q_look (look_move rfl rfl) ?_
  refine q_nil ?_
  rintro _ rfl
  refine then_normal ?_
  refine wp_block ?_
  refine loop_act (fun (ls : Nat × Int × Int) => [(1, .slice dA dn.length dc), (2, .string bk), (3, .pointer (some ⟨g1, 0, none⟩)), (6, .int .i64 ls.2.1), (7, .int .i64 ls.2.2), (13, .int .i64 (ls.1 : Int)), (11, .slice pA ps.length pc), (12, .int .i64 (ps.length : Int))]) (fun ls w' => (Ext w w') ∧ (Blk w' g1 28 [h, nd, pt, sm, .slice pA ps.length pc, ne]) ∧ (ls.1 ≤ ps.length) ∧ (ls.2.1 + allP bk (ps.drop ls.1) = allP bk ps) ∧ (ls.2.2 + leftP dn bk (ps.drop ls.1) = leftP dn bk ps) ∧ (0 ≤ ls.2.1 ∧ ls.2.1 ≤ 10000 * (ls.1 : Int) ∧ 0 ≤ ls.2.2 ∧ ls.2.2 ≤ ls.2.1)) (fun ls => ps.length - ls.1) ((0, 0, 0)) ?_ ?_ ?_
  · exact ⟨rfl, rfl, rfl, rfl, rfl, rfl, rfl, rfl, trivial⟩
  · exact ⟨hX, hB1, Nat.zero_le _, by simp, by simp, by simp⟩
  · rintro ⟨k, a, l⟩ σ wr hF
    obtain ⟨hX, hB1, hk, ha, hl, hbd⟩ : (Ext w wr) ∧ (Blk wr g1 28 [h, nd, pt, sm, .slice pA ps.length pc, ne]) ∧ (k ≤ ps.length) ∧ (a + allP bk (ps.drop k) = allP bk ps) ∧ (l + leftP dn bk (ps.drop k) = leftP dn bk ps) ∧ (0 ≤ a ∧ a ≤ 10000 * (k : Int) ∧ 0 ≤ l ∧ l ≤ a) := hF
    have hbd2 := hbd
    show Code.wp _ _ _ (act 37 [(1, true, .slice dA dn.length dc), (2, true, .string bk), (3, true, .pointer (some ⟨g1, 0, none⟩)), (6, true, .int .i64 a), (7, true, .int .i64 l), (13, true, .int .i64 (k : Int)), (11, true, .slice pA ps.length pc), (12, true, .int .i64 (ps.length : Int))] _) _
    refine wp_seq ?_
    refine region_s ?_
    refine q_look (look_lss rfl rfl rfl rfl) ?_
    refine q_nil ?_
    rintro _ rfl
    refine then_normal ?_
    refine wp_seq ?_
    refine cond_split rfl (fun hc14 => ?_) (fun hc14 => ?_)
    · have hlt : k < ps.length := by have := nn_t hc14; omega
      obtain ⟨p, hx⟩ := get_lt hlt
      obtain ⟨b1, o1, rfl, _⟩ := (hD.sl.ext hX).at_ hlt
      have hhp := hrs_bd p
      refine wp_skip ?_
      refine then_normal ?_
      refine wp_seq ?_
      refine wp_block ?_
      refine wp_seq ?_
      refine wp_region_lit ?_
      refine s_look (look_indexAddr _ Try.underlying25 szTry_48 rfl rfl rfl rfl rfl (by omega)) ?_
      refine s_look (look_loadN Try.underlying48 rfl szTry_48 rfl rfl rfl (cs := pcell p) (eqn ((hD.sl.ext hX).rd k p hx))) ?_
      refine s_alloc zeTry_48 ?_
      intro g2 u2 hu2 hB2 hg2 hs2
      have lt_g1_g2 : g1 < g2 := by have := hB1.lt; omega
      have ge_g2 : w.heap.size ≤ g2 := by have := hX.size; omega
      replace hX := hX.comp hu2
      replace hB1 := hB1.ext hu2
      refine s_store szTry_48 rfl (by simp [pcell, scell, Value.cells, Value.oneCell']) rfl rfl hB2 rfl ?_
      intro u3 hk3 hT3
      replace hT3 : Blk u3 g2 48 (pcell p) := hT3
      replace hX := hX.kp hk3 (by omega)
      replace hB1 := hB1.kp hk3 (by omega)
      clear hB2
      have hB2 := hT3
      refine s_nil ?_
      refine then_normal ?_
      refine wp_seq ?_
      refine wp_seq ?_
      refine region_s ?_
      refine q_look (look_fieldAddr Try.underlying48 rfl (fun _ _ => rfl) rfl rfl) ?_
      refine q_look (look_load1 Try.underlying9 rfl rfl rfl (eqc (hB2.cell rfl))) ?_
      refine q_look (look_move rfl rfl) ?_
      refine q_look (look_neq_str rfl rfl rfl rfl) ?_
      refine q_nil ?_
      rintro _ rfl
      refine then_normal ?_
      refine cond_split rfl (fun hc20 => ?_) (fun hc20 => ?_)
      · have hq : ¬ p.block = bk := nd_t hc20
        refine wp_exit ?_
        refine then_exit ?_
        refine inB_exit_same ?_
        refine then_normal ?_
        refine region_s ?_
        refine q_look (look_add rfl rfl rfl rfl (by have := hD.len; have := maxLen_is; unfold I64; omega)) ?_
        refine q_look (look_move rfl rfl) ?_
        refine q_nil ?_
        rintro _ rfl
        exact loop_end ((k + 1, a, l)) (by simp only []; omega) ⟨rfl, rfl, rfl, rfl, rfl, rfl, rfl, rfl, trivial⟩ ⟨hX, hB1, by show k + 1 ≤ ps.length; omega, by rw [drop_get hx, allP, if_neg hq] at ha; show a + allP bk (ps.drop (k + 1)) = _; omega, by rw [drop_get hx, leftP, if_neg (fun h => hq h.1)] at hl; show l + leftP dn bk (ps.drop (k + 1)) = _; omega, ⟨by show 0 ≤ a; omega, by show a ≤ 10000 * ((k + 1 : Nat) : Int); omega, by show 0 ≤ l; omega, by show l ≤ a; omega⟩⟩
      · have hq : p.block = bk := nd_f hc20
        refine wp_skip ?_
        refine then_normal ?_
        refine wp_seq ?_
        refine region_q ?_
        refine q_look (look_move rfl rfl) ?_
        refine q_look (look_loadN Try.underlying48 rfl szTry_48 rfl rfl rfl (ext_cell_n hB2)) ?_
        refine q_call (vs := [_]) enTry_32 ⟨⟨_, rfl, rfl⟩, trivial⟩ (fun wc hw => cext hw (hours_any p wc)) ?_
        refine q_look (look_add rfl rfl rfl rfl (by have := hD.len; have := maxLen_is; unfold I64; omega)) ?_
        refine q_look (look_assign rfl rfl) ?_
        refine q_nil ?_
        intro w1 hw1
        replace hX := hX.comp hw1
        replace hB1 := hB1.ext hw1
        replace hB2 := hB2.ext hw1
        refine then_normal ?_
        refine wp_seq ?_
        refine region_q ?_
        refine q_look (look_move rfl rfl) ?_
        refine q_look (look_fieldAddr Try.underlying48 rfl (fun _ _ => rfl) rfl rfl) ?_
        refine q_look (look_load1 Try.underlying9 rfl rfl rfl (ext_cell (hB2.cell rfl))) ?_
        refine q_call (vs := [_, _]) enTry_35 ⟨⟨_, rfl, rfl⟩, ⟨_, rfl, rfl⟩, trivial⟩ (fun wc hw => cext hw (contains_s dn dA dc p.id wc (hN.ext (hX.comp hw)) hnl)) ?_
        refine q_look (look_not rfl rfl) ?_
        refine q_nil ?_
        intro w2 hw2
        replace hX := hX.comp hw2
        replace hB1 := hB1.ext hw2
        replace hB2 := hB2.ext hw2
        refine then_normal ?_
        refine cond_split rfl (fun hc29 => ?_) (fun hc29 => ?_)
        · have hc : ¬ p.id ∈ dn := nd_t hc29
          refine region_q ?_
          refine q_look (look_move rfl rfl) ?_
          refine q_look (look_loadN Try.underlying48 rfl szTry_48 rfl rfl rfl (ext_cell_n hB2)) ?_
          refine q_call (vs := [_]) enTry_32 ⟨⟨_, rfl, rfl⟩, trivial⟩ (fun wc hw => cext hw (hours_any p wc)) ?_
          refine q_look (look_add rfl rfl rfl rfl (by have := hD.len; have := maxLen_is; unfold I64; omega)) ?_
          refine q_look (look_assign rfl rfl) ?_
          refine q_nil ?_
          intro w3 hw3
          replace hX := hX.comp hw3
          replace hB1 := hB1.ext hw3
          replace hB2 := hB2.ext hw3
          refine inB_normal ?_
          refine then_normal ?_
          refine region_s ?_
          refine q_look (look_add rfl rfl rfl rfl (by have := hD.len; have := maxLen_is; unfold I64; omega)) ?_
          refine q_look (look_move rfl rfl) ?_
          refine q_nil ?_
          rintro _ rfl
          exact loop_end ((k + 1, a + hrs p, l + hrs p)) (by simp only []; omega) ⟨rfl, rfl, rfl, rfl, rfl, rfl, rfl, rfl, trivial⟩ ⟨hX, hB1, by show k + 1 ≤ ps.length; omega, by rw [drop_get hx, allP, if_pos hq] at ha; show a + hrs p + allP bk (ps.drop (k + 1)) = _; omega, by rw [drop_get hx, leftP, if_pos ⟨hq, hc⟩] at hl; show l + hrs p + leftP dn bk (ps.drop (k + 1)) = _; omega, ⟨by show 0 ≤ a + hrs p; omega, by show a + hrs p ≤ 10000 * ((k + 1 : Nat) : Int); omega, by show 0 ≤ l + hrs p; omega, by show l + hrs p ≤ a + hrs p; omega⟩⟩
        · have hc : p.id ∈ dn := nd_f hc29
          refine wp_skip ?_
          refine inB_normal ?_
          refine then_normal ?_
          refine region_s ?_
          refine q_look (look_add rfl rfl rfl rfl (by have := hD.len; have := maxLen_is; unfold I64; omega)) ?_
          refine q_look (look_move rfl rfl) ?_
          refine q_nil ?_
          rintro _ rfl
          exact loop_end ((k + 1, a + hrs p, l)) (by simp only []; omega) ⟨rfl, rfl, rfl, rfl, rfl, rfl, rfl, rfl, trivial⟩ ⟨hX, hB1, by show k + 1 ≤ ps.length; omega, by rw [drop_get hx, allP, if_pos hq] at ha; show a + hrs p + allP bk (ps.drop (k + 1)) = _; omega, by rw [drop_get hx, leftP, if_neg (fun h => h.2 hc)] at hl; show l + leftP dn bk (ps.drop (k + 1)) = _; omega, ⟨by show 0 ≤ a + hrs p; omega, by show a + hrs p ≤ 10000 * ((k + 1 : Nat) : Int); omega, by show 0 ≤ l; omega, by show l ≤ a + hrs p; omega⟩⟩
    · have hge : k = ps.length := by have := nn_f hc14; omega
      subst hge
      rw [List.drop_length] at ha hl
      simp only [allP, leftP, Int.add_zero] at ha hl
      refine wp_exit ?_
      refine then_exit ?_
      refine then_exit ?_
      refine inB_exit_same ?_
      refine then_normal ?_
      refine wp_seq ?_
      refine region_s ?_
      refine q_look (look_move rfl rfl) ?_
      refine q_look (look_move rfl rfl) ?_
      refine q_look (look_assign rfl rfl) ?_
      refine q_look (look_assign rfl rfl) ?_
      refine q_nil ?_
      rintro _ rfl
      refine then_normal ?_
      refine wp_ret ?_
      exact res2 Try.results38 rfl rfl ⟨by rw [ha, hl], hX⟩

theorem refsums_any (h nd pt sm : Value) (pA : Option Addr) (ps : List Pk) (pc : Nat) (ne : Value) (dn : List ByteArray) (dA : Option Addr) (dc : Nat) (bk : ByteArray) (w : World) (hD : DOk w pA ps) (hN : Sl scell 1 w dA dn) (hnl : dn.length ≤ maxLen) (hps : ps.length ≤ 1000) :
    Calls Try.prog 39 #[.agg #[h, nd, pt, sm, .slice pA ps.length pc, ne], .slice dA dn.length dc, .string bk] w fun e w' => e = .returned (.tuple #[.int .i64 (allP bk ps), .int .i64 (leftP dn bk ps)]) ∧ Ext w w' := by
  refine calls_act Try.func39 rfl Try.ntmps39 rfl rfl ?_
  show Code.wp _ _ _ (act 43 [(0, true, .agg #[h, nd, pt, sm, .slice pA ps.length pc, ne]), (1, true, .slice dA dn.length dc), (2, true, .string bk)] _) _
  have hX : Ext w w := Ext.rfl' w
  refine wp_seq ?_
  refine wp_region_lit ?_
  refine s_box rfl ?_
  intro g1 u1 hu1 hB1 hg1 hs1
  replace hB1 : Blk u1 g1 28 ([h, nd, pt, sm, .slice pA ps.length pc, ne]) := hB1
  have ge_g1 : w.heap.size ≤ g1 := by have := hX.size; omega
  replace hX := hX.comp hu1
  refine s_look (look_assign rfl rfl) ?_
  refine s_look (look_assign rfl rfl) ?_
  refine s_nil ?_
  refine then_normal ?_
  refine wp_seq ?_
  refine region_s ?_
  refine q_look (look_assign rfl rfl) ?_
  refine q_look (look_assign rfl rfl) ?_
  refine q_nil ?_
  rintro _ rfl
  refine then_normal ?_
  refine wp_seq ?_
  refine wp_seq ?_
  refine region_s ?_
  refine q_look (look_assign rfl rfl) ?_
  refine q_nil ?_
  rintro _ rfl
  refine then_normal ?_
  refine wp_block ?_
  refine loop_act (fun (ls : Nat × Int × Int) => [(1, .slice dA dn.length dc), (2, .string bk), (3, .pointer (some ⟨g1, 0, none⟩)), (8, .int .i64 ls.2.1), (9, .int .i64 ls.2.2), (10, .int .i64 (ls.1 : Int))]) (fun ls w' => (Ext w w') ∧ (Blk w' g1 28 [h, nd, pt, sm, .slice pA ps.length pc, ne]) ∧ (ls.1 ≤ ps.length) ∧ (ls.2.1 + allP bk (ps.drop ls.1) = allP bk ps) ∧ (ls.2.2 + leftP dn bk (ps.drop ls.1) = leftP dn bk ps) ∧ (0 ≤ ls.2.1 ∧ ls.2.1 ≤ 10000 * (ls.1 : Int) ∧ 0 ≤ ls.2.2 ∧ ls.2.2 ≤ ls.2.1)) (fun ls => ps.length - ls.1) ((0, 0, 0)) ?_ ?_ ?_
  · exact ⟨rfl, rfl, rfl, rfl, rfl, rfl, trivial⟩
  · exact ⟨hX, hB1, Nat.zero_le _, by simp, by simp, by simp⟩
  · rintro ⟨k, a, l⟩ σ wr hF
    obtain ⟨hX, hB1, hk, ha, hl, hbd⟩ : (Ext w wr) ∧ (Blk wr g1 28 [h, nd, pt, sm, .slice pA ps.length pc, ne]) ∧ (k ≤ ps.length) ∧ (a + allP bk (ps.drop k) = allP bk ps) ∧ (l + leftP dn bk (ps.drop k) = leftP dn bk ps) ∧ (0 ≤ a ∧ a ≤ 10000 * (k : Int) ∧ 0 ≤ l ∧ l ≤ a) := hF
    have hbd2 := hbd
    show Code.wp _ _ _ (act 43 [(1, true, .slice dA dn.length dc), (2, true, .string bk), (3, true, .pointer (some ⟨g1, 0, none⟩)), (8, true, .int .i64 a), (9, true, .int .i64 l), (10, true, .int .i64 (k : Int))] _) _
    refine wp_seq ?_
    refine wp_seq ?_
    refine region_s ?_
    refine q_look (look_move rfl rfl) ?_
    refine q_look (look_fieldAddr Try.underlying28 rfl (fun _ _ => rfl) rfl rfl) ?_
    refine q_look (look_load1 Try.underlying25 rfl rfl rfl (eqc (hB1.cell rfl))) ?_
    refine q_look (look_len_slice Try.underlying25 rfl rfl) ?_
    refine q_look (look_lss rfl rfl rfl rfl) ?_
    refine q_nil ?_
    rintro _ rfl
    refine then_normal ?_
    refine cond_split rfl (fun hc16 => ?_) (fun hc16 => ?_)
    · have hlt : k < ps.length := by have := nn_t hc16; omega
      obtain ⟨p, hx⟩ := get_lt hlt
      obtain ⟨b1, o1, rfl, _⟩ := (hD.sl.ext hX).at_ hlt
      have hhp := hrs_bd p
      refine wp_skip ?_
      refine then_normal ?_
      refine wp_seq ?_
      refine wp_block ?_
      refine wp_seq ?_
      refine wp_region_lit ?_
      refine s_look (look_fieldAddr Try.underlying28 rfl (fun _ _ => rfl) rfl rfl) ?_
      refine s_look (look_load1 Try.underlying25 rfl rfl rfl (eqc (hB1.cell rfl))) ?_
      refine s_look (look_move rfl rfl) ?_
      refine s_look (look_indexAddr _ Try.underlying25 szTry_48 rfl rfl rfl rfl rfl (by omega)) ?_
      refine s_look (look_loadN Try.underlying48 rfl szTry_48 rfl rfl rfl (cs := pcell p) (eqn ((hD.sl.ext hX).rd k p hx))) ?_
      refine s_alloc zeTry_48 ?_
      intro g2 u2 hu2 hB2 hg2 hs2
      have lt_g1_g2 : g1 < g2 := by have := hB1.lt; omega
      have ge_g2 : w.heap.size ≤ g2 := by have := hX.size; omega
      replace hX := hX.comp hu2
      replace hB1 := hB1.ext hu2
      refine s_store szTry_48 rfl (by simp [pcell, scell, Value.cells, Value.oneCell']) rfl rfl hB2 rfl ?_
      intro u3 hk3 hT3
      replace hT3 : Blk u3 g2 48 (pcell p) := hT3
      replace hX := hX.kp hk3 (by omega)
      replace hB1 := hB1.kp hk3 (by omega)
      clear hB2
      have hB2 := hT3
      refine s_nil ?_
      refine then_normal ?_
      refine wp_seq ?_
      refine region_s ?_
      refine q_look (look_fieldAddr Try.underlying48 rfl (fun _ _ => rfl) rfl rfl) ?_
      refine q_look (look_load1 Try.underlying9 rfl rfl rfl (eqc (hB2.cell rfl))) ?_
      refine q_look (look_move rfl rfl) ?_
      refine q_look (look_eql_str rfl rfl rfl rfl) ?_
      refine q_nil ?_
      rintro _ rfl
      refine then_normal ?_
      refine cond_split rfl (fun hc27 => ?_) (fun hc27 => ?_)
      · have hq : p.block = bk := nn_t hc27
        refine wp_seq ?_
        refine region_q ?_
        refine q_look (look_move rfl rfl) ?_
        refine q_look (look_loadN Try.underlying48 rfl szTry_48 rfl rfl rfl (ext_cell_n hB2)) ?_
        refine q_call (vs := [_]) enTry_34 ⟨⟨_, rfl, rfl⟩, trivial⟩ (fun wc hw => cext hw (refhours_any p wc)) ?_
        refine q_look (look_add rfl rfl rfl rfl (by have := hD.len; have := maxLen_is; unfold I64; omega)) ?_
        refine q_look (look_assign rfl rfl) ?_
        refine q_nil ?_
        intro w1 hw1
        replace hX := hX.comp hw1
        replace hB1 := hB1.ext hw1
        replace hB2 := hB2.ext hw1
        refine then_normal ?_
        refine wp_seq ?_
        refine region_q ?_
        refine q_look (look_move rfl rfl) ?_
        refine q_look (look_fieldAddr Try.underlying48 rfl (fun _ _ => rfl) rfl rfl) ?_
        refine q_look (look_load1 Try.underlying9 rfl rfl rfl (ext_cell (hB2.cell rfl))) ?_
        refine q_call (vs := [_, _]) enTry_27 ⟨⟨_, rfl, rfl⟩, ⟨_, rfl, rfl⟩, trivial⟩ (fun wc hw => cext hw (has_any dn dA dc p.id wc (hN.ext (hX.comp hw)) hnl)) ?_
        refine q_look (look_not rfl rfl) ?_
        refine q_nil ?_
        intro w2 hw2
        replace hX := hX.comp hw2
        replace hB1 := hB1.ext hw2
        replace hB2 := hB2.ext hw2
        refine then_normal ?_
        refine cond_split rfl (fun hc36 => ?_) (fun hc36 => ?_)
        · have hc : ¬ p.id ∈ dn := nd_t hc36
          refine region_q ?_
          refine q_look (look_move rfl rfl) ?_
          refine q_look (look_loadN Try.underlying48 rfl szTry_48 rfl rfl rfl (ext_cell_n hB2)) ?_
          refine q_call (vs := [_]) enTry_34 ⟨⟨_, rfl, rfl⟩, trivial⟩ (fun wc hw => cext hw (refhours_any p wc)) ?_
          refine q_look (look_add rfl rfl rfl rfl (by have := hD.len; have := maxLen_is; unfold I64; omega)) ?_
          refine q_look (look_assign rfl rfl) ?_
          refine q_nil ?_
          intro w3 hw3
          replace hX := hX.comp hw3
          replace hB1 := hB1.ext hw3
          replace hB2 := hB2.ext hw3
          refine inB_normal ?_
          refine then_normal ?_
          refine region_s ?_
          refine q_look (look_move rfl rfl) ?_
          refine q_look (look_add rfl rfl rfl rfl (by have := hD.len; have := maxLen_is; unfold I64; omega)) ?_
          refine q_look (look_assign rfl rfl) ?_
          refine q_nil ?_
          rintro _ rfl
          exact loop_end ((k + 1, a + hrs p, l + hrs p)) (by simp only []; omega) ⟨rfl, rfl, rfl, rfl, rfl, rfl, trivial⟩ ⟨hX, hB1, by show k + 1 ≤ ps.length; omega, by rw [drop_get hx, allP, if_pos hq] at ha; show a + hrs p + allP bk (ps.drop (k + 1)) = _; omega, by rw [drop_get hx, leftP, if_pos ⟨hq, hc⟩] at hl; show l + hrs p + leftP dn bk (ps.drop (k + 1)) = _; omega, ⟨by show 0 ≤ a + hrs p; omega, by show a + hrs p ≤ 10000 * ((k + 1 : Nat) : Int); omega, by show 0 ≤ l + hrs p; omega, by show l + hrs p ≤ a + hrs p; omega⟩⟩
        · have hc : p.id ∈ dn := nd_f hc36
          refine wp_skip ?_
          refine inB_normal ?_
          refine then_normal ?_
          refine region_s ?_
          refine q_look (look_move rfl rfl) ?_
          refine q_look (look_add rfl rfl rfl rfl (by have := hD.len; have := maxLen_is; unfold I64; omega)) ?_
          refine q_look (look_assign rfl rfl) ?_
          refine q_nil ?_
          rintro _ rfl
          exact loop_end ((k + 1, a + hrs p, l)) (by simp only []; omega) ⟨rfl, rfl, rfl, rfl, rfl, rfl, trivial⟩ ⟨hX, hB1, by show k + 1 ≤ ps.length; omega, by rw [drop_get hx, allP, if_pos hq] at ha; show a + hrs p + allP bk (ps.drop (k + 1)) = _; omega, by rw [drop_get hx, leftP, if_neg (fun h => h.2 hc)] at hl; show l + leftP dn bk (ps.drop (k + 1)) = _; omega, ⟨by show 0 ≤ a + hrs p; omega, by show a + hrs p ≤ 10000 * ((k + 1 : Nat) : Int); omega, by show 0 ≤ l; omega, by show l ≤ a + hrs p; omega⟩⟩
      · have hq : ¬ p.block = bk := nn_f hc27
        refine wp_skip ?_
        refine inB_normal ?_
        refine then_normal ?_
        refine region_s ?_
        refine q_look (look_move rfl rfl) ?_
        refine q_look (look_add rfl rfl rfl rfl (by have := hD.len; have := maxLen_is; unfold I64; omega)) ?_
        refine q_look (look_assign rfl rfl) ?_
        refine q_nil ?_
        rintro _ rfl
        exact loop_end ((k + 1, a, l)) (by simp only []; omega) ⟨rfl, rfl, rfl, rfl, rfl, rfl, trivial⟩ ⟨hX, hB1, by show k + 1 ≤ ps.length; omega, by rw [drop_get hx, allP, if_neg hq] at ha; show a + allP bk (ps.drop (k + 1)) = _; omega, by rw [drop_get hx, leftP, if_neg (fun h => hq h.1)] at hl; show l + leftP dn bk (ps.drop (k + 1)) = _; omega, ⟨by show 0 ≤ a; omega, by show a ≤ 10000 * ((k + 1 : Nat) : Int); omega, by show 0 ≤ l; omega, by show l ≤ a; omega⟩⟩
    · have hge : k = ps.length := by have := nn_f hc16; omega
      subst hge
      rw [List.drop_length] at ha hl
      simp only [allP, leftP, Int.add_zero] at ha hl
      refine wp_exit ?_
      refine then_exit ?_
      refine then_exit ?_
      refine inB_exit_same ?_
      refine then_normal ?_
      refine wp_seq ?_
      refine region_s ?_
      refine q_look (look_move rfl rfl) ?_
      refine q_look (look_move rfl rfl) ?_
      refine q_look (look_assign rfl rfl) ?_
      refine q_look (look_assign rfl rfl) ?_
      refine q_nil ?_
      rintro _ rfl
      refine then_normal ?_
      refine wp_ret ?_
      exact res2 Try.results39 rfl rfl ⟨by rw [ha, hl], hX⟩

theorem left_any (h nd pt sm : Value) (pA : Option Addr) (ps : List Pk) (pc : Nat) (ne : Value) (dn : List ByteArray) (dA : Option Addr) (dc : Nat) (bk : ByteArray) (w : World) (hD : DOk w pA ps) (hN : Sl scell 1 w dA dn) (hnl : dn.length ≤ maxLen) (hps : ps.length ≤ 1000) :
    Calls Try.prog 22 #[.agg #[h, nd, pt, sm, .slice pA ps.length pc, ne], .slice dA dn.length dc, .string bk] w fun e w' => e = .returned (.int .i64 (leftP dn bk ps)) ∧ Ext w w' := by
  refine calls_act Try.func22 rfl Try.ntmps22 rfl rfl ?_
  show Code.wp _ _ _ (act 15 [(0, true, .agg #[h, nd, pt, sm, .slice pA ps.length pc, ne]), (1, true, .slice dA dn.length dc), (2, true, .string bk)] _) _
  have hX : Ext w w := Ext.rfl' w
  refine wp_seq ?_
  refine wp_region_lit ?_
  refine s_box rfl ?_
  intro g1 u1 hu1 hB1 hg1 hs1
  replace hB1 : Blk u1 g1 28 ([h, nd, pt, sm, .slice pA ps.length pc, ne]) := hB1
  have ge_g1 : w.heap.size ≤ g1 := by have := hX.size; omega
  replace hX := hX.comp hu1
  refine s_look (look_assign rfl rfl) ?_
  refine s_nil ?_
  refine then_normal ?_
  refine wp_seq ?_
  refine region_q ?_
  refine q_look (look_loadN Try.underlying28 rfl szTry_28 rfl rfl rfl (ext_cell_n hB1)) ?_
  refine q_look (look_move rfl rfl) ?_
  refine q_look (look_move rfl rfl) ?_
  refine q_call (vs := [_, _, _]) enTry_38 ⟨⟨_, rfl, rfl⟩, ⟨_, rfl, rfl⟩, ⟨_, rfl, rfl⟩, trivial⟩ (fun wc hw => cext hw (sums_any h nd pt sm pA ps pc ne dn dA dc bk wc (hD.ext (hX.comp hw)) (hN.ext (hX.comp hw)) hnl hps)) ?_
  refine q_look (look_move rfl rfl) ?_
  refine q_look (look_extract rfl rfl rfl) ?_
  refine q_look (look_extract rfl rfl rfl) ?_
  refine q_look (look_assign rfl rfl) ?_
  refine q_nil ?_
  intro w1 hw1
  replace hX := hX.comp hw1
  replace hB1 := hB1.ext hw1
  refine then_normal ?_
  refine wp_seq ?_
  refine region_s ?_
  refine q_look (look_move rfl rfl) ?_
  refine q_look (look_assign rfl rfl) ?_
  refine q_nil ?_
  rintro _ rfl
  refine then_normal ?_
  refine wp_ret ?_
  exact res1 Try.results22 rfl ⟨rfl, hX⟩

theorem refleft_any (h nd pt sm : Value) (pA : Option Addr) (ps : List Pk) (pc : Nat) (ne : Value) (dn : List ByteArray) (dA : Option Addr) (dc : Nat) (bk : ByteArray) (w : World) (hD : DOk w pA ps) (hN : Sl scell 1 w dA dn) (hnl : dn.length ≤ maxLen) (hps : ps.length ≤ 1000) :
    Calls Try.prog 23 #[.agg #[h, nd, pt, sm, .slice pA ps.length pc, ne], .slice dA dn.length dc, .string bk] w fun e w' => e = .returned (.int .i64 (leftP dn bk ps)) ∧ Ext w w' := by
  refine calls_act Try.func23 rfl Try.ntmps23 rfl rfl ?_
  show Code.wp _ _ _ (act 17 [(0, true, .agg #[h, nd, pt, sm, .slice pA ps.length pc, ne]), (1, true, .slice dA dn.length dc), (2, true, .string bk)] _) _
  have hX : Ext w w := Ext.rfl' w
  refine wp_seq ?_
  refine wp_region_lit ?_
  refine s_box rfl ?_
  intro g1 u1 hu1 hB1 hg1 hs1
  replace hB1 : Blk u1 g1 28 ([h, nd, pt, sm, .slice pA ps.length pc, ne]) := hB1
  have ge_g1 : w.heap.size ≤ g1 := by have := hX.size; omega
  replace hX := hX.comp hu1
  refine s_look (look_assign rfl rfl) ?_
  refine s_nil ?_
  refine then_normal ?_
  refine wp_seq ?_
  refine region_q ?_
  refine q_look (look_loadN Try.underlying28 rfl szTry_28 rfl rfl rfl (ext_cell_n hB1)) ?_
  refine q_look (look_move rfl rfl) ?_
  refine q_look (look_move rfl rfl) ?_
  refine q_call (vs := [_, _, _]) enTry_39 ⟨⟨_, rfl, rfl⟩, ⟨_, rfl, rfl⟩, ⟨_, rfl, rfl⟩, trivial⟩ (fun wc hw => cext hw (refsums_any h nd pt sm pA ps pc ne dn dA dc bk wc (hD.ext (hX.comp hw)) (hN.ext (hX.comp hw)) hnl hps)) ?_
  refine q_look (look_move rfl rfl) ?_
  refine q_look (look_extract rfl rfl rfl) ?_
  refine q_look (look_extract rfl rfl rfl) ?_
  refine q_look (look_assign rfl rfl) ?_
  refine q_look (look_assign rfl rfl) ?_
  refine q_nil ?_
  intro w1 hw1
  replace hX := hX.comp hw1
  replace hB1 := hB1.ext hw1
  refine then_normal ?_
  refine wp_seq ?_
  refine region_s ?_
  refine q_look (look_move rfl rfl) ?_
  refine q_look (look_assign rfl rfl) ?_
  refine q_nil ?_
  rintro _ rfl
  refine then_normal ?_
  refine wp_ret ?_
  exact res1 Try.results23 rfl ⟨rfl, hX⟩

theorem pct_any (h nd pt sm : Value) (pA : Option Addr) (ps : List Pk) (pc : Nat) (ne : Value) (dn : List ByteArray) (dA : Option Addr) (dc : Nat) (bk : ByteArray) (w : World) (hD : DOk w pA ps) (hN : Sl scell 1 w dA dn) (hnl : dn.length ≤ maxLen) (hps : ps.length ≤ 1000) :
    Calls Try.prog 24 #[.agg #[h, nd, pt, sm, .slice pA ps.length pc, ne], .slice dA dn.length dc, .string bk] w fun e w' => e = .returned (.int .i64 (pctP dn bk ps)) ∧ Ext w w' := by
  refine calls_act Try.func24 rfl Try.ntmps24 rfl rfl ?_
  show Code.wp _ _ _ (act 24 [(0, true, .agg #[h, nd, pt, sm, .slice pA ps.length pc, ne]), (1, true, .slice dA dn.length dc), (2, true, .string bk)] _) _
  have hX : Ext w w := Ext.rfl' w
  refine wp_seq ?_
  refine wp_region_lit ?_
  refine s_box rfl ?_
  intro g1 u1 hu1 hB1 hg1 hs1
  replace hB1 : Blk u1 g1 28 ([h, nd, pt, sm, .slice pA ps.length pc, ne]) := hB1
  have ge_g1 : w.heap.size ≤ g1 := by have := hX.size; omega
  replace hX := hX.comp hu1
  refine s_look (look_assign rfl rfl) ?_
  refine s_nil ?_
  refine then_normal ?_
  refine wp_seq ?_
  refine region_q ?_
  refine q_look (look_loadN Try.underlying28 rfl szTry_28 rfl rfl rfl (ext_cell_n hB1)) ?_
  refine q_look (look_move rfl rfl) ?_
  refine q_look (look_move rfl rfl) ?_
  refine q_call (vs := [_, _, _]) enTry_38 ⟨⟨_, rfl, rfl⟩, ⟨_, rfl, rfl⟩, ⟨_, rfl, rfl⟩, trivial⟩ (fun wc hw => cext hw (sums_any h nd pt sm pA ps pc ne dn dA dc bk wc (hD.ext (hX.comp hw)) (hN.ext (hX.comp hw)) hnl hps)) ?_
  refine q_look (look_move rfl rfl) ?_
  refine q_look (look_extract rfl rfl rfl) ?_
  refine q_look (look_extract rfl rfl rfl) ?_
  refine q_look (look_assign rfl rfl) ?_
  refine q_look (look_assign rfl rfl) ?_
  refine q_nil ?_
  intro w1 hw1
  replace hX := hX.comp hw1
  replace hB1 := hB1.ext hw1
  refine then_normal ?_
  refine wp_seq ?_
  refine wp_seq ?_
  refine region_s ?_
  refine q_look (look_move rfl rfl) ?_
  refine q_look (look_eql rfl rfl rfl rfl) ?_
  refine q_nil ?_
  rintro _ rfl
  refine then_normal ?_
  refine cond_split rfl (fun hc17 => ?_) (fun hc17 => ?_)
  · have h0 : allP bk ps = 0 := nn_t hc17
    refine wp_seq ?_
    refine region_s ?_
    refine q_look (look_assign rfl rfl) ?_
    refine q_nil ?_
    rintro _ rfl
    refine then_normal ?_
    refine wp_ret ?_
    refine then_ret ?_
    exact res1 Try.results24 rfl ⟨ret_int (by unfold pctP; rw [if_pos h0]), hX⟩
  · have h0 : ¬ (allP bk ps = 0) := nn_f hc17
    have hb1 := all_bd bk ps
    have hb2 := left_bd dn bk ps
    refine wp_skip ?_
    refine then_normal ?_
    refine wp_seq ?_
    refine region_s ?_
    refine q_look (look_move rfl rfl) ?_
    refine q_look (look_move rfl rfl) ?_
    refine q_look (look_sub rfl rfl rfl rfl (by unfold I64; omega)) ?_
    refine q_look (look_mul rfl rfl rfl rfl (by unfold I64; omega)) ?_
    refine q_look (look_move rfl rfl) ?_
    refine q_look (look_quo rfl rfl rfl rfl (by omega) (by omega) (by omega)) ?_
    refine q_look (look_assign rfl rfl) ?_
    refine q_nil ?_
    rintro _ rfl
    refine then_normal ?_
    refine wp_ret ?_
    exact res1 Try.results24 rfl ⟨ret_int (by unfold pctP; rw [if_neg h0]), hX⟩

theorem refpct_any (h nd pt sm : Value) (pA : Option Addr) (ps : List Pk) (pc : Nat) (ne : Value) (dn : List ByteArray) (dA : Option Addr) (dc : Nat) (bk : ByteArray) (w : World) (hD : DOk w pA ps) (hN : Sl scell 1 w dA dn) (hnl : dn.length ≤ maxLen) (hps : ps.length ≤ 1000) :
    Calls Try.prog 25 #[.agg #[h, nd, pt, sm, .slice pA ps.length pc, ne], .slice dA dn.length dc, .string bk] w fun e w' => e = .returned (.int .i64 (pctP dn bk ps)) ∧ Ext w w' := by
  refine calls_act Try.func25 rfl Try.ntmps25 rfl rfl ?_
  show Code.wp _ _ _ (act 24 [(0, true, .agg #[h, nd, pt, sm, .slice pA ps.length pc, ne]), (1, true, .slice dA dn.length dc), (2, true, .string bk)] _) _
  have hX : Ext w w := Ext.rfl' w
  refine wp_seq ?_
  refine wp_region_lit ?_
  refine s_box rfl ?_
  intro g1 u1 hu1 hB1 hg1 hs1
  replace hB1 : Blk u1 g1 28 ([h, nd, pt, sm, .slice pA ps.length pc, ne]) := hB1
  have ge_g1 : w.heap.size ≤ g1 := by have := hX.size; omega
  replace hX := hX.comp hu1
  refine s_look (look_assign rfl rfl) ?_
  refine s_nil ?_
  refine then_normal ?_
  refine wp_seq ?_
  refine region_q ?_
  refine q_look (look_loadN Try.underlying28 rfl szTry_28 rfl rfl rfl (ext_cell_n hB1)) ?_
  refine q_look (look_move rfl rfl) ?_
  refine q_look (look_move rfl rfl) ?_
  refine q_call (vs := [_, _, _]) enTry_39 ⟨⟨_, rfl, rfl⟩, ⟨_, rfl, rfl⟩, ⟨_, rfl, rfl⟩, trivial⟩ (fun wc hw => cext hw (refsums_any h nd pt sm pA ps pc ne dn dA dc bk wc (hD.ext (hX.comp hw)) (hN.ext (hX.comp hw)) hnl hps)) ?_
  refine q_look (look_move rfl rfl) ?_
  refine q_look (look_extract rfl rfl rfl) ?_
  refine q_look (look_extract rfl rfl rfl) ?_
  refine q_look (look_assign rfl rfl) ?_
  refine q_look (look_assign rfl rfl) ?_
  refine q_nil ?_
  intro w1 hw1
  replace hX := hX.comp hw1
  replace hB1 := hB1.ext hw1
  refine then_normal ?_
  refine wp_seq ?_
  refine wp_seq ?_
  refine region_s ?_
  refine q_look (look_move rfl rfl) ?_
  refine q_look (look_eql rfl rfl rfl rfl) ?_
  refine q_nil ?_
  rintro _ rfl
  refine then_normal ?_
  refine cond_split rfl (fun hc17 => ?_) (fun hc17 => ?_)
  · have h0 : allP bk ps = 0 := nn_t hc17
    refine wp_seq ?_
    refine region_s ?_
    refine q_look (look_assign rfl rfl) ?_
    refine q_nil ?_
    rintro _ rfl
    refine then_normal ?_
    refine wp_ret ?_
    refine then_ret ?_
    exact res1 Try.results25 rfl ⟨ret_int (by unfold pctP; rw [if_pos h0]), hX⟩
  · have h0 : ¬ (allP bk ps = 0) := nn_f hc17
    have hb1 := all_bd bk ps
    have hb2 := left_bd dn bk ps
    refine wp_skip ?_
    refine then_normal ?_
    refine wp_seq ?_
    refine region_s ?_
    refine q_look (look_move rfl rfl) ?_
    refine q_look (look_move rfl rfl) ?_
    refine q_look (look_sub rfl rfl rfl rfl (by unfold I64; omega)) ?_
    refine q_look (look_mul rfl rfl rfl rfl (by unfold I64; omega)) ?_
    refine q_look (look_move rfl rfl) ?_
    refine q_look (look_quo rfl rfl rfl rfl (by omega) (by omega) (by omega)) ?_
    refine q_look (look_assign rfl rfl) ?_
    refine q_nil ?_
    rintro _ rfl
    refine then_normal ?_
    refine wp_ret ?_
    exact res1 Try.results25 rfl ⟨ret_int (by unfold pctP; rw [if_neg h0]), hX⟩


def fewP (ps : List Pk) (dn : List ByteArray) : Bool := decide (ps.length ≤ 70) && decide (dn.length ≤ 200) && ps.all fun p => decide (p.after.length ≤ 30)
theorem few_spec {ps : List Pk} {dn : List ByteArray} (h : fewP ps dn = true) : ps.length ≤ 70 ∧ dn.length ≤ 200 ∧ ∀ p ∈ ps, p.after.length ≤ 30 := by
  unfold fewP at h
  simp only [Bool.and_eq_true, decide_eq_true_eq, List.all_eq_true] at h
  exact ⟨h.1.1, h.1.2, h.2⟩


theorem few_end {ps : List Pk} {dn : List ByteArray} {k : Nat} (hge : ¬ (k < ps.length ∧ k < 71)) (hk : k ≤ ps.length ∧ k ≤ 71) (hf : ∀ p ∈ ps.take k, p.after.length ≤ 30) : (decide ((ps.length : Int) ≤ 70) && decide ((dn.length : Int) ≤ 200)) = fewP ps dn := by
  unfold fewP
  by_cases h : ps.length ≤ 70
  · rw [show k = ps.length by omega, List.take_length] at hf
    rw [show (ps.all fun p => decide (p.after.length ≤ 30)) = true from List.all_eq_true.2 (fun p hp => decide_eq_true (hf p hp)), Bool.and_true, decide_eq_true h, decide_eq_true (by omega), Bool.true_and, Bool.true_and]
    rw [Bool.eq_iff_iff, decide_eq_true_eq, decide_eq_true_eq]; omega
  · rw [decide_eq_false h, decide_eq_false (by omega)]; rfl

theorem few_any (h nd pt sm : Value) (pA : Option Addr) (ps : List Pk) (pc : Nat) (ne : Value) (dn : List ByteArray) (dA : Option Addr) (dc : Nat) (w : World) (hD : DOk w pA ps) (hnl : dn.length ≤ maxLen) :
    Calls Try.prog 10 #[.agg #[h, nd, pt, sm, .slice pA ps.length pc, ne], .slice dA dn.length dc] w fun e w' => e = .returned (.bool (fewP ps dn)) ∧ Ext w w' := by
  refine calls_act Try.func10 rfl Try.ntmps10 rfl rfl ?_
  show Code.wp _ _ _ (act 34 [(0, true, .agg #[h, nd, pt, sm, .slice pA ps.length pc, ne]), (1, true, .slice dA dn.length dc)] _) _
  have hX : Ext w w := Ext.rfl' w
  refine wp_seq ?_
  refine wp_region_lit ?_
  refine s_box rfl ?_
  intro g1 u1 hu1 hB1 hg1 hs1
  replace hB1 : Blk u1 g1 28 ([h, nd, pt, sm, .slice pA ps.length pc, ne]) := hB1
  have ge_g1 : w.heap.size ≤ g1 := by have := hX.size; omega
  replace hX := hX.comp hu1
  refine s_look (look_assign rfl rfl) ?_
  refine s_nil ?_
  refine then_normal ?_
  refine wp_seq ?_
  refine wp_seq ?_
  refine region_s ?_
  refine q_look (look_assign rfl rfl) ?_
  refine q_nil ?_
  rintro _ rfl
  refine then_normal ?_
  refine wp_block ?_
  refine loop_act (fun (k : Nat) => [(1, .slice dA dn.length dc), (2, .pointer (some ⟨g1, 0, none⟩)), (5, .int .i64 (k : Int))]) (fun k w' => (Ext w w') ∧ (Blk w' g1 28 [h, nd, pt, sm, .slice pA ps.length pc, ne]) ∧ (k ≤ ps.length ∧ k ≤ 71) ∧ (∀ p ∈ ps.take k, p.after.length ≤ 30)) (fun k => ps.length - k) (0) ?_ ?_ ?_
  · exact ⟨rfl, rfl, rfl, trivial⟩
  · exact ⟨hX, hB1, ⟨Nat.zero_le _, Nat.zero_le _⟩, fun p hp => by cases hp⟩
  · rintro k σ wr hF
    obtain ⟨hX, hB1, hk, hf⟩ : (Ext w wr) ∧ (Blk wr g1 28 [h, nd, pt, sm, .slice pA ps.length pc, ne]) ∧ (k ≤ ps.length ∧ k ≤ 71) ∧ (∀ p ∈ ps.take k, p.after.length ≤ 30) := hF
    show Code.wp _ _ _ (act 34 [(1, true, .slice dA dn.length dc), (2, true, .pointer (some ⟨g1, 0, none⟩)), (5, true, .int .i64 (k : Int))] _) _
    refine wp_seq ?_
    refine wp_seq ?_
    refine region_s ?_
    refine q_look (look_move rfl rfl) ?_
    refine q_look (look_fieldAddr Try.underlying28 rfl (fun _ _ => rfl) rfl rfl) ?_
    refine q_look (look_load1 Try.underlying25 rfl rfl rfl (eqc (hB1.cell rfl))) ?_
    refine q_look (look_len_slice Try.underlying25 rfl rfl) ?_
    refine q_look (look_lss rfl rfl rfl rfl) ?_
    refine q_look (look_move rfl rfl) ?_
    refine q_lookg rfl rfl rfl (fun hq => look_move rfl rfl) ?_
    refine q_lookg rfl rfl rfl (fun hq => look_lss rfl hq rfl rfl) ?_
    refine q_look (look_and rfl rfl rfl rfl) ?_
    refine q_nil ?_
    rintro _ rfl
    refine then_normal ?_
    refine cond_split rfl (fun hc14 => ?_) (fun hc14 => ?_)
    · have hlt : k < ps.length ∧ k < 71 := by rw [Bool.and_eq_true] at hc14; have := nn_t hc14.1; have := nn_t hc14.2; omega
      obtain ⟨p, hx⟩ := get_lt hlt.1
      obtain ⟨b1, o1, rfl, _⟩ := (hD.sl.ext hX).at_ hlt.1
      have hpm := (hD.ok p (mem_get hx)).2.1
      refine wp_skip ?_
      refine then_normal ?_
      refine wp_seq ?_
      refine wp_block ?_
      refine wp_seq ?_
      refine region_s ?_
      refine q_look (look_fieldAddr Try.underlying28 rfl (fun _ _ => rfl) rfl rfl) ?_
      refine q_look (look_load1 Try.underlying25 rfl rfl rfl (eqc (hB1.cell rfl))) ?_
      refine q_look (look_move rfl rfl) ?_
      refine q_look (look_indexAddr _ Try.underlying25 szTry_48 rfl rfl rfl rfl rfl (by omega)) ?_
      refine q_look (look_fieldAddr Try.underlying48 rfl (fun _ _ => rfl) rfl rfl) ?_
      refine q_look (look_load1 Try.underlying31 rfl rfl rfl (eqc (((hD.sl.ext hX).rd k p hx) _ _ rfl))) ?_
      refine q_look (look_len_slice Try.underlying31 rfl rfl) ?_
      refine q_look (look_gtr rfl rfl rfl rfl) ?_
      refine q_nil ?_
      rintro _ rfl
      refine then_normal ?_
      refine cond_split rfl (fun hc24 => ?_) (fun hc24 => ?_)
      · have hq : 30 < (p.after.length : Int) := nn_t hc24
        refine wp_seq ?_
        refine region_s ?_
        refine q_look (look_assign rfl rfl) ?_
        refine q_nil ?_
        rintro _ rfl
        refine then_normal ?_
        refine wp_ret ?_
        refine inB_ret ?_
        refine then_ret ?_
        refine then_ret ?_
        refine inB_ret ?_
        refine then_ret ?_
        exact res1 Try.results10 rfl ⟨ret_bool (by rw [eq_comm, ← Bool.not_eq_true]; intro h; have := (few_spec h).2.2 p (mem_get hx); omega), hX⟩
      · have hq : ¬ (30 < (p.after.length : Int)) := nn_f hc24
        refine wp_skip ?_
        refine inB_normal ?_
        refine then_normal ?_
        refine region_s ?_
        refine q_look (look_move rfl rfl) ?_
        refine q_look (look_add rfl rfl rfl rfl (by have := hD.len; have := maxLen_is; unfold I64; omega)) ?_
        refine q_look (look_assign rfl rfl) ?_
        refine q_nil ?_
        rintro _ rfl
        exact loop_end (k + 1) (by omega) ⟨rfl, rfl, rfl, trivial⟩ ⟨hX, hB1, by omega, by rw [take_get hx]; intro q hq; rcases List.mem_append.1 hq with h | h; exact hf q h; rw [List.mem_singleton.1 h]; omega⟩
    · have hge : ¬ (k < ps.length ∧ k < 71) := fun h => by rw [← Bool.not_eq_true] at hc14; apply hc14; rw [decide_eq_true (by omega), decide_eq_true (by omega)]; rfl
      refine wp_exit ?_
      refine then_exit ?_
      refine then_exit ?_
      refine inB_exit_same ?_
      refine then_normal ?_
      refine wp_seq ?_
      refine region_s ?_
      refine q_look (look_fieldAddr Try.underlying28 rfl (fun _ _ => rfl) rfl rfl) ?_
      refine q_look (look_load1 Try.underlying25 rfl rfl rfl (eqc (hB1.cell rfl))) ?_
      refine q_look (look_len_slice Try.underlying25 rfl rfl) ?_
      refine q_look (look_leq rfl rfl rfl rfl) ?_
      refine q_look (look_move rfl rfl) ?_
      refine q_lookg rfl rfl rfl (fun hq => look_move rfl rfl) ?_
      refine q_lookg rfl rfl rfl (fun hq => look_len_slice Try.underlying31 rfl hq) ?_
      refine q_lookg rfl rfl rfl (fun hq => look_leq rfl hq rfl rfl) ?_
      refine q_look (look_and rfl rfl rfl rfl) ?_
      refine q_look (look_assign rfl rfl) ?_
      refine q_nil ?_
      rintro _ rfl
      refine then_normal ?_
      refine wp_ret ?_
      exact res1 Try.results10 rfl ⟨ret_bool (few_end hge hk hf), hX⟩

end Go.Proofs.Ytldgigjapifagaa
