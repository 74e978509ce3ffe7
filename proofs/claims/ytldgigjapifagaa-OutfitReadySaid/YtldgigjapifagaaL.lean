/- The walks of chapter 47 (outfit), last part: OutfitReady, OutfitDoes, OutfitStarts, OutfitProgress. -/
import Derived.Test.YtldgigjapifagaaK
import Derived.Test.YtldgigjapifagaaJ
namespace Go.Proofs.Ytldgigjapifagaa
open Go Go.RowKit Core
set_option linter.unusedVariables false
set_option linter.unusedSimpArgs false
attribute [local irreducible] wpQuiet wpList wpH wpT Code.wp Calls bodyPost act


theorem or_f {a b : Bool} (h : (a || b) = false) : a = false ∧ b = false := by cases a <;> cases b <;> simp_all
theorem all_snoc {α : Type} {l : List α} {j : Nat} {x : α} (f : α → Bool) (h : l[j]? = some x) : (l.take (j + 1)).all f = ((l.take j).all f && f x) := by rw [take_get h, List.all_append]; simp
theorem ready_e1 {dn : List ByteArray} {ps : List Pk} {i : Nat} {p : Pk} (hn : (idsP ps).Nodup) (hp : ps[i]? = some p) : decide (readyP dn p.id ps = 0) = ((p.after.all fun x => decide (x ∈ dn)) && !decide (p.id ∈ dn)) := by
  by_cases h : p.id ∈ dn
  · have e : readyP dn p.id ps = 14 := by unfold readyP; rw [if_neg (by rw [find_id hn hp]; omega), if_pos h]
    rw [e, decide_eq_true h]; simp
  · rw [ready_eq (find_id hn hp) hp h, decide_eq_false h]
    have e : (p.after.all fun x => decide (x ∈ dn)) = !(p.after.any fun x => !decide (x ∈ dn)) := by rw [List.all_eq_not_any_not]
    rw [e]
    cases p.after.any fun x => !decide (x ∈ dn) <;> simp
theorem ready_e2 {dn : List ByteArray} {ps : List Pk} {i : Nat} {p : Pk} (hn : (idsP ps).Nodup) (hp : ps[i]? = some p) : decide (readyP dn p.id ps = 14) = decide (p.id ∈ dn) := by
  by_cases h : p.id ∈ dn
  · have e : readyP dn p.id ps = 14 := by unfold readyP; rw [if_neg (by rw [find_id hn hp]; omega), if_pos h]
    rw [e, decide_eq_true h]; rfl
  · rw [ready_eq (find_id hn hp) hp h, decide_eq_false h]
    split <;> rfl
theorem nt_f {a : Bool} (h : (!a) = false) : a = true := by cases a <;> simp_all

theorem ready_law (h nd pt sm : Value) (pA : Option Addr) (ps : List Pk) (pc : Nat) (ne : Value) (dn : List ByteArray) (dA : Option Addr) (dc : Nat) (w : World) (hD : DOk w pA ps) (hN : Sl scell 1 w dA dn) (hnl : dn.length ≤ maxLen) :
    Calls Try.prog 9 #[.agg #[h, nd, pt, sm, .slice pA ps.length pc, ne], .slice dA dn.length dc] w fun e w' => e = .returned (.bool (true)) ∧ Ext w w' := by
  refine calls_act Try.func9 rfl Try.ntmps9 rfl rfl ?_
  show Code.wp _ _ _ (act 83 [(0, true, .agg #[h, nd, pt, sm, .slice pA ps.length pc, ne]), (1, true, .slice dA dn.length dc)] _) _
  have hX : Ext w w := Ext.rfl' w
  refine wp_seq ?_
  refine wp_region_lit ?_
  refine s_box rfl ?_
  intro g1 u1 hu1 hB1 hg1 hs1
  replace hB1 : Blk u1 g1 28 ([h, nd, pt, sm, .slice pA ps.length pc, ne]) := hB1
  have ge_g1 : w.heap.size ≤ g1 := by have := hX.size; omega
  replace hX := hX.comp hu1
  refine s_look (look_assign rfl rfl) ?_
  refine s_nil ?_
  refine then_normal ?_
  refine wp_seq ?_
  refine wp_seq ?_
  refine region_q ?_
  refine q_look (look_loadN Try.underlying28 rfl szTry_28 rfl rfl rfl (ext_cell_n hB1)) ?_
  refine q_look (look_move rfl rfl) ?_
  refine q_call (vs := [_, _]) enTry_10 ⟨⟨_, rfl, rfl⟩, ⟨_, rfl, rfl⟩, trivial⟩ (fun wc hw => cext hw (few_any h nd pt sm pA ps pc ne dn dA dc wc (hD.ext (hX.comp hw)) hnl)) ?_
  refine q_look (look_not rfl rfl) ?_
  refine q_look (look_move rfl rfl) ?_
  refine q_lookg rfl rfl rfl (fun hq => look_loadN Try.underlying28 rfl szTry_28 rfl rfl rfl (ext_cell_n hB1)) ?_
  refine q_callg (vs := [_]) rfl rfl rfl enTry_26 (fun hq => ⟨⟨_, rfl, hq⟩, trivial⟩) (fun hq wc hw => cext hw (sound_any h nd pt sm pA ps pc ne wc (hD.ext (hX.comp hw)) (by have hF : fewP ps dn = true := (by simpa [gq] using hq); have := (few_spec hF).1; omega))) ?_
  refine q_lookg rfl rfl rfl (fun hq => look_not rfl hq) ?_
  refine q_look (look_or rfl rfl rfl rfl) ?_
  refine q_nil ?_
  intro w1 hw1
  replace hX := hX.comp hw1
  replace hB1 := hB1.ext hw1
  refine then_normal ?_
  refine cond_split rfl (fun hc18 => ?_) (fun hc18 => ?_)
  · skip
    refine wp_seq ?_
    refine region_q ?_
    refine q_call (vs := []) enTry_11 trivial (fun wc hw => cext hw (awake_any wc)) ?_
    refine q_look (look_assign rfl rfl) ?_
    refine q_nil ?_
    intro w2 hw2
    replace hX := hX.comp hw2
    replace hB1 := hB1.ext hw2
    refine then_normal ?_
    refine wp_ret ?_
    refine then_ret ?_
    exact res1 Try.results9 rfl ⟨rfl, hX⟩
  · have hF : fewP ps dn = true := by revert hc18; cases fewP ps dn <;> simp [gq]
    have hS0 : soundP ps := soundB_t.1 (by revert hc18; rw [hF]; cases soundB ps <;> simp [gq])
    obtain ⟨h70, h200, h30⟩ := few_spec hF
    have hps : ps.length ≤ 1000 := by omega
    refine wp_skip ?_
    refine then_normal ?_
    refine wp_seq ?_
    refine wp_seq ?_
    refine region_s ?_
    refine q_look (look_assign rfl rfl) ?_
    refine q_nil ?_
    rintro _ rfl
    refine then_normal ?_
    refine wp_block ?_
    refine loop_act (fun (k : Nat) => [(1, .slice dA dn.length dc), (2, .pointer (some ⟨g1, 0, none⟩)), (5, .int .i64 (k : Int))]) (fun k w' => (Ext w w') ∧ (Blk w' g1 28 [h, nd, pt, sm, .slice pA ps.length pc, ne]) ∧ (k ≤ ps.length)) (fun k => ps.length - k) (0) ?_ ?_ ?_
    · exact ⟨rfl, rfl, rfl, trivial⟩
    · exact ⟨hX, hB1, Nat.zero_le _⟩
    · rintro k σ wr hF
      obtain ⟨hX, hB1, hk⟩ : (Ext w wr) ∧ (Blk wr g1 28 [h, nd, pt, sm, .slice pA ps.length pc, ne]) ∧ (k ≤ ps.length) := hF
      show Code.wp _ _ _ (act 83 [(1, true, .slice dA dn.length dc), (2, true, .pointer (some ⟨g1, 0, none⟩)), (5, true, .int .i64 (k : Int))] _) _
      refine wp_seq ?_
      refine wp_seq ?_
      refine region_s ?_
      refine q_look (look_move rfl rfl) ?_
      refine q_look (look_fieldAddr Try.underlying28 rfl (fun _ _ => rfl) rfl rfl) ?_
      refine q_look (look_load1 Try.underlying25 rfl rfl rfl (eqc (hB1.cell rfl))) ?_
      refine q_look (look_len_slice Try.underlying25 rfl rfl) ?_
      refine q_look (look_lss rfl rfl rfl rfl) ?_
      refine q_nil ?_
      rintro _ rfl
      refine then_normal ?_
      refine cond_split rfl (fun hc24 => ?_) (fun hc24 => ?_)
      · have hlt : k < ps.length := by have := nn_t hc24; omega
        obtain ⟨p, hp⟩ := get_lt hlt
        obtain ⟨b1, o1, rfl, _⟩ := (hD.sl.ext hX).at_ hlt
        have hpo := hD.ok p (mem_get hp)
        refine wp_skip ?_
        refine then_normal ?_
        refine wp_seq ?_
        refine wp_block ?_
        refine wp_seq ?_
        refine wp_region_lit ?_
        refine s_look (look_fieldAddr Try.underlying28 rfl (fun _ _ => rfl) rfl rfl) ?_
        refine s_look (look_load1 Try.underlying25 rfl rfl rfl (eqc (hB1.cell rfl))) ?_
        refine s_look (look_move rfl rfl) ?_
        refine s_look (look_indexAddr _ Try.underlying25 szTry_48 rfl rfl rfl rfl rfl (by omega)) ?_
        refine s_look (look_loadN Try.underlying48 rfl szTry_48 rfl rfl rfl (cs := pcell p) (eqn ((hD.sl.ext hX).rd k p hp))) ?_
        refine s_alloc zeTry_48 ?_
        intro g2 u2 hu2 hB2 hg2 hs2
        have lt_g1_g2 : g1 < g2 := by have := hB1.lt; omega
        have ge_g2 : w.heap.size ≤ g2 := by have := hX.size; omega
        replace hX := hX.comp hu2
        replace hB1 := hB1.ext hu2
        refine s_store szTry_48 rfl (by simp [pcell, scell, Value.cells, Value.oneCell']) rfl rfl hB2 rfl ?_
        intro u3 hk3 hT3
        replace hT3 : Blk u3 g2 48 (pcell p) := hT3
        replace hX := hX.kp hk3 (by omega)
        replace hB1 := hB1.kp hk3 (by omega)
        clear hB2
        have hB2 := hT3
        refine s_nil ?_
        refine then_normal ?_
        refine wp_seq ?_
        refine region_s ?_
        refine q_look (look_assign rfl rfl) ?_
        refine q_nil ?_
        rintro _ rfl
        refine then_normal ?_
        refine wp_seq ?_
        refine wp_seq ?_
        refine region_s ?_
        refine q_look (look_assign rfl rfl) ?_
        refine q_nil ?_
        rintro _ rfl
        refine then_normal ?_
        refine wp_block ?_
        refine loop_act (fun (j : Nat) => [(1, .slice dA dn.length dc), (2, .pointer (some ⟨g1, 0, none⟩)), (5, .int .i64 (k : Int)), (6, .pointer (some ⟨g2, 0, none⟩)), (7, .bool ((p.after.take j).all fun x => decide (x ∈ dn))), (8, .int .i64 (j : Int))]) (fun j w' => (Ext w w') ∧ (Blk w' g1 28 [h, nd, pt, sm, .slice (some ⟨b1, o1, none⟩) ps.length pc, ne]) ∧ (Blk w' g2 48 (pcell p)) ∧ (j ≤ p.after.length)) (fun j => p.after.length - j) (0) ?_ ?_ ?_
        · exact ⟨rfl, rfl, rfl, rfl, rfl, rfl, trivial⟩
        · exact ⟨hX, hB1, hB2, Nat.zero_le _⟩
        · rintro j σ wr hF
          obtain ⟨hX, hB1, hB2, hj⟩ : (Ext w wr) ∧ (Blk wr g1 28 [h, nd, pt, sm, .slice (some ⟨b1, o1, none⟩) ps.length pc, ne]) ∧ (Blk wr g2 48 (pcell p)) ∧ (j ≤ p.after.length) := hF
          show Code.wp _ _ _ (act 83 [(1, true, .slice dA dn.length dc), (2, true, .pointer (some ⟨g1, 0, none⟩)), (5, true, .int .i64 (k : Int)), (6, true, .pointer (some ⟨g2, 0, none⟩)), (7, true, .bool ((p.after.take j).all fun x => decide (x ∈ dn))), (8, true, .int .i64 (j : Int))] _) _
          refine wp_seq ?_
          refine wp_seq ?_
          refine region_s ?_
          refine q_look (look_move rfl rfl) ?_
          refine q_look (look_fieldAddr Try.underlying48 rfl (fun _ _ => rfl) rfl rfl) ?_
          refine q_look (look_load1 Try.underlying31 rfl rfl rfl (eqc (hB2.cell rfl))) ?_
          refine q_look (look_len_slice Try.underlying31 rfl rfl) ?_
          refine q_look (look_lss rfl rfl rfl rfl) ?_
          refine q_nil ?_
          rintro _ rfl
          refine then_normal ?_
          refine cond_split rfl (fun hc36 => ?_) (fun hc36 => ?_)
          · have hlj : j < p.after.length := by have := nn_t hc36; omega
            obtain ⟨x, hx⟩ := get_lt hlj
            obtain ⟨b2, o2, hA2, hr2⟩ := (hpo.1.ext hX).at_ hlj
            refine wp_skip ?_
            refine then_normal ?_
            refine wp_seq ?_
            refine wp_block ?_
            refine region_q ?_
            refine q_look (look_move rfl rfl) ?_
            refine q_look (look_move rfl rfl) ?_
            refine q_lookg rfl rfl rfl (fun hq => look_move rfl rfl) ?_
            refine q_lookg rfl rfl rfl (fun hq => look_fieldAddr Try.underlying48 rfl (fun _ _ => rfl) rfl rfl) ?_
            refine q_lookg rfl rfl rfl (fun hq => Look.as (look_load1 Try.underlying31 rfl rfl hq (ext_cell (hB2.cell rfl))) (v' := .slice (some ⟨b2, o2, none⟩) p.after.length p.cap) (by rw [hA2])) ?_
            refine q_lookg rfl rfl rfl (fun hq => look_move rfl rfl) ?_
            refine q_lookg rfl rfl rfl (fun hq => look_indexAddr _ Try.underlying31 szTry_9 rfl hq rfl hq rfl (by omega)) ?_
            refine q_lookg rfl rfl rfl (fun hq => look_load1 Try.underlying9 rfl rfl hq (ext_cell ((hr2 j x hx) 0 _ rfl))) ?_
            refine q_callg (vs := [_, _]) rfl rfl rfl enTry_27 (fun hq => ⟨⟨_, rfl, hq⟩, ⟨_, rfl, hq⟩, trivial⟩) (fun hq wc hw => cext hw (has_any dn dA dc x wc (hN.ext (hX.comp hw)) hnl)) ?_
            refine q_look (look_and rfl rfl rfl rfl) ?_
            refine q_look (look_assign rfl rfl) ?_
            refine q_nil ?_
            intro w3 hw3
            replace hX := hX.comp hw3
            replace hB1 := hB1.ext hw3
            replace hB2 := hB2.ext hw3
            refine inB_normal ?_
            refine then_normal ?_
            refine region_s ?_
            refine q_look (look_move rfl rfl) ?_
            refine q_look (look_add rfl rfl rfl rfl (by have := hD.len; have := hpo.2.1; have := maxLen_is; unfold I64; omega)) ?_
            refine q_look (look_assign rfl rfl) ?_
            refine q_nil ?_
            rintro _ rfl
            exact loop_end (j + 1) (by omega) ⟨rfl, rfl, rfl, rfl, (congrArg (fun z => some (true, Value.bool z)) (all_snoc _ hx).symm), rfl, trivial⟩ ⟨hX, hB1, hB2, by omega⟩
          · obtain rfl : j = p.after.length := by have := nn_f hc36; omega
            rw [List.take_length] at *
            refine wp_exit ?_
            refine then_exit ?_
            refine then_exit ?_
            refine inB_exit_same ?_
            refine then_normal ?_
            refine wp_seq ?_
            refine region_q ?_
            refine q_look (look_loadN Try.underlying28 rfl szTry_28 rfl rfl rfl (ext_cell_n hB1)) ?_
            refine q_look (look_move rfl rfl) ?_
            refine q_look (look_fieldAddr Try.underlying48 rfl (fun _ _ => rfl) rfl rfl) ?_
            refine q_look (look_load1 Try.underlying9 rfl rfl rfl (ext_cell (hB2.cell rfl))) ?_
            refine q_call (vs := [_, _, _]) enTry_18 ⟨⟨_, rfl, rfl⟩, ⟨_, rfl, rfl⟩, ⟨_, rfl, rfl⟩, trivial⟩ (fun wc hw => cext hw (ready_any h nd pt sm (some ⟨b1, o1, none⟩) ps pc ne dn dA dc p.id wc (hD.ext (hX.comp hw)) (hN.ext (hX.comp hw)) hnl)) ?_
            refine q_look (look_assign rfl rfl) ?_
            refine q_nil ?_
            intro w4 hw4
            replace hX := hX.comp hw4
            replace hB1 := hB1.ext hw4
            replace hB2 := hB2.ext hw4
            refine then_normal ?_
            refine wp_seq ?_
            refine wp_seq ?_
            refine region_q ?_
            refine q_look (look_move rfl rfl) ?_
            refine q_look (look_eql rfl rfl rfl rfl) ?_
            refine q_look (look_move rfl rfl) ?_
            refine q_look (look_move rfl rfl) ?_
            refine q_lookg rfl rfl rfl (fun hq => look_move rfl rfl) ?_
            refine q_lookg rfl rfl rfl (fun hq => look_fieldAddr Try.underlying48 rfl (fun _ _ => rfl) rfl rfl) ?_
            refine q_lookg rfl rfl rfl (fun hq => look_load1 Try.underlying9 rfl rfl hq (ext_cell (hB2.cell rfl))) ?_
            refine q_callg (vs := [_, _]) rfl rfl rfl enTry_27 (fun hq => ⟨⟨_, rfl, hq⟩, ⟨_, rfl, hq⟩, trivial⟩) (fun hq wc hw => cext hw (has_any dn dA dc p.id wc (hN.ext (hX.comp hw)) hnl)) ?_
            refine q_lookg rfl rfl rfl (fun hq => look_not rfl hq) ?_
            refine q_look (look_and rfl rfl rfl rfl) ?_
            refine q_look (look_neq_bool Try.underlying4 rfl rfl rfl rfl) ?_
            refine q_look (look_move rfl rfl) ?_
            refine q_lookg rfl rfl rfl (fun hq => look_move rfl rfl) ?_
            refine q_lookg rfl rfl rfl (fun hq => look_eql rfl hq rfl rfl) ?_
            refine q_lookg rfl rfl rfl (fun hq => look_move rfl rfl) ?_
            refine q_lookg rfl rfl rfl (fun hq => look_fieldAddr Try.underlying48 rfl (fun _ _ => rfl) rfl rfl) ?_
            refine q_lookg rfl rfl rfl (fun hq => look_load1 Try.underlying9 rfl rfl hq (ext_cell (hB2.cell rfl))) ?_
            refine q_callg (vs := [_, _]) rfl rfl rfl enTry_27 (fun hq => ⟨⟨_, rfl, hq⟩, ⟨_, rfl, hq⟩, trivial⟩) (fun hq wc hw => cext hw (has_any dn dA dc p.id wc (hN.ext (hX.comp hw)) hnl)) ?_
            refine q_lookg rfl rfl rfl (fun hq => look_neq_bool Try.underlying4 rfl hq rfl hq) ?_
            refine q_look (look_or rfl rfl rfl rfl) ?_
            refine q_nil ?_
            intro w5 hw5
            replace hX := hX.comp hw5
            replace hB1 := hB1.ext hw5
            replace hB2 := hB2.ext hw5
            refine then_normal ?_
            refine cond_split rfl (fun hc73 => ?_) (fun hc73 => ?_)
            · skip
              refine wp_seq ?_
              refine region_s ?_
              refine q_look (look_assign rfl rfl) ?_
              refine q_nil ?_
              rintro _ rfl
              refine then_normal ?_
              refine wp_ret ?_
              refine then_ret ?_
              refine inB_ret ?_
              refine then_ret ?_
              refine then_ret ?_
              refine inB_ret ?_
              refine then_ret ?_
              rw [ready_e1 hS0.1 hp, ready_e2 hS0.1 hp] at hc73
              exact absurd hc73 (by simp)
            · skip
              refine wp_skip ?_
              refine then_normal ?_
              refine wp_seq ?_
              refine region_h (fun W => Ext w W ∧ Blk W g1 28 ([h, nd, pt, sm, .slice (some ⟨b1, o1, none⟩) ps.length pc, ne]) ∧ Blk W g2 48 (pcell p)) [(0, true), (1, true), (2, true), (3, true), (5, true), (6, true), (4, false), (7, false)] mixed (by kernel_rfl) rfl (by kernel_rfl) (by repeat (first | exact pk_body | refine pk_then ?_ | refine pk_block ?_))  ?_
              intro u4 hR4
              replace hX := hX.comp hR4
              replace hB1 := hB1.ext hR4
              replace hB2 := hB2.ext hR4
              refine ⟨⟨hX, hB1, hB2⟩, ?_⟩
              refine h_look rfl (look_loadN Try.underlying28 rfl szTry_28 rfl rfl rfl (fun w' hS j v hv => by rw [Nat.zero_add]; exact (hS.2.1).cell hv)) ?_
              refine h_look rfl (look_move rfl rfl) ?_
              refine h_look rfl (look_fieldAddr Try.underlying48 rfl (fun _ _ => rfl) rfl rfl) ?_
              refine h_look rfl (look_load1 Try.underlying9 rfl rfl rfl (fun w' hS => (hS.2.2).cell rfl)) ?_
              refine h_look rfl (look_fieldAddr Try.underlying48 rfl (fun _ _ => rfl) rfl rfl) ?_
              refine h_look rfl (look_load1 Try.underlying9 rfl rfl rfl (fun w' hS => (hS.2.2).cell rfl)) ?_
              refine h_seq rfl ?_ ⟨hX, hB1, hB2⟩
              refine s_call (vs := [_, _, _]) enTry_20 ⟨⟨_, rfl, rfl⟩, ⟨_, rfl, rfl⟩, ⟨_, rfl, rfl⟩, trivial⟩ (miss_any h nd pt sm (some ⟨b1, o1, none⟩) ps pc ne dn dA dc p.id _ (hD.ext hX) (hN.ext hX) hnl hps) ?_
              rintro _ u5 ⟨v5, rfl, hc5, hM⟩
              refine ⟨_, rfl, ?_⟩
              have ne_hM_g1 : Value.ownBlock v5 ≠ some g1 := hM.ne_old hB1.lt
              have ne_hM_g2 : Value.ownBlock v5 ≠ some g2 := hM.ne_old hB2.lt
              replace hM := hM.weak hX.size
              replace hX := hX.comp hc5
              replace hB1 := hB1.ext hc5
              replace hB2 := hB2.ext hc5
              obtain ⟨A1, c1, rfl, hS_hM, hl_hM, hm_hM, _⟩ := hM.sl hce_s
              refine s_nil ?_
              refine then_normal ?_
              refine ⟨⟨hX, hB1, hB2⟩, ?_⟩
              refine h_seq rfl ?_ ⟨hX, hB1, hB2⟩
              refine s_call (vs := [_, _]) enTry_27 ⟨⟨_, rfl, rfl⟩, ⟨_, rfl, rfl⟩, trivial⟩ (has_any (missP dn p.id ps) A1 c1 p.id _ (hM.slOf hce_s).1 (Nat.le_trans hl_hM hm_hM)) ?_
              rintro _ u6 ⟨rfl, hc6⟩
              refine ⟨_, rfl, ?_⟩
              replace hX := hX.comp hc6
              replace hB1 := hB1.ext hc6
              replace hB2 := hB2.ext hc6
              replace hM := hM.ext hc6
              refine s_nil ?_
              refine then_normal ?_
              refine ⟨⟨hX, hB1, hB2⟩, ?_⟩
              refine h_nil ?_
              refine then_normal ?_
              refine cond_split rfl (fun hc81 => ?_) (fun hc81 => ?_)
              · simp only [Bool.and_eq_true, Bool.or_eq_true, Bool.not_eq_true', decide_eq_true_eq, decide_eq_false_iff_not] at hc81
                refine wp_seq ?_
                refine region_s ?_
                refine q_look (look_assign rfl rfl) ?_
                refine q_nil ?_
                rintro _ rfl
                refine then_normal ?_
                refine wp_ret ?_
                refine inB_ret ?_
                refine then_ret ?_
                refine then_ret ?_
                refine inB_ret ?_
                refine then_ret ?_
                exact absurd hc81 (miss_self hS0.1 hp)
              · simp only [Bool.and_eq_true, Bool.or_eq_true, Bool.not_eq_true', decide_eq_true_eq, decide_eq_false_iff_not] at hc81
                refine wp_skip ?_
                refine inB_normal ?_
                refine then_normal ?_
                refine region_s ?_
                refine q_look (look_move rfl rfl) ?_
                refine q_look (look_add rfl rfl rfl rfl (by have := hD.len; have := hpo.2.1; have := maxLen_is; unfold I64; omega)) ?_
                refine q_look (look_assign rfl rfl) ?_
                refine q_nil ?_
                rintro _ rfl
                exact loop_end (k + 1) (by omega) ⟨rfl, rfl, rfl, trivial⟩ ⟨hX, hB1, by omega⟩
      · skip
        refine wp_exit ?_
        refine then_exit ?_
        refine then_exit ?_
        refine inB_exit_same ?_
        refine then_normal ?_
        refine wp_seq ?_
        refine region_q ?_
        refine q_call (vs := []) enTry_11 trivial (fun wc hw => cext hw (awake_any wc)) ?_
        refine q_look (look_assign rfl rfl) ?_
        refine q_nil ?_
        intro w6 hw6
        replace hX := hX.comp hw6
        replace hB1 := hB1.ext hw6
        refine then_normal ?_
        refine wp_ret ?_
        exact res1 Try.results9 rfl ⟨rfl, hX⟩

theorem does_law (h nd pt sm : Value) (pA : Option Addr) (ps : List Pk) (pc : Nat) (ne : Value) (bk : ByteArray) (w : World) (hD : DOk w pA ps) :
    Calls Try.prog 6 #[.agg #[h, nd, pt, sm, .slice pA ps.length pc, ne], .string bk] w fun e w' => e = .returned (.bool (true)) ∧ Ext w w' := by
  refine calls_act Try.func6 rfl Try.ntmps6 rfl rfl ?_
  show Code.wp _ _ _ (act 100 [(0, true, .agg #[h, nd, pt, sm, .slice pA ps.length pc, ne]), (1, true, .string bk)] _) _
  have hX : Ext w w := Ext.rfl' w
  refine wp_seq ?_
  refine wp_region_lit ?_
  refine s_box rfl ?_
  intro g1 u1 hu1 hB1 hg1 hs1
  replace hB1 : Blk u1 g1 28 ([h, nd, pt, sm, .slice pA ps.length pc, ne]) := hB1
  have ge_g1 : w.heap.size ≤ g1 := by have := hX.size; omega
  replace hX := hX.comp hu1
  refine s_look (look_assign rfl rfl) ?_
  refine s_nil ?_
  refine then_normal ?_
  refine wp_seq ?_
  refine wp_seq ?_
  refine region_q ?_
  refine q_look (look_loadN Try.underlying28 rfl szTry_28 rfl rfl rfl (ext_cell_n hB1)) ?_
  refine q_call (vs := [_, _]) enTry_10 ⟨⟨_, rfl, rfl⟩, ⟨_, rfl, rfl⟩, trivial⟩ (fun wc hw => cext hw (few_any h nd pt sm pA ps pc ne [] none 0 wc (hD.ext (hX.comp hw)) (show 0 ≤ maxLen by decide))) ?_
  refine q_look (look_not rfl rfl) ?_
  refine q_look (look_move rfl rfl) ?_
  refine q_lookg rfl rfl rfl (fun hq => look_loadN Try.underlying28 rfl szTry_28 rfl rfl rfl (ext_cell_n hB1)) ?_
  refine q_callg (vs := [_]) rfl rfl rfl enTry_26 (fun hq => ⟨⟨_, rfl, hq⟩, trivial⟩) (fun hq wc hw => cext hw (sound_any h nd pt sm pA ps pc ne wc (hD.ext (hX.comp hw)) (by have hF : fewP ps [] = true := (by simpa [gq] using hq); have := (few_spec hF).1; omega))) ?_
  refine q_lookg rfl rfl rfl (fun hq => look_not rfl hq) ?_
  refine q_look (look_or rfl rfl rfl rfl) ?_
  refine q_nil ?_
  intro w1 hw1
  replace hX := hX.comp hw1
  replace hB1 := hB1.ext hw1
  refine then_normal ?_
  refine cond_split rfl (fun hc16 => ?_) (fun hc16 => ?_)
  · skip
    refine wp_seq ?_
    refine region_q ?_
    refine q_call (vs := []) enTry_11 trivial (fun wc hw => cext hw (awake_any wc)) ?_
    refine q_look (look_assign rfl rfl) ?_
    refine q_nil ?_
    intro w2 hw2
    replace hX := hX.comp hw2
    replace hB1 := hB1.ext hw2
    refine then_normal ?_
    refine wp_ret ?_
    refine then_ret ?_
    exact res1 Try.results6 rfl ⟨rfl, hX⟩
  · have hF : fewP ps [] = true := by revert hc16; cases fewP ps [] <;> simp [gq]
    have hS0 : soundP ps := soundB_t.1 (by revert hc16; rw [hF]; cases soundB ps <;> simp [gq])
    obtain ⟨h70, h200, h30⟩ := few_spec hF
    have hps : ps.length ≤ 1000 := by omega
    refine wp_skip ?_
    refine then_normal ?_
    refine wp_seq ?_
    refine wp_region_lit ?_
    refine s_look (look_loadN Try.underlying28 rfl szTry_28 rfl rfl rfl (eqc_n hB1)) ?_
    refine s_call (vs := [_]) enTry_12 ⟨⟨_, rfl, rfl⟩, trivial⟩ (order_any h nd pt sm pA ps pc ne _ (hD.ext hX) hps) ?_
    rintro _ u2 ⟨v2, rfl, hc2, hL⟩
    refine ⟨_, rfl, ?_⟩
    have ne_hL_g1 : Value.ownBlock v2 ≠ some g1 := hL.ne_old hB1.lt
    replace hL := hL.weak hX.size
    replace hX := hX.comp hc2
    replace hB1 := hB1.ext hc2
    obtain ⟨A1, c1, rfl, hS_hL, hl_hL, hm_hL, _⟩ := hL.sl hce_s
    refine s_look (look_move rfl rfl) ?_
    refine s_look (look_extract rfl rfl rfl) ?_
    refine s_look (look_extract rfl rfl rfl) ?_
    refine s_look (look_assign rfl rfl) ?_
    refine s_look (look_assign rfl rfl) ?_
    refine s_nil ?_
    refine then_normal ?_
    refine wp_seq ?_
    refine wp_seq ?_
    refine region_s ?_
    refine q_look (look_move rfl rfl) ?_
    refine q_look (look_neq rfl rfl rfl rfl) ?_
    refine q_nil ?_
    rintro _ rfl
    refine then_normal ?_
    refine cond_split rfl (fun hc24 => ?_) (fun hc24 => ?_)
    · have h0 : ¬ oErr ps = 0 := nd_t hc24
      refine wp_seq ?_
      rcases (oErr_cases ps).resolve_left h0 with he | ⟨he, h64⟩
      · rw [he]
        refine region_q ?_
        refine q_look (look_move rfl rfl) ?_
        refine q_look (look_len_slice Try.underlying31 rfl rfl) ?_
        refine q_look (Look.as (look_eql rfl rfl rfl rfl) (v' := .bool true) (by rw [ordS_err h0]; rfl)) ?_
        refine q_look (look_move rfl rfl) ?_
        refine q_lookg rfl rfl rfl (fun hq => look_move rfl rfl) ?_
        refine q_lookg rfl rfl rfl (fun hq => look_eql rfl hq rfl rfl) ?_
        refine q_lookg rfl rfl rfl (fun hq => look_move rfl hq) ?_
        refine q_lookg rfl rfl rfl (fun hq => look_move rfl rfl) ?_
        refine q_lookg rfl rfl rfl (fun hq => look_eql rfl hq rfl rfl) ?_
        refine q_lookg rfl rfl rfl (fun hq => look_move rfl hq) ?_
        refine q_lookg rfl rfl rfl (fun hq => look_fieldAddr Try.underlying28 rfl (fun _ _ => rfl) rfl rfl) ?_
        refine q_lookg rfl rfl rfl (fun hq => look_load1 Try.underlying25 rfl rfl hq (ext_cell (hB1.cell rfl))) ?_
        refine q_lookg rfl rfl rfl (fun hq => look_len_slice Try.underlying25 rfl hq) ?_
        refine q_lookg rfl rfl rfl (fun hq => look_gtr rfl hq rfl rfl) ?_
        refine q_lookg rfl rfl rfl (fun hq => look_and rfl hq rfl hq) ?_
        refine q_lookg rfl rfl rfl (fun hq => look_or rfl hq rfl hq) ?_
        refine q_look (look_and rfl rfl rfl rfl) ?_
        refine q_look (look_move rfl rfl) ?_
        refine q_callg (vs := []) rfl rfl rfl enTry_11 (fun hq => trivial) (fun hq wc hw => cext hw (awake_any wc)) ?_
        refine q_look (look_and rfl rfl rfl rfl) ?_
        refine q_look (look_assign rfl rfl) ?_
        refine q_nil ?_
        intro w3 hw3
        replace hX := hX.comp hw3
        replace hB1 := hB1.ext hw3
        replace hL := hL.ext hw3
        refine then_normal ?_
        refine wp_ret ?_
        refine then_ret ?_
        exact res1 Try.results6 rfl ⟨ret_bool rfl, hX⟩
      · rw [he]
        refine region_q ?_
        refine q_look (look_move rfl rfl) ?_
        refine q_look (look_len_slice Try.underlying31 rfl rfl) ?_
        refine q_look (Look.as (look_eql rfl rfl rfl rfl) (v' := .bool true) (by rw [ordS_err h0]; rfl)) ?_
        refine q_look (look_move rfl rfl) ?_
        refine q_lookg rfl rfl rfl (fun hq => look_move rfl rfl) ?_
        refine q_lookg rfl rfl rfl (fun hq => look_eql rfl hq rfl rfl) ?_
        refine q_lookg rfl rfl rfl (fun hq => look_move rfl hq) ?_
        refine q_lookg rfl rfl rfl (fun hq => look_move rfl rfl) ?_
        refine q_lookg rfl rfl rfl (fun hq => look_eql rfl hq rfl rfl) ?_
        refine q_lookg rfl rfl rfl (fun hq => look_move rfl hq) ?_
        refine q_lookg rfl rfl rfl (fun hq => look_fieldAddr Try.underlying28 rfl (fun _ _ => rfl) rfl rfl) ?_
        refine q_lookg rfl rfl rfl (fun hq => look_load1 Try.underlying25 rfl rfl hq (ext_cell (hB1.cell rfl))) ?_
        refine q_lookg rfl rfl rfl (fun hq => look_len_slice Try.underlying25 rfl hq) ?_
        refine q_lookg rfl rfl rfl (fun hq => Look.as (look_gtr rfl hq rfl rfl) (v' := .bool true) (by rw [decide_eq_true (show (64 : Int) < (ps.length : Int) by omega)])) ?_
        refine q_lookg rfl rfl rfl (fun hq => look_and rfl hq rfl hq) ?_
        refine q_lookg rfl rfl rfl (fun hq => look_or rfl hq rfl hq) ?_
        refine q_look (look_and rfl rfl rfl rfl) ?_
        refine q_look (look_move rfl rfl) ?_
        refine q_callg (vs := []) rfl rfl rfl enTry_11 (fun hq => trivial) (fun hq wc hw => cext hw (awake_any wc)) ?_
        refine q_look (look_and rfl rfl rfl rfl) ?_
        refine q_look (look_assign rfl rfl) ?_
        refine q_nil ?_
        intro w4 hw4
        replace hX := hX.comp hw4
        replace hB1 := hB1.ext hw4
        replace hL := hL.ext hw4
        refine then_normal ?_
        refine wp_ret ?_
        refine then_ret ?_
        exact res1 Try.results6 rfl ⟨ret_bool rfl, hX⟩
    · have h0 : oErr ps = 0 := nd_f hc24
      refine wp_skip ?_
      refine then_normal ?_
      refine wp_seq ?_
      refine region_s ?_
      refine q_look (look_assign rfl rfl) ?_
      refine q_nil ?_
      rintro _ rfl
      refine then_normal ?_
      refine wp_seq ?_
      refine wp_seq ?_
      refine region_s ?_
      refine q_look (look_assign rfl rfl) ?_
      refine q_nil ?_
      rintro _ rfl
      have hO := Own.nil scell 9 1 w.heap.size w
      refine then_normal ?_
      refine wp_block ?_
      refine loop_act (fun (ls : Nat × Value) => [(1, .string bk), (2, .pointer (some ⟨g1, 0, none⟩)), (5, .slice A1 (ordS ps).length c1), (7, ls.2), (8, .int .i64 (ls.1 : Int))]) (fun ls w' => (Ext w w') ∧ (Blk w' g1 28 [h, nd, pt, sm, .slice pA ps.length pc, ne]) ∧ (Core.Own scell 9 1 w.heap.size w' (.slice A1 (ordS ps).length c1) (ordS ps)) ∧ (Core.Own scell 9 1 w.heap.size w' ls.2 ((ordS ps).take ls.1)) ∧ (Value.ownBlock ls.2 ≠ some g1) ∧ (Dis ls.2 (.slice A1 (ordS ps).length c1)) ∧ (ls.1 ≤ (ordS ps).length)) (fun ls => (ordS ps).length - ls.1) ((0, .slice none 0 0)) ?_ ?_ ?_
      · exact ⟨rfl, rfl, rfl, rfl, rfl, trivial⟩
      · exact ⟨hX, hB1, hL, Own.nil _ _ _ _ _, (by simp [Value.ownBlock]), (fun k hk => by cases hk), Nat.zero_le _⟩
      · rintro ⟨i, ov⟩ σ wr hF
        obtain ⟨hX, hB1, hL, hO, ne_hO_g1, dis_hO_hL, hi⟩ : (Ext w wr) ∧ (Blk wr g1 28 [h, nd, pt, sm, .slice pA ps.length pc, ne]) ∧ (Core.Own scell 9 1 w.heap.size wr (.slice A1 (ordS ps).length c1) (ordS ps)) ∧ (Core.Own scell 9 1 w.heap.size wr ov ((ordS ps).take i)) ∧ (Value.ownBlock ov ≠ some g1) ∧ (Dis ov (.slice A1 (ordS ps).length c1)) ∧ (i ≤ (ordS ps).length) := hF
        show Code.wp _ _ _ (act 100 [(1, true, .string bk), (2, true, .pointer (some ⟨g1, 0, none⟩)), (5, true, .slice A1 (ordS ps).length c1), (7, true, ov), (8, true, .int .i64 (i : Int))] _) _
        refine wp_seq ?_
        refine wp_seq ?_
        refine region_s ?_
        refine q_look (look_move rfl rfl) ?_
        refine q_look (look_move rfl rfl) ?_
        refine q_look (look_len_slice Try.underlying31 rfl rfl) ?_
        refine q_look (look_lss rfl rfl rfl rfl) ?_
        refine q_nil ?_
        rintro _ rfl
        refine then_normal ?_
        refine cond_split rfl (fun hc48 => ?_) (fun hc48 => ?_)
        · have hlt : i < (ordS ps).length := by have := nn_t hc48; omega
          obtain ⟨x, hx⟩ := get_lt hlt
          have hS_hL := (hL.slOf hce_s).1
          obtain ⟨b2, o2, rfl, _⟩ := hS_hL.at_ hlt
          obtain ⟨Ao, co, rfl, hSo, hlo, hmo, _⟩ := hO.sl hce_s
          have htk : ((ordS ps).take i).length = i := by rw [List.length_take]; omega
          have hol := oList_len ps
          rw [← ord_len] at hol
          refine wp_skip ?_
          refine then_normal ?_
          refine wp_seq ?_
          refine wp_block ?_
          refine wp_seq ?_
          refine wp_seq ?_
          refine region_h (fun W => Ext w W ∧ Blk W g1 28 ([h, nd, pt, sm, .slice pA ps.length pc, ne]) ∧ Core.Own scell 9 1 w.heap.size W (.slice (some ⟨b2, o2, none⟩) (ordS ps).length c1) (ordS ps) ∧ Core.Own scell 9 1 w.heap.size W (.slice Ao ((ordS ps).take i).length co) ((ordS ps).take i)) [(0, true), (1, true), (2, true), (3, true), (4, true), (5, true), (6, false), (7, true), (8, true), (9, true), (10, true), (11, true), (12, true), (13, true), (14, true), (15, false), (16, true), (17, true), (18, true)] mixed (by kernel_rfl) rfl (by kernel_rfl) (by repeat (first | exact pk_body | refine pk_then ?_ | refine pk_block ?_))  ?_
          intro u3 hR3
          replace hX := hX.comp hR3
          replace hB1 := hB1.ext hR3
          replace hL := hL.ext hR3
          replace hO := hO.ext hR3
          refine ⟨⟨hX, hB1, hL, hO⟩, ?_⟩
          refine h_look rfl (look_loadN Try.underlying28 rfl szTry_28 rfl rfl rfl (fun w' hS j v hv => by rw [Nat.zero_add]; exact (hS.2.1).cell hv)) ?_
          refine h_look rfl (look_move rfl rfl) ?_
          refine h_look rfl (look_move rfl rfl) ?_
          refine h_look rfl (look_move rfl rfl) ?_
          refine h_look rfl (look_indexAddr _ Try.underlying31 szTry_9 rfl rfl rfl rfl rfl (by omega)) ?_
          refine h_look rfl (look_load1 Try.underlying9 rfl rfl rfl (fun w' hS => (hS.2.2.1.rd hce_s i x hx) 0 _ rfl)) ?_
          refine h_seq rfl ?_ ⟨hX, hB1, hL, hO⟩
          refine s_call (vs := [_, _, _]) enTry_18 ⟨⟨_, rfl, rfl⟩, ⟨_, rfl, rfl⟩, ⟨_, rfl, rfl⟩, trivial⟩ (ready_any h nd pt sm pA ps pc ne ((ordS ps).take i) Ao co x _ (hD.ext hX) (hO.slOf hce_s).1 (Nat.le_trans hlo hmo)) ?_
          rintro _ u4 ⟨rfl, hc4⟩
          refine ⟨_, rfl, ?_⟩
          replace hX := hX.comp hc4
          replace hB1 := hB1.ext hc4
          replace hL := hL.ext hc4
          replace hO := hO.ext hc4
          refine s_nil ?_
          refine then_normal ?_
          refine ⟨⟨hX, hB1, hL, hO⟩, ?_⟩
          refine h_look rfl (Look.as (look_neq rfl rfl rfl rfl) (v' := .bool false) (by rw [done_ready hS0 hx]; rfl)) ?_
          refine h_look rfl (look_move rfl rfl) ?_
          refine h_lookg rfl rfl rfl rfl (fun hq => look_loadN Try.underlying28 rfl szTry_28 rfl rfl rfl (fun w' hS j v hv => by rw [Nat.zero_add]; exact (hS.2.1).cell hv)) ?_
          refine h_lookg rfl rfl rfl rfl (fun hq => look_move rfl rfl) ?_
          refine h_lookg rfl rfl rfl rfl (fun hq => look_move rfl rfl) ?_
          refine h_lookg rfl rfl rfl rfl (fun hq => look_move rfl rfl) ?_
          refine h_lookg rfl rfl rfl rfl (fun hq => look_indexAddr _ Try.underlying31 szTry_9 rfl hq rfl hq rfl (by omega)) ?_
          refine h_lookg rfl rfl rfl rfl (fun hq => look_load1 Try.underlying9 rfl rfl hq (fun w' hS => (hS.2.2.1.rd hce_s i x hx) 0 _ rfl)) ?_
          refine h_seq rfl ?_ ⟨hX, hB1, hL, hO⟩
          refine s_want rfl rfl rfl rfl ?_
          refine s_call (vs := [_, _, _]) enTry_20 ⟨⟨_, rfl, rfl⟩, ⟨_, rfl, rfl⟩, ⟨_, rfl, rfl⟩, trivial⟩ (miss_any h nd pt sm pA ps pc ne ((ordS ps).take i) Ao co x _ (hD.ext hX) (hO.slOf hce_s).1 (Nat.le_trans hlo hmo) hps) ?_
          rintro _ u5 ⟨v5, rfl, hc5, hM⟩
          refine ⟨_, rfl, ?_⟩
          have dis_hL_hM := Own.dis_new hL hM
          have dis_hO_hM := Own.dis_new hO hM
          have ne_hM_g1 : Value.ownBlock v5 ≠ some g1 := hM.ne_old hB1.lt
          replace hM := hM.weak hX.size
          replace hX := hX.comp hc5
          replace hB1 := hB1.ext hc5
          replace hL := hL.ext hc5
          replace hO := hO.ext hc5
          obtain ⟨A3, c3, rfl, hS_hM, hl_hM, hm_hM, _⟩ := hM.sl hce_s
          refine s_nil ?_
          refine then_normal ?_
          refine ⟨⟨hX, hB1, hL, hO⟩, ?_⟩
          refine h_lookg rfl rfl rfl rfl (fun hq => look_len_slice Try.underlying31 rfl hq) ?_
          refine h_lookg rfl rfl rfl rfl (fun hq => Look.as (look_neq rfl hq rfl rfl) (v' := .bool false) (by rw [done_miss hS0 hx]; rfl)) ?_
          refine h_look rfl (look_or rfl rfl rfl rfl) ?_
          refine h_nil ?_
          refine then_normal ?_
          refine cond_false rfl rfl ?_
          refine wp_skip ?_
          refine then_normal ?_
          refine wp_region_lit ?_
          refine s_look (look_move rfl rfl) ?_
          refine s_look (look_move rfl rfl) ?_
          refine s_look (look_move rfl rfl) ?_
          refine s_look (look_indexAddr _ Try.underlying31 szTry_9 rfl rfl rfl rfl rfl (by omega)) ?_
          refine s_look (look_load1 Try.underlying9 rfl rfl rfl (eqc ((hL.rd hce_s i x hx) 0 _ rfl))) ?_
          refine s_buildSlice (parts := [(0, .tmp 74)]) (vs := [(0, _)]) (cells := scell x) Try.underlying31 szTry_9 zeTry_9 rfl rfl ⟨⟨_, rfl, rfl⟩, trivial⟩ rfl (by kernel_rfl) ?_
          intro g6 u6 hu6 hB6 hg6 hs6
          have lt_g1_g6 : g1 < g6 := by have := hB1.lt; omega
          have ne_hL_g6 : (Value.ownBlock (.slice (some ⟨b2, o2, none⟩) (ordS ps).length c1)) ≠ some g6 := hL.ne_new (by omega)
          have ne_hO_g6 : (Value.ownBlock (.slice Ao ((ordS ps).take i).length co)) ≠ some g6 := hO.ne_new (by omega)
          have ne_hM_g6 : (Value.ownBlock (.slice A3 (missP ((ordS ps).take i) x ps).length c3)) ≠ some g6 := hM.ne_new (by omega)
          have ge_g6 : w.heap.size ≤ g6 := by have := hX.size; omega
          replace hX := hX.comp hu6
          replace hB1 := hB1.ext hu6
          replace hL := hL.ext hu6
          replace hO := hO.ext hu6
          replace hM := hM.ext hu6
          have hsz7 := hX.size
          refine s_appendL (ce := scell) (news := [x]) Try.underlying31 zsbTry_9 rfl rfl rfl hO rfl (Blk.src (x := x) rfl (by simp [scell, Value.oneCell']) hB6) (by have := hD.len; simp only [List.length_cons, List.length_nil, htk]; omega) (by simp only [List.length_cons, List.length_nil, htk]; have := hps; omega) (by omega) ?_
          intro v7 u7 hN7 hgr7 hat7
          replace hX := hX.grow hO (Nat.le_refl _) hgr7
          have hn_hB1 := hB1.grown hgr7 ne_hO_g1
          replace ne_hO_g1 := ne_app ne_hO_g1 hB1.lt hat7
          clear hB1
          have hB1 := hn_hB1
          clear hn_hB1
          have hn_hL := hL.grown hgr7 (Dis.ne dis_hO_hL)
          replace dis_hO_hL := Dis.app dis_hO_hL (fun k e => (hL.ge e).2) hat7
          clear hL
          have hL := hn_hL
          clear hn_hL
          have hn_hM := hM.grown hgr7 (Dis.ne dis_hO_hM)
          replace dis_hO_hM := Dis.app dis_hO_hM (fun k e => (hM.ge e).2) hat7
          clear hM
          have hM := hn_hM
          clear hn_hM
          clear hO
          have hO := hN7
          refine s_look (look_assign rfl rfl) ?_
          refine s_nil ?_
          refine inB_normal ?_
          refine then_normal ?_
          refine region_s ?_
          refine q_look (look_move rfl rfl) ?_
          refine q_look (look_add rfl rfl rfl rfl (by have := hD.len; have := maxLen_is; unfold I64; omega)) ?_
          refine q_look (look_assign rfl rfl) ?_
          refine q_nil ?_
          rintro _ rfl
          exact loop_end ((i + 1, v7)) (by simp only []; omega) ⟨rfl, rfl, rfl, rfl, rfl, trivial⟩ ⟨hX, hB1, hL, (hO.as (take_get hx).symm), ne_hO_g1, dis_hO_hL, by show i + 1 ≤ (ordS ps).length; omega⟩
        · obtain rfl : i = (ordS ps).length := by have := nn_f hc48; omega
          rw [List.take_length] at hO
          obtain ⟨Ao, co, rfl, hSo, hlo, hmo, _⟩ := hO.sl hce_s
          have hlz := fun b => left_zero (ordS ps) b ps (ord_ids h0)
          refine wp_exit ?_
          refine then_exit ?_
          refine then_exit ?_
          refine inB_exit_same ?_
          refine then_normal ?_
          refine wp_seq ?_
          refine region_q ?_
          refine q_look (look_move rfl rfl) ?_
          refine q_look (look_len_slice Try.underlying31 rfl rfl) ?_
          refine q_look (look_fieldAddr Try.underlying28 rfl (fun _ _ => rfl) rfl rfl) ?_
          refine q_look (look_load1 Try.underlying25 rfl rfl rfl (ext_cell (hB1.cell rfl))) ?_
          refine q_look (look_len_slice Try.underlying25 rfl rfl) ?_
          refine q_look (Look.as (look_eql rfl rfl rfl rfl) (v' := .bool true) (by rw [ord_len, oList_full h0, decide_eq_true rfl])) ?_
          refine q_look (look_move rfl rfl) ?_
          refine q_lookg rfl rfl rfl (fun hq => look_loadN Try.underlying28 rfl szTry_28 rfl rfl rfl (ext_cell_n hB1)) ?_
          refine q_lookg rfl rfl rfl (fun hq => look_move rfl rfl) ?_
          refine q_lookg rfl rfl rfl (fun hq => look_move rfl rfl) ?_
          refine q_callg (vs := [_, _, _]) rfl rfl rfl enTry_22 (fun hq => ⟨⟨_, rfl, hq⟩, ⟨_, rfl, hq⟩, ⟨_, rfl, hq⟩, trivial⟩) (fun hq wc hw => cext hw (left_any h nd pt sm pA ps pc ne (ordS ps) Ao co bk wc (hD.ext (hX.comp hw)) ((hO.ext hw).slOf hce_s).1 (Nat.le_trans hlo hmo) hps)) ?_
          refine q_lookg rfl rfl rfl (fun hq => Look.as (look_eql rfl hq rfl rfl) (v' := .bool true) (by rw [hlz]; rfl)) ?_
          refine q_look (look_and rfl rfl rfl rfl) ?_
          refine q_look (look_move rfl rfl) ?_
          refine q_lookg rfl rfl rfl (fun hq => look_loadN Try.underlying28 rfl szTry_28 rfl rfl rfl (ext_cell_n hB1)) ?_
          refine q_lookg rfl rfl rfl (fun hq => look_move rfl rfl) ?_
          refine q_lookg rfl rfl rfl (fun hq => look_move rfl rfl) ?_
          refine q_callg (vs := [_, _, _]) rfl rfl rfl enTry_24 (fun hq => ⟨⟨_, rfl, hq⟩, ⟨_, rfl, hq⟩, ⟨_, rfl, hq⟩, trivial⟩) (fun hq wc hw => cext hw (pct_any h nd pt sm pA ps pc ne (ordS ps) Ao co bk wc (hD.ext (hX.comp hw)) ((hO.ext hw).slOf hce_s).1 (Nat.le_trans hlo hmo) hps)) ?_
          refine q_lookg rfl rfl rfl (fun hq => Look.as (look_eql rfl hq rfl rfl) (v' := .bool true) (by rw [pct_full (hlz _)]; rfl)) ?_
          refine q_look (look_and rfl rfl rfl rfl) ?_
          refine q_look (look_move rfl rfl) ?_
          refine q_callg (vs := []) rfl rfl rfl enTry_11 (fun hq => trivial) (fun hq wc hw => cext hw (awake_any wc)) ?_
          refine q_look (look_and rfl rfl rfl rfl) ?_
          refine q_look (look_assign rfl rfl) ?_
          refine q_nil ?_
          intro w5 hw5
          replace hX := hX.comp hw5
          replace hB1 := hB1.ext hw5
          replace hL := hL.ext hw5
          replace hO := hO.ext hw5
          refine then_normal ?_
          refine wp_ret ?_
          exact res1 Try.results6 rfl ⟨ret_bool rfl, hX⟩


theorem met_no {ps : List Pk} {i : Nat} {p : Pk} {si : Int} {met : Bool} (h0 : oErr ps = 0) (hp : ps[i]? = some p) (hsi : (startsP ps).getD i 0 = si) (h : met = false → si ≠ 0 ∧ ∀ (k : Nat) (q : Pk), k < ps.length → ps[k]? = some q → q.id ∈ p.after → si ≠ (startsP ps).getD k 0 + hrs q) : met = true := by
  cases hm : met
  · obtain ⟨h1, h2⟩ := h hm
    rcases starts_met h0 hp with e | ⟨k, q, hq, hx, e⟩
    · exact (h1 (by rw [← hsi]; exact e)).elim
    · exact (h2 k q (List.getElem?_eq_some_iff.1 hq).1 hq hx (by rw [← hsi]; exact e)).elim
  · rfl
def MetP (ps : List Pk) (p : Pk) (si : Int) (k : Nat) (met : Bool) : Prop := met = false → si ≠ 0 ∧ ∀ (k' : Nat) (q : Pk), k' < k → ps[k']? = some q → q.id ∈ p.after → si ≠ (startsP ps).getD k' 0 + hrs q
theorem MetP.zero (ps : List Pk) (p : Pk) (si : Int) : MetP ps p si 0 (decide (si = 0)) := fun h => ⟨of_decide_eq_false h, fun k' q hk => by omega⟩
theorem MetP.skip {ps : List Pk} {p q : Pk} {si : Int} {k : Nat} {met : Bool} (h : MetP ps p si k met) (hq : ps[k]? = some q) (hn : ¬ q.id ∈ p.after) : MetP ps p si (k + 1) met := fun hm => ⟨(h hm).1, fun k' q' hk hq' hx => by
  by_cases e : k' = k
  · subst e; rw [hq] at hq'; cases hq'; exact (hn hx).elim
  · exact (h hm).2 k' q' (by omega) hq' hx⟩
theorem MetP.take {ps : List Pk} {p q : Pk} {si en : Int} {k : Nat} {met : Bool} (h : MetP ps p si k met) (hq : ps[k]? = some q) (he : en = (startsP ps).getD k 0 + hrs q) : MetP ps p si (k + 1) (met || decide (si = en)) := fun hm => by
  obtain ⟨h1, h2⟩ := or_f hm
  refine ⟨(h h1).1, fun k' q' hk hq' hx => ?_⟩
  by_cases e : k' = k
  · subst e; rw [hq] at hq'; cases hq'; rw [← he]; exact of_decide_eq_false h2
  · exact (h h1).2 k' q' (by omega) hq' hx

theorem starts_law (h nd pt sm : Value) (pA : Option Addr) (ps : List Pk) (pc : Nat) (ne : Value) (w : World) (hD : DOk w pA ps) :
    Calls Try.prog 8 #[.agg #[h, nd, pt, sm, .slice pA ps.length pc, ne]] w fun e w' => e = .returned (.bool (true)) ∧ Ext w w' := by
  refine calls_act Try.func8 rfl Try.ntmps8 rfl rfl ?_
  show Code.wp _ _ _ (act 137 [(0, true, .agg #[h, nd, pt, sm, .slice pA ps.length pc, ne])] _) _
  have hX : Ext w w := Ext.rfl' w
  refine wp_seq ?_
  refine wp_region_lit ?_
  refine s_box rfl ?_
  intro g1 u1 hu1 hB1 hg1 hs1
  replace hB1 : Blk u1 g1 28 ([h, nd, pt, sm, .slice pA ps.length pc, ne]) := hB1
  have ge_g1 : w.heap.size ≤ g1 := by have := hX.size; omega
  replace hX := hX.comp hu1
  refine s_look (look_assign rfl rfl) ?_
  refine s_nil ?_
  refine then_normal ?_
  refine wp_seq ?_
  refine wp_seq ?_
  refine region_q ?_
  refine q_look (look_loadN Try.underlying28 rfl szTry_28 rfl rfl rfl (ext_cell_n hB1)) ?_
  refine q_call (vs := [_, _]) enTry_10 ⟨⟨_, rfl, rfl⟩, ⟨_, rfl, rfl⟩, trivial⟩ (fun wc hw => cext hw (few_any h nd pt sm pA ps pc ne [] none 0 wc (hD.ext (hX.comp hw)) (show 0 ≤ maxLen by decide))) ?_
  refine q_look (look_not rfl rfl) ?_
  refine q_look (look_move rfl rfl) ?_
  refine q_lookg rfl rfl rfl (fun hq => look_loadN Try.underlying28 rfl szTry_28 rfl rfl rfl (ext_cell_n hB1)) ?_
  refine q_callg (vs := [_]) rfl rfl rfl enTry_26 (fun hq => ⟨⟨_, rfl, hq⟩, trivial⟩) (fun hq wc hw => cext hw (sound_any h nd pt sm pA ps pc ne wc (hD.ext (hX.comp hw)) (by have hF : fewP ps [] = true := (by simpa [gq] using hq); have := (few_spec hF).1; omega))) ?_
  refine q_lookg rfl rfl rfl (fun hq => look_not rfl hq) ?_
  refine q_look (look_or rfl rfl rfl rfl) ?_
  refine q_nil ?_
  intro w1 hw1
  replace hX := hX.comp hw1
  replace hB1 := hB1.ext hw1
  refine then_normal ?_
  refine cond_split rfl (fun hc18 => ?_) (fun hc18 => ?_)
  · skip
    refine wp_seq ?_
    refine region_q ?_
    refine q_call (vs := []) enTry_11 trivial (fun wc hw => cext hw (awake_any wc)) ?_
    refine q_look (look_assign rfl rfl) ?_
    refine q_nil ?_
    intro w2 hw2
    replace hX := hX.comp hw2
    replace hB1 := hB1.ext hw2
    refine then_normal ?_
    refine wp_ret ?_
    refine then_ret ?_
    exact res1 Try.results8 rfl ⟨rfl, hX⟩
  · have hF : fewP ps [] = true := by revert hc18; cases fewP ps [] <;> simp [gq]
    have hS0 : soundP ps := soundB_t.1 (by revert hc18; rw [hF]; cases soundB ps <;> simp [gq])
    obtain ⟨h70, h200, h30⟩ := few_spec hF
    have hps : ps.length ≤ 1000 := by omega
    refine wp_skip ?_
    refine then_normal ?_
    refine wp_seq ?_
    refine wp_region_lit ?_
    refine s_look (look_loadN Try.underlying28 rfl szTry_28 rfl rfl rfl (eqc_n hB1)) ?_
    refine s_call (vs := [_]) enTry_14 ⟨⟨_, rfl, rfl⟩, trivial⟩ (starts_any h nd pt sm pA ps pc ne _ (hD.ext hX) hps h30) ?_
    rintro _ u2 ⟨v2, rfl, hc2, hS⟩
    refine ⟨_, rfl, ?_⟩
    have ne_hS_g1 : Value.ownBlock v2 ≠ some g1 := hS.ne_old hB1.lt
    replace hS := hS.weak hX.size
    replace hX := hX.comp hc2
    replace hB1 := hB1.ext hc2
    obtain ⟨A1, c1, rfl, hS_hS, hl_hS, hm_hS, _⟩ := hS.sl hce_i
    refine s_look (look_move rfl rfl) ?_
    refine s_look (look_extract rfl rfl rfl) ?_
    refine s_look (look_extract rfl rfl rfl) ?_
    refine s_look (look_assign rfl rfl) ?_
    refine s_look (look_assign rfl rfl) ?_
    refine s_nil ?_
    refine then_normal ?_
    refine wp_seq ?_
    refine wp_region_lit ?_
    refine s_look (look_loadN Try.underlying28 rfl szTry_28 rfl rfl rfl (eqc_n hB1)) ?_
    refine s_call (vs := [_]) enTry_12 ⟨⟨_, rfl, rfl⟩, trivial⟩ (order_any h nd pt sm pA ps pc ne _ (hD.ext hX) hps) ?_
    rintro _ u3 ⟨v3, rfl, hc3, hO⟩
    refine ⟨_, rfl, ?_⟩
    have dis_hS_hO := Own.dis_new hS hO
    have ne_hO_g1 : Value.ownBlock v3 ≠ some g1 := hO.ne_old hB1.lt
    replace hO := hO.weak hX.size
    replace hX := hX.comp hc3
    replace hB1 := hB1.ext hc3
    replace hS := hS.ext hc3
    refine s_look (look_move rfl rfl) ?_
    refine s_look (look_extract rfl rfl rfl) ?_
    refine s_look (look_extract rfl rfl rfl) ?_
    refine s_look (look_assign rfl rfl) ?_
    refine s_look (look_assign rfl rfl) ?_
    refine s_nil ?_
    clear hO
    refine then_normal ?_
    refine wp_seq ?_
    refine wp_seq ?_
    refine region_s ?_
    refine q_look (look_move rfl rfl) ?_
    refine q_look (look_neq rfl rfl rfl rfl) ?_
    refine q_nil ?_
    rintro _ rfl
    refine then_normal ?_
    refine cond_split rfl (fun hc31 => ?_) (fun hc31 => ?_)
    · have h0 : ¬ oErr ps = 0 := nd_t hc31
      refine wp_seq ?_
      refine region_q ?_
      refine q_look (look_move rfl rfl) ?_
      refine q_look (look_move rfl rfl) ?_
      refine q_look (Look.as (look_eql rfl rfl rfl rfl) (v' := .bool true) (by rw [decide_eq_true rfl])) ?_
      refine q_look (look_move rfl rfl) ?_
      refine q_lookg rfl rfl rfl (fun hq => look_move rfl rfl) ?_
      refine q_lookg rfl rfl rfl (fun hq => look_len_slice Try.underlying35 rfl hq) ?_
      refine q_lookg rfl rfl rfl (fun hq => Look.as (look_eql rfl hq rfl rfl) (v' := .bool true) (by rw [starts_err h0]; rfl)) ?_
      refine q_look (look_and rfl rfl rfl rfl) ?_
      refine q_look (look_move rfl rfl) ?_
      refine q_callg (vs := []) rfl rfl rfl enTry_11 (fun hq => trivial) (fun hq wc hw => cext hw (awake_any wc)) ?_
      refine q_look (look_and rfl rfl rfl rfl) ?_
      refine q_look (look_assign rfl rfl) ?_
      refine q_nil ?_
      intro w3 hw3
      replace hX := hX.comp hw3
      replace hB1 := hB1.ext hw3
      replace hS := hS.ext hw3
      refine then_normal ?_
      refine wp_ret ?_
      refine then_ret ?_
      exact res1 Try.results8 rfl ⟨ret_bool rfl, hX⟩
    · have h0 : oErr ps = 0 := nd_f hc31
      have hsl := starts_len h0
      refine wp_skip ?_
      refine then_normal ?_
      refine wp_seq ?_
      refine wp_seq ?_
      refine region_s ?_
      refine q_look (look_move rfl rfl) ?_
      refine q_look (Look.as (look_neq rfl rfl rfl rfl) (v' := .bool false) (by rw [h0]; rfl)) ?_
      refine q_look (look_move rfl rfl) ?_
      refine q_lookg rfl rfl rfl (fun hq => look_move rfl rfl) ?_
      refine q_lookg rfl rfl rfl (fun hq => look_len_slice Try.underlying35 rfl hq) ?_
      refine q_lookg rfl rfl rfl (fun hq => look_fieldAddr Try.underlying28 rfl (fun _ _ => rfl) rfl rfl) ?_
      refine q_lookg rfl rfl rfl (fun hq => look_load1 Try.underlying25 rfl rfl hq (eqc (hB1.cell rfl))) ?_
      refine q_lookg rfl rfl rfl (fun hq => look_len_slice Try.underlying25 rfl hq) ?_
      refine q_lookg rfl rfl rfl (fun hq => Look.as (look_neq rfl hq rfl hq) (v' := .bool false) (by rw [hsl]; simp)) ?_
      refine q_look (look_or rfl rfl rfl rfl) ?_
      refine q_nil ?_
      rintro _ rfl
      refine then_normal ?_
      refine cond_false rfl rfl ?_
      refine wp_skip ?_
      refine then_normal ?_
      refine wp_seq ?_
      refine wp_seq ?_
      refine region_s ?_
      refine q_look (look_assign rfl rfl) ?_
      refine q_nil ?_
      rintro _ rfl
      refine then_normal ?_
      refine wp_block ?_
      refine loop_act (fun (i : Nat) => [(1, .pointer (some ⟨g1, 0, none⟩)), (3, .slice A1 (startsP ps).length c1), (7, .int .i64 (i : Int))]) (fun i w' => (Ext w w') ∧ (Blk w' g1 28 [h, nd, pt, sm, .slice pA ps.length pc, ne]) ∧ (Core.Own icell 3 1 w.heap.size w' (.slice A1 (startsP ps).length c1) (startsP ps)) ∧ (i ≤ ps.length)) (fun i => ps.length - i) (0) ?_ ?_ ?_
      · exact ⟨rfl, rfl, rfl, trivial⟩
      · exact ⟨hX, hB1, hS, Nat.zero_le _⟩
      · rintro i σ wr hF
        obtain ⟨hX, hB1, hS, hi⟩ : (Ext w wr) ∧ (Blk wr g1 28 [h, nd, pt, sm, .slice pA ps.length pc, ne]) ∧ (Core.Own icell 3 1 w.heap.size wr (.slice A1 (startsP ps).length c1) (startsP ps)) ∧ (i ≤ ps.length) := hF
        show Code.wp _ _ _ (act 137 [(1, true, .pointer (some ⟨g1, 0, none⟩)), (3, true, .slice A1 (startsP ps).length c1), (7, true, .int .i64 (i : Int))] _) _
        refine wp_seq ?_
        refine wp_seq ?_
        refine region_s ?_
        refine q_look (look_move rfl rfl) ?_
        refine q_look (look_move rfl rfl) ?_
        refine q_look (look_len_slice Try.underlying35 rfl rfl) ?_
        refine q_look (look_lss rfl rfl rfl rfl) ?_
        refine q_nil ?_
        rintro _ rfl
        refine then_normal ?_
        refine cond_split rfl (fun hc56 => ?_) (fun hc56 => ?_)
        · have hlt : i < (startsP ps).length := by have := nn_t hc56; omega
          obtain ⟨si, hsi⟩ := get_lt hlt
          have gsi := getD_of (d := (0 : Int)) hsi
          have hS_hS := (hS.slOf hce_i).1
          obtain ⟨b2, o2, rfl, _⟩ := hS_hS.at_ hlt
          rw [hsl] at hlt
          obtain ⟨p, hp⟩ := get_lt hlt
          obtain ⟨b1, o1, rfl, _⟩ := (hD.sl.ext hX).at_ hlt
          have hpo := hD.ok p (mem_get hp)
          have hbi := starts_bd h30 h70 i
          rw [gsi] at hbi
          refine wp_skip ?_
          refine then_normal ?_
          refine wp_seq ?_
          refine wp_block ?_
          refine wp_seq ?_
          refine region_s ?_
          refine q_look (look_move rfl rfl) ?_
          refine q_look (look_move rfl rfl) ?_
          refine q_look (look_indexAddr _ Try.underlying35 szTry_3 rfl rfl rfl rfl rfl (by omega)) ?_
          refine q_look (look_load1 Try.underlying3 rfl rfl rfl (eqc ((hS.rd hce_i i si hsi) 0 _ rfl))) ?_
          refine q_look (look_eql rfl rfl rfl rfl) ?_
          refine q_look (look_assign rfl rfl) ?_
          refine q_nil ?_
          rintro _ rfl
          refine then_normal ?_
          refine wp_seq ?_
          refine wp_seq ?_
          refine region_s ?_
          refine q_look (look_assign rfl rfl) ?_
          refine q_nil ?_
          rintro _ rfl
          refine then_normal ?_
          refine wp_block ?_
          refine loop_act (fun (ls : Nat × Bool) => [(1, .pointer (some ⟨g1, 0, none⟩)), (3, .slice (some ⟨b2, o2, none⟩) (startsP ps).length c1), (7, .int .i64 (i : Int)), (8, .bool ls.2), (9, .int .i64 (ls.1 : Int))]) (fun ls w' => (Ext w w') ∧ (Blk w' g1 28 [h, nd, pt, sm, .slice (some ⟨b1, o1, none⟩) ps.length pc, ne]) ∧ (Core.Own icell 3 1 w.heap.size w' (.slice (some ⟨b2, o2, none⟩) (startsP ps).length c1) (startsP ps)) ∧ (ls.1 ≤ ps.length) ∧ (MetP ps p si ls.1 ls.2)) (fun ls => ps.length - ls.1) ((0, decide (si = 0))) ?_ ?_ ?_
          · exact ⟨rfl, rfl, rfl, rfl, rfl, trivial⟩
          · exact ⟨hX, hB1, hS, Nat.zero_le _, MetP.zero ps p si⟩
          · rintro ⟨k, met⟩ σ wr hF
            obtain ⟨hX, hB1, hS, hk, hmet⟩ : (Ext w wr) ∧ (Blk wr g1 28 [h, nd, pt, sm, .slice (some ⟨b1, o1, none⟩) ps.length pc, ne]) ∧ (Core.Own icell 3 1 w.heap.size wr (.slice (some ⟨b2, o2, none⟩) (startsP ps).length c1) (startsP ps)) ∧ (k ≤ ps.length) ∧ (MetP ps p si k met) := hF
            show Code.wp _ _ _ (act 137 [(1, true, .pointer (some ⟨g1, 0, none⟩)), (3, true, .slice (some ⟨b2, o2, none⟩) (startsP ps).length c1), (7, true, .int .i64 (i : Int)), (8, true, .bool met), (9, true, .int .i64 (k : Int))] _) _
            refine wp_seq ?_
            refine wp_seq ?_
            refine region_s ?_
            refine q_look (look_move rfl rfl) ?_
            refine q_look (look_move rfl rfl) ?_
            refine q_look (look_len_slice Try.underlying35 rfl rfl) ?_
            refine q_look (look_lss rfl rfl rfl rfl) ?_
            refine q_nil ?_
            rintro _ rfl
            refine then_normal ?_
            refine cond_split rfl (fun hc67 => ?_) (fun hc67 => ?_)
            · have hlk : k < (startsP ps).length := by have := nn_t hc67; omega
              obtain ⟨sk, hsk⟩ := get_lt hlk
              have gsk := getD_of (d := (0 : Int)) hsk
              rw [hsl] at hlk
              obtain ⟨q, hqk⟩ := get_lt hlk
              have hbk := starts_bd h30 h70 k
              rw [gsk] at hbk
              refine wp_skip ?_
              refine then_normal ?_
              refine wp_seq ?_
              refine wp_block ?_
              refine wp_seq ?_
              refine wp_seq ?_
              refine region_qd mixed (by kernel_rfl) ?_
              refine q_look (look_fieldAddr Try.underlying28 rfl (fun _ _ => rfl) rfl rfl) ?_
              refine q_look (look_load1 Try.underlying25 rfl rfl rfl (ext_cell (hB1.cell rfl))) ?_
              refine q_look (look_move rfl rfl) ?_
              refine q_look (look_indexAddr _ Try.underlying25 szTry_48 rfl rfl rfl rfl rfl (by omega)) ?_
              refine q_look (look_fieldAddr Try.underlying48 rfl (fun _ _ => rfl) rfl rfl) ?_
              refine q_look (look_load1 Try.underlying31 rfl rfl rfl (ext_cell (((hD.sl.ext hX).rd i p hp) _ _ rfl))) ?_
              refine q_look (look_fieldAddr Try.underlying28 rfl (fun _ _ => rfl) rfl rfl) ?_
              refine q_look (look_load1 Try.underlying25 rfl rfl rfl (ext_cell (hB1.cell rfl))) ?_
              refine q_look (look_move rfl rfl) ?_
              refine q_look (look_indexAddr _ Try.underlying25 szTry_48 rfl rfl rfl rfl rfl (by omega)) ?_
              refine q_look (look_fieldAddr Try.underlying48 rfl (fun _ _ => rfl) rfl rfl) ?_
              refine q_look (look_load1 Try.underlying9 rfl rfl rfl (ext_cell (((hD.sl.ext hX).rd k q hqk) _ _ rfl))) ?_
              refine q_call (vs := [_, _]) enTry_27 ⟨⟨_, rfl, rfl⟩, ⟨_, rfl, rfl⟩, trivial⟩ (fun wc hw => cext hw (has_any p.after p.A p.cap q.id wc (hpo.1.ext (hX.comp hw)) hpo.2.1)) ?_
              refine q_look (look_not rfl rfl) ?_
              refine q_nil ?_
              intro w4 hw4
              replace hX := hX.comp hw4
              replace hB1 := hB1.ext hw4
              replace hS := hS.ext hw4
              refine then_normal ?_
              refine cond_split rfl (fun hc83 => ?_) (fun hc83 => ?_)
              · have hin : ¬ q.id ∈ p.after := nd_t hc83
                refine wp_exit ?_
                refine then_exit ?_
                refine inB_exit_same ?_
                refine then_normal ?_
                refine region_s ?_
                refine q_look (look_move rfl rfl) ?_
                refine q_look (look_add rfl rfl rfl rfl (by have := hD.len; have := maxLen_is; unfold I64; omega)) ?_
                refine q_look (look_assign rfl rfl) ?_
                refine q_nil ?_
                rintro _ rfl
                exact loop_end ((k + 1, met)) (by simp only []; omega) ⟨rfl, rfl, rfl, rfl, rfl, trivial⟩ ⟨hX, hB1, hS, by show k + 1 ≤ ps.length; omega, hmet.skip hqk hin⟩
              · have hin : q.id ∈ p.after := nd_f hc83
                have hge := starts_ge hS0 h0 hp hqk hin
                rw [gsi, gsk] at hge
                refine wp_skip ?_
                refine then_normal ?_
                refine wp_seq ?_
                refine region_s ?_
                refine q_look (look_move rfl rfl) ?_
                refine q_look (look_move rfl rfl) ?_
                refine q_look (look_indexAddr _ Try.underlying35 szTry_3 rfl rfl rfl rfl rfl (by omega)) ?_
                refine q_look (look_load1 Try.underlying3 rfl rfl rfl (eqc ((hS.rd hce_i k sk hsk) 0 _ rfl))) ?_
                refine q_look (look_assign rfl rfl) ?_
                refine q_nil ?_
                rintro _ rfl
                refine then_normal ?_
                refine wp_seq ?_
                refine wp_seq ?_
                refine region_s ?_
                refine q_look (look_fieldAddr Try.underlying28 rfl (fun _ _ => rfl) rfl rfl) ?_
                refine q_look (look_load1 Try.underlying25 rfl rfl rfl (eqc (hB1.cell rfl))) ?_
                refine q_look (look_move rfl rfl) ?_
                refine q_look (look_indexAddr _ Try.underlying25 szTry_48 rfl rfl rfl rfl rfl (by omega)) ?_
                refine q_look (look_fieldAddr Try.underlying48 rfl (fun _ _ => rfl) rfl rfl) ?_
                refine q_look (look_load1 Try.underlying3 rfl rfl rfl (eqc (((hD.sl.ext hX).rd k q hqk) _ _ rfl))) ?_
                refine q_look (look_gtr rfl rfl rfl rfl) ?_
                refine q_look (look_move rfl rfl) ?_
                refine q_lookg rfl rfl rfl (fun hq => look_fieldAddr Try.underlying28 rfl (fun _ _ => rfl) rfl rfl) ?_
                refine q_lookg rfl rfl rfl (fun hq => look_load1 Try.underlying25 rfl rfl hq (eqc (hB1.cell rfl))) ?_
                refine q_lookg rfl rfl rfl (fun hq => look_move rfl rfl) ?_
                refine q_lookg rfl rfl rfl (fun hq => look_indexAddr _ Try.underlying25 szTry_48 rfl hq rfl hq rfl (by omega)) ?_
                refine q_lookg rfl rfl rfl (fun hq => look_fieldAddr Try.underlying48 rfl (fun _ _ => rfl) rfl hq) ?_
                refine q_lookg rfl rfl rfl (fun hq => look_load1 Try.underlying3 rfl rfl hq (eqc (((hD.sl.ext hX).rd k q hqk) _ _ rfl))) ?_
                refine q_lookg rfl rfl rfl (fun hq => look_leq rfl hq rfl rfl) ?_
                refine q_look (look_and rfl rfl rfl rfl) ?_
                refine q_nil ?_
                rintro _ rfl
                refine then_normal ?_
                refine cond_split rfl (fun hc103 => ?_) (fun hc103 => ?_)
                · have hh : 0 < q.hours ∧ q.hours ≤ 10000 := by simpa [gq] using hc103
                  have hhr : hrs q = q.hours := by unfold hrs; rw [if_neg (by omega)]
                  have hen : sk + q.hours = (startsP ps).getD k 0 + hrs q := by rw [gsk, hhr]
                  refine region_s ?_
                  refine q_look (look_move rfl rfl) ?_
                  refine q_look (look_fieldAddr Try.underlying28 rfl (fun _ _ => rfl) rfl rfl) ?_
                  refine q_look (look_load1 Try.underlying25 rfl rfl rfl (eqc (hB1.cell rfl))) ?_
                  refine q_look (look_move rfl rfl) ?_
                  refine q_look (look_indexAddr _ Try.underlying25 szTry_48 rfl rfl rfl rfl rfl (by omega)) ?_
                  refine q_look (look_fieldAddr Try.underlying48 rfl (fun _ _ => rfl) rfl rfl) ?_
                  refine q_look (look_load1 Try.underlying3 rfl rfl rfl (eqc (((hD.sl.ext hX).rd k q hqk) _ _ rfl))) ?_
                  refine q_look (look_add rfl rfl rfl rfl (by have := hD.len; have := maxLen_is; unfold I64; omega)) ?_
                  refine q_look (look_assign rfl rfl) ?_
                  refine q_nil ?_
                  rintro _ rfl
                  refine then_normal ?_
                  refine wp_seq ?_
                  refine wp_seq ?_
                  refine region_s ?_
                  refine q_look (look_move rfl rfl) ?_
                  refine q_look (look_move rfl rfl) ?_
                  refine q_look (look_indexAddr _ Try.underlying35 szTry_3 rfl rfl rfl rfl rfl (by omega)) ?_
                  refine q_look (look_load1 Try.underlying3 rfl rfl rfl (eqc ((hS.rd hce_i i si hsi) 0 _ rfl))) ?_
                  refine q_look (look_move rfl rfl) ?_
                  refine q_look (look_lss rfl rfl rfl rfl) ?_
                  refine q_nil ?_
                  rintro _ rfl
                  refine then_normal ?_
                  refine cond_split rfl (fun hc117 => ?_) (fun hc117 => ?_)
                  · skip
                    refine wp_seq ?_
                    refine region_s ?_
                    refine q_look (look_assign rfl rfl) ?_
                    refine q_nil ?_
                    rintro _ rfl
                    refine then_normal ?_
                    refine wp_ret ?_
                    refine then_ret ?_
                    refine inB_ret ?_
                    refine then_ret ?_
                    refine then_ret ?_
                    refine inB_ret ?_
                    refine then_ret ?_
                    refine inB_ret ?_
                    refine then_ret ?_
                    refine then_ret ?_
                    refine inB_ret ?_
                    refine then_ret ?_
                    exact absurd (nn_t hc117) (by omega)
                  · skip
                    refine wp_skip ?_
                    refine then_normal ?_
                    refine region_s ?_
                    refine q_look (look_move rfl rfl) ?_
                    refine q_look (look_move rfl rfl) ?_
                    refine q_lookg rfl rfl rfl (fun hq => look_move rfl rfl) ?_
                    refine q_lookg rfl rfl rfl (fun hq => look_move rfl rfl) ?_
                    refine q_lookg rfl rfl rfl (fun hq => look_indexAddr _ Try.underlying35 szTry_3 rfl hq rfl hq rfl (by omega)) ?_
                    refine q_lookg rfl rfl rfl (fun hq => look_load1 Try.underlying3 rfl rfl hq (eqc ((hS.rd hce_i i si hsi) 0 _ rfl))) ?_
                    refine q_lookg rfl rfl rfl (fun hq => look_move rfl rfl) ?_
                    refine q_lookg rfl rfl rfl (fun hq => look_eql rfl hq rfl hq) ?_
                    refine q_look (look_or rfl rfl rfl rfl) ?_
                    refine q_look (look_assign rfl rfl) ?_
                    refine q_nil ?_
                    rintro _ rfl
                    refine inB_normal ?_
                    refine then_normal ?_
                    refine region_s ?_
                    refine q_look (look_move rfl rfl) ?_
                    refine q_look (look_add rfl rfl rfl rfl (by have := hD.len; have := maxLen_is; unfold I64; omega)) ?_
                    refine q_look (look_assign rfl rfl) ?_
                    refine q_nil ?_
                    rintro _ rfl
                    exact loop_end ((k + 1, (met || decide (si = sk + q.hours)))) (by simp only []; omega) ⟨rfl, rfl, rfl, rfl, rfl, trivial⟩ ⟨hX, hB1, hS, by show k + 1 ≤ ps.length; omega, hmet.take hqk hen⟩
                · have hhr : hrs q = 0 := by
                    unfold hrs
                    split
                    · rfl
                    · rename_i h1
                      refine Classical.byContradiction fun h2 => ?_
                      have h3 : 0 < q.hours ∧ q.hours ≤ 10000 := by omega
                      rw [decide_eq_true h3.1, decide_eq_true h3.2] at hc103
                      cases hc103
                  have hen : sk = (startsP ps).getD k 0 + hrs q := by rw [gsk, hhr]; omega
                  refine wp_skip ?_
                  refine then_normal ?_
                  refine wp_seq ?_
                  refine wp_seq ?_
                  refine region_s ?_
                  refine q_look (look_move rfl rfl) ?_
                  refine q_look (look_move rfl rfl) ?_
                  refine q_look (look_indexAddr _ Try.underlying35 szTry_3 rfl rfl rfl rfl rfl (by omega)) ?_
                  refine q_look (look_load1 Try.underlying3 rfl rfl rfl (eqc ((hS.rd hce_i i si hsi) 0 _ rfl))) ?_
                  refine q_look (look_move rfl rfl) ?_
                  refine q_look (look_lss rfl rfl rfl rfl) ?_
                  refine q_nil ?_
                  rintro _ rfl
                  refine then_normal ?_
                  refine cond_split rfl (fun hc117 => ?_) (fun hc117 => ?_)
                  · skip
                    refine wp_seq ?_
                    refine region_s ?_
                    refine q_look (look_assign rfl rfl) ?_
                    refine q_nil ?_
                    rintro _ rfl
                    refine then_normal ?_
                    refine wp_ret ?_
                    refine then_ret ?_
                    refine inB_ret ?_
                    refine then_ret ?_
                    refine then_ret ?_
                    refine inB_ret ?_
                    refine then_ret ?_
                    refine inB_ret ?_
                    refine then_ret ?_
                    refine then_ret ?_
                    refine inB_ret ?_
                    refine then_ret ?_
                    exact absurd (nn_t hc117) (by omega)
                  · skip
                    refine wp_skip ?_
                    refine then_normal ?_
                    refine region_s ?_
                    refine q_look (look_move rfl rfl) ?_
                    refine q_look (look_move rfl rfl) ?_
                    refine q_lookg rfl rfl rfl (fun hq => look_move rfl rfl) ?_
                    refine q_lookg rfl rfl rfl (fun hq => look_move rfl rfl) ?_
                    refine q_lookg rfl rfl rfl (fun hq => look_indexAddr _ Try.underlying35 szTry_3 rfl hq rfl hq rfl (by omega)) ?_
                    refine q_lookg rfl rfl rfl (fun hq => look_load1 Try.underlying3 rfl rfl hq (eqc ((hS.rd hce_i i si hsi) 0 _ rfl))) ?_
                    refine q_lookg rfl rfl rfl (fun hq => look_move rfl rfl) ?_
                    refine q_lookg rfl rfl rfl (fun hq => look_eql rfl hq rfl hq) ?_
                    refine q_look (look_or rfl rfl rfl rfl) ?_
                    refine q_look (look_assign rfl rfl) ?_
                    refine q_nil ?_
                    rintro _ rfl
                    refine inB_normal ?_
                    refine then_normal ?_
                    refine region_s ?_
                    refine q_look (look_move rfl rfl) ?_
                    refine q_look (look_add rfl rfl rfl rfl (by have := hD.len; have := maxLen_is; unfold I64; omega)) ?_
                    refine q_look (look_assign rfl rfl) ?_
                    refine q_nil ?_
                    rintro _ rfl
                    exact loop_end ((k + 1, (met || decide (si = sk)))) (by simp only []; omega) ⟨rfl, rfl, rfl, rfl, rfl, trivial⟩ ⟨hX, hB1, hS, by show k + 1 ≤ ps.length; omega, hmet.take hqk hen⟩
            · obtain rfl : k = ps.length := by have := nn_f hc67; omega
              have hmt := met_no h0 hp gsi hmet
              refine wp_exit ?_
              refine then_exit ?_
              refine then_exit ?_
              refine inB_exit_same ?_
              refine then_normal ?_
              refine wp_seq ?_
              refine region_s ?_
              refine q_look (look_move rfl rfl) ?_
              refine q_look (look_not rfl rfl) ?_
              refine q_look (look_move rfl rfl) ?_
              refine q_lookg rfl rfl rfl (fun hq => look_move rfl rfl) ?_
              refine q_lookg rfl rfl rfl (fun hq => look_move rfl rfl) ?_
              refine q_lookg rfl rfl rfl (fun hq => look_indexAddr _ Try.underlying35 szTry_3 rfl hq rfl hq rfl (by omega)) ?_
              refine q_lookg rfl rfl rfl (fun hq => look_load1 Try.underlying3 rfl rfl hq (eqc ((hS.rd hce_i i si hsi) 0 _ rfl))) ?_
              refine q_lookg rfl rfl rfl (fun hq => look_lss rfl hq rfl rfl) ?_
              refine q_look (look_or rfl rfl rfl rfl) ?_
              refine q_nil ?_
              rintro _ rfl
              refine then_normal ?_
              refine cond_split rfl (fun hc135 => ?_) (fun hc135 => ?_)
              · skip
                refine wp_seq ?_
                refine region_s ?_
                refine q_look (look_assign rfl rfl) ?_
                refine q_nil ?_
                rintro _ rfl
                refine then_normal ?_
                refine wp_ret ?_
                refine inB_ret ?_
                refine then_ret ?_
                refine then_ret ?_
                refine inB_ret ?_
                refine then_ret ?_
                exact absurd hc135 (by rw [hmt, decide_eq_false (show ¬ si < 0 by omega)]; decide)
              · skip
                refine wp_skip ?_
                refine inB_normal ?_
                refine then_normal ?_
                refine region_s ?_
                refine q_look (look_move rfl rfl) ?_
                refine q_look (look_add rfl rfl rfl rfl (by have := hD.len; have := maxLen_is; unfold I64; omega)) ?_
                refine q_look (look_assign rfl rfl) ?_
                refine q_nil ?_
                rintro _ rfl
                exact loop_end (i + 1) (by omega) ⟨rfl, rfl, rfl, trivial⟩ ⟨hX, hB1, hS, by omega⟩
        · skip
          refine wp_exit ?_
          refine then_exit ?_
          refine then_exit ?_
          refine inB_exit_same ?_
          refine then_normal ?_
          refine wp_seq ?_
          refine region_q ?_
          refine q_call (vs := []) enTry_11 trivial (fun wc hw => cext hw (awake_any wc)) ?_
          refine q_look (look_assign rfl rfl) ?_
          refine q_nil ?_
          intro w5 hw5
          replace hX := hX.comp hw5
          replace hB1 := hB1.ext hw5
          replace hS := hS.ext hw5
          refine then_normal ?_
          refine wp_ret ?_
          exact res1 Try.results8 rfl ⟨rfl, hX⟩


theorem filter_take {α : Type} {l : List α} {k : Nat} {y : α} (f : α → Bool) (h : l[k]? = some y) : (l.take (k + 1)).filter f = (l.take k).filter f ++ (if f y = true then [y] else []) := by
  rw [take_get h, List.filter_append]
  congr 1
  by_cases e : f y = true
  · rw [if_pos e, List.filter_cons_of_pos e]; rfl
  · rw [if_neg e, List.filter_cons_of_neg e]; rfl
theorem prog_no {dn : List ByteArray} {x y : ByteArray} {ps : List Pk} : (((!decide (y = x)) && decide (readyP dn y ps = 0)) && !decide (readyP (dn ++ [x]) y ps = 0)) = false := by
  by_cases h1 : y = x
  · rw [decide_eq_true h1]; rfl
  · by_cases h2 : readyP dn y ps = 0
    · rw [decide_eq_true (ready_more h2 h1)]; simp
    · rw [decide_eq_false h2]; simp
theorem oneS (x : ByteArray) : ∀ u ∈ scell x, u.oneCell' = true := by simp [scell, Value.oneCell']

theorem progress_law (h nd pt sm : Value) (pA : Option Addr) (ps : List Pk) (pc : Nat) (ne : Value) (dn : List ByteArray) (dA : Option Addr) (dc : Nat) (x0 x1 : ByteArray) (w : World) (hD : DOk w pA ps) (hN : Sl scell 1 w dA dn) (hnl : dn.length ≤ maxLen) (hnw : dA = none → dc = 0) :
    Calls Try.prog 7 #[.agg #[h, nd, pt, sm, .slice pA ps.length pc, ne], .slice dA dn.length dc, .agg #[.string x0, .string x1]] w fun e w' => e = .returned (.bool (true)) ∧ Ext w w' := by
  refine calls_act Try.func7 rfl Try.ntmps7 rfl rfl ?_
  show Code.wp _ _ _ (act 125 [(0, true, .agg #[h, nd, pt, sm, .slice pA ps.length pc, ne]), (1, true, .slice dA dn.length dc), (2, true, .agg #[.string x0, .string x1])] _) _
  have hX : Ext w w := Ext.rfl' w
  refine wp_seq ?_
  refine wp_region_lit ?_
  refine s_box rfl ?_
  intro g1 u1 hu1 hB1 hg1 hs1
  replace hB1 : Blk u1 g1 28 ([h, nd, pt, sm, .slice pA ps.length pc, ne]) := hB1
  have ge_g1 : w.heap.size ≤ g1 := by have := hX.size; omega
  replace hX := hX.comp hu1
  refine s_box rfl ?_
  intro g2 u2 hu2 hB2 hg2 hs2
  replace hB2 : Blk u2 g2 46 ([.string x0, .string x1]) := hB2
  have lt_g1_g2 : g1 < g2 := by have := hB1.lt; omega
  have ge_g2 : w.heap.size ≤ g2 := by have := hX.size; omega
  replace hX := hX.comp hu2
  replace hB1 := hB1.ext hu2
  refine s_look (look_assign rfl rfl) ?_
  refine s_nil ?_
  refine then_normal ?_
  refine wp_seq ?_
  refine wp_seq ?_
  refine region_q ?_
  refine q_look (look_loadN Try.underlying28 rfl szTry_28 rfl rfl rfl (ext_cell_n hB1)) ?_
  refine q_look (look_move rfl rfl) ?_
  refine q_call (vs := [_, _]) enTry_10 ⟨⟨_, rfl, rfl⟩, ⟨_, rfl, rfl⟩, trivial⟩ (fun wc hw => cext hw (few_any h nd pt sm pA ps pc ne dn dA dc wc (hD.ext (hX.comp hw)) hnl)) ?_
  refine q_look (look_not rfl rfl) ?_
  refine q_look (look_move rfl rfl) ?_
  refine q_lookg rfl rfl rfl (fun hq => look_move rfl rfl) ?_
  refine q_lookg rfl rfl rfl (fun hq => look_len_slice Try.underlying31 rfl hq) ?_
  refine q_lookg rfl rfl rfl (fun hq => look_gtr rfl hq rfl rfl) ?_
  refine q_look (look_or rfl rfl rfl rfl) ?_
  refine q_look (look_move rfl rfl) ?_
  refine q_lookg rfl rfl rfl (fun hq => look_fieldAddr Try.underlying28 rfl (fun _ _ => rfl) rfl rfl) ?_
  refine q_lookg rfl rfl rfl (fun hq => look_load1 Try.underlying25 rfl rfl hq (ext_cell (hB1.cell rfl))) ?_
  refine q_lookg rfl rfl rfl (fun hq => look_len_slice Try.underlying25 rfl hq) ?_
  refine q_lookg rfl rfl rfl (fun hq => look_eql rfl hq rfl rfl) ?_
  refine q_look (look_or rfl rfl rfl rfl) ?_
  refine q_nil ?_
  intro w1 hw1
  replace hX := hX.comp hw1
  replace hB1 := hB1.ext hw1
  replace hB2 := hB2.ext hw1
  refine then_normal ?_
  refine cond_split rfl (fun hc27 => ?_) (fun hc27 => ?_)
  · skip
    refine wp_seq ?_
    refine region_q ?_
    refine q_call (vs := []) enTry_11 trivial (fun wc hw => cext hw (awake_any wc)) ?_
    refine q_look (look_assign rfl rfl) ?_
    refine q_nil ?_
    intro w2 hw2
    replace hX := hX.comp hw2
    replace hB1 := hB1.ext hw2
    replace hB2 := hB2.ext hw2
    refine then_normal ?_
    refine wp_ret ?_
    refine then_ret ?_
    exact res1 Try.results7 rfl ⟨rfl, hX⟩
  · have hF : fewP ps dn = true := by revert hc27; cases fewP ps dn <;> simp [gq]
    obtain ⟨h70, h200, h30⟩ := few_spec hF
    have hps : ps.length ≤ 1000 := by omega
    have hc2 := or_f hc27
    have h199 : dn.length ≤ 199 := by have := of_decide_eq_false (or_f hc2.1).2; omega
    have hp0 : 0 < ps.length := by have := of_decide_eq_false hc2.2; omega
    obtain ⟨p, hp⟩ := get_lt hp0
    obtain ⟨b1, o1, rfl, _⟩ := (hD.sl.ext hX).at_ hp0
    have hmx := maxLen_is
    have hml : (dn ++ [x0]).length ≤ maxLen := by rw [List.length_append, List.length_singleton]; omega
    refine wp_skip ?_
    refine then_normal ?_
    refine seq_cut (ds := []) (n := 125) (fun (cs : Option Addr × Nat) => [(1, .slice dA dn.length dc), (3, .pointer (some ⟨g1, 0, none⟩)), (5, .pointer (some ⟨g2, 0, none⟩)), (7, .slice cs.1 (dn ++ [x0]).length cs.2)]) (fun cs w' => (Ext w w') ∧ (Blk w' g1 28 [h, nd, pt, sm, .slice (some ⟨b1, o1, none⟩) ps.length pc, ne]) ∧ (Blk w' g2 46 [.string x0, .string x1]) ∧ (Sl scell 1 w' cs.1 (dn ++ [x0]))) ?_ ?_
    · refine region_t (fun W => Ext w W ∧ Blk W g1 28 ([h, nd, pt, sm, .slice (some ⟨b1, o1, none⟩) ps.length pc, ne]) ∧ Blk W g2 46 ([.string x0, .string x1])) (.eager 1 (.eager 3 (.eager 4 (.fork 0 5 (.fork 2 5 (.alone 5 (.alone 6 (.eager 7 .nil))) (.alone 2 (.alone 6 (.eager 7 .nil)))) (.alone 0 (.alone 2 (.alone 6 (.eager 7 .nil)))))))) mixed (by kernel_rfl) rfl (by kernel_rfl) (by repeat (first | exact pk_body | refine pk_then ?_ | refine pk_block ?_))  ?_
      intro u3 hR3
      replace hX := hX.comp hR3
      replace hB1 := hB1.ext hR3
      replace hB2 := hB2.ext hR3
      refine ⟨⟨hX, hB1, hB2⟩, ?_⟩
      refine t_look rfl (look_move rfl rfl) ?_
      refine t_look rfl (look_indexAddr_arr 0 Try.underlying46 szTry_9 rfl rfl rfl rfl rfl (by omega)) ?_
      refine t_look rfl (look_load1 Try.underlying9 rfl rfl rfl (fun w' hS => (hS.2.2).cell rfl)) ?_
      refine t_fork rfl rfl ?_ ?_
      · refine s_buildSlice0 Try.underlying31 szTry_9 ?_
        intro g4 u4 hu4 hB4 hg4 hs4
        have lt_g1_g4 : g1 < g4 := by have := hB1.lt; omega
        have lt_g2_g4 : g2 < g4 := by have := hB2.lt; omega
        have ge_g4 : w.heap.size ≤ g4 := by have := hX.size; omega
        replace hX := hX.comp hu4
        replace hB1 := hB1.ext hu4
        replace hB2 := hB2.ext hu4
        have hO := Core.Own.lit (base := w.heap.size) (l := ([] : List ByteArray)) (ce := scell) (size := 1) hB4 rfl rfl rfl ge_g4 (by decide)
        have ne_hO_g1 : Value.ownBlock (.slice (some ⟨g4, 0, none⟩) 0 0) ≠ some g1 := by simp [Value.ownBlock]; omega
        have ne_hO_g2 : Value.ownBlock (.slice (some ⟨g4, 0, none⟩) 0 0) ≠ some g2 := by simp [Value.ownBlock]; omega
        refine s_nil ?_
        refine then_normal ?_
        refine ⟨⟨hX, hB1, hB2⟩, ?_⟩
        refine t_fork rfl rfl ?_ ?_
        · have hsz5 := hX.size
          refine s_appendL (ce := scell) (news := dn) Try.underlying31 zsbTry_9 rfl rfl rfl hO rfl (Sl.src hce_s oneS (hN.ext hX) hnw) (by simp only [List.length_nil]; omega) (by simp only [List.length_nil]; omega) (by omega) ?_
          intro v5 u5 hN5 hgr5 hat5
          replace hX := hX.grow hO (Nat.le_refl _) hgr5
          have hn_hB1 := hB1.grown hgr5 ne_hO_g1
          have hn_hB2 := hB2.grown hgr5 ne_hO_g2
          replace ne_hO_g1 := ne_app ne_hO_g1 hB1.lt hat5
          replace ne_hO_g2 := ne_app ne_hO_g2 hB2.lt hat5
          clear hB1
          have hB1 := hn_hB1
          clear hn_hB1
          clear hB2
          have hB2 := hn_hB2
          clear hn_hB2
          clear hO
          have hO : Core.Own scell 9 1 w.heap.size u5 v5 dn := (by simpa using hN5)
          refine s_nil ?_
          refine then_normal ?_
          refine ⟨⟨hX, hB1, hB2⟩, ?_⟩
          refine t_seq rfl ?_
          refine s_buildSlice (parts := [(0, .tmp 33)]) (vs := [(0, _)]) (cells := [x0].flatMap scell) Try.underlying31 szTry_9 zeTry_9 rfl rfl ⟨⟨_, rfl, rfl⟩, trivial⟩ rfl (by kernel_rfl) ?_
          intro g6 u6 hu6 hB6 hg6 hs6
          have lt_g1_g6 : g1 < g6 := by have := hB1.lt; omega
          have lt_g2_g6 : g2 < g6 := by have := hB2.lt; omega
          have ne_hO_g6 : (Value.ownBlock v5) ≠ some g6 := hO.ne_new (by omega)
          have ge_g6 : w.heap.size ≤ g6 := by have := hX.size; omega
          replace hX := hX.comp hu6
          replace hB1 := hB1.ext hu6
          replace hB2 := hB2.ext hu6
          replace hO := hO.ext hu6
          refine s_nil ?_
          refine then_normal ?_
          refine ⟨⟨hX, hB1, hB2⟩, ?_⟩
          refine t_seq rfl ?_
          have hsz7 := hX.size
          refine s_appendL (ce := scell) (news := [x0]) Try.underlying31 zsbTry_9 rfl rfl rfl hO rfl (Blk.src (x := x0) rfl (oneS _) hB6) (by simp only [List.length_cons, List.length_nil]; omega) (by simp only [List.length_cons, List.length_nil]; omega) (by omega) ?_
          intro v7 u7 hN7 hgr7 hat7
          replace hX := hX.grow hO (Nat.le_refl _) hgr7
          have hn_hB1 := hB1.grown hgr7 ne_hO_g1
          have hn_hB2 := hB2.grown hgr7 ne_hO_g2
          have hn_hB6 := hB6.grown hgr7 ne_hO_g6
          replace ne_hO_g1 := ne_app ne_hO_g1 hB1.lt hat7
          replace ne_hO_g2 := ne_app ne_hO_g2 hB2.lt hat7
          replace ne_hO_g6 := ne_app ne_hO_g6 hB6.lt hat7
          clear hB1
          have hB1 := hn_hB1
          clear hn_hB1
          clear hB2
          have hB2 := hn_hB2
          clear hn_hB2
          clear hB6
          have hB6 := hn_hB6
          clear hn_hB6
          clear hO
          have hO : Core.Own scell 9 1 w.heap.size u7 v7 (dn ++ [x0]) := (by simpa using hN7)
          obtain ⟨AM, cM, rfl, hM, _, _, _⟩ := hO.sl hce_s
          refine s_nil ?_
          refine then_normal ?_
          refine ⟨⟨hX, hB1, hB2⟩, ?_⟩
          refine t_look rfl (look_assign rfl rfl) ?_
          refine t_nil ?_
          exact cut_end (AM, cM) ⟨rfl, rfl, rfl, rfl, trivial⟩ ⟨hX, hB1, hB2, hM⟩
        · refine s_buildSlice (parts := [(0, .tmp 33)]) (vs := [(0, _)]) (cells := [x0].flatMap scell) Try.underlying31 szTry_9 zeTry_9 rfl rfl ⟨⟨_, rfl, rfl⟩, trivial⟩ rfl (by kernel_rfl) ?_
          intro g8 u8 hu8 hB8 hg8 hs8
          have lt_g1_g8 : g1 < g8 := by have := hB1.lt; omega
          have lt_g2_g8 : g2 < g8 := by have := hB2.lt; omega
          have ne_hO_g8 : (Value.ownBlock (.slice (some ⟨g4, 0, none⟩) 0 0)) ≠ some g8 := hO.ne_new (by omega)
          have ge_g8 : w.heap.size ≤ g8 := by have := hX.size; omega
          replace hX := hX.comp hu8
          replace hB1 := hB1.ext hu8
          replace hB2 := hB2.ext hu8
          replace hO := hO.ext hu8
          refine s_nil ?_
          refine then_normal ?_
          refine ⟨⟨hX, hB1, hB2⟩, ?_⟩
          refine t_seq rfl ?_
          have hsz9 := hX.size
          refine s_appendL (ce := scell) (news := dn) Try.underlying31 zsbTry_9 rfl rfl rfl hO rfl (Sl.src hce_s oneS (hN.ext hX) hnw) (by simp only [List.length_nil]; omega) (by simp only [List.length_nil]; omega) (by omega) ?_
          intro v9 u9 hN9 hgr9 hat9
          replace hX := hX.grow hO (Nat.le_refl _) hgr9
          have hn_hB1 := hB1.grown hgr9 ne_hO_g1
          have hn_hB2 := hB2.grown hgr9 ne_hO_g2
          have hn_hB8 := hB8.grown hgr9 ne_hO_g8
          replace ne_hO_g1 := ne_app ne_hO_g1 hB1.lt hat9
          replace ne_hO_g2 := ne_app ne_hO_g2 hB2.lt hat9
          replace ne_hO_g8 := ne_app ne_hO_g8 hB8.lt hat9
          clear hB1
          have hB1 := hn_hB1
          clear hn_hB1
          clear hB2
          have hB2 := hn_hB2
          clear hn_hB2
          clear hB8
          have hB8 := hn_hB8
          clear hn_hB8
          clear hO
          have hO : Core.Own scell 9 1 w.heap.size u9 v9 dn := (by simpa using hN9)
          refine s_nil ?_
          refine then_normal ?_
          refine ⟨⟨hX, hB1, hB2⟩, ?_⟩
          refine t_seq rfl ?_
          have hsz10 := hX.size
          refine s_appendL (ce := scell) (news := [x0]) Try.underlying31 zsbTry_9 rfl rfl rfl hO rfl (Blk.src (x := x0) rfl (oneS _) hB8) (by simp only [List.length_cons, List.length_nil]; omega) (by simp only [List.length_cons, List.length_nil]; omega) (by omega) ?_
          intro v10 u10 hN10 hgr10 hat10
          replace hX := hX.grow hO (Nat.le_refl _) hgr10
          have hn_hB1 := hB1.grown hgr10 ne_hO_g1
          have hn_hB2 := hB2.grown hgr10 ne_hO_g2
          have hn_hB8 := hB8.grown hgr10 ne_hO_g8
          replace ne_hO_g1 := ne_app ne_hO_g1 hB1.lt hat10
          replace ne_hO_g2 := ne_app ne_hO_g2 hB2.lt hat10
          replace ne_hO_g8 := ne_app ne_hO_g8 hB8.lt hat10
          clear hB1
          have hB1 := hn_hB1
          clear hn_hB1
          clear hB2
          have hB2 := hn_hB2
          clear hn_hB2
          clear hB8
          have hB8 := hn_hB8
          clear hn_hB8
          clear hO
          have hO : Core.Own scell 9 1 w.heap.size u10 v10 (dn ++ [x0]) := (by simpa using hN10)
          obtain ⟨AM, cM, rfl, hM, _, _, _⟩ := hO.sl hce_s
          refine s_nil ?_
          refine then_normal ?_
          refine ⟨⟨hX, hB1, hB2⟩, ?_⟩
          refine t_look rfl (look_assign rfl rfl) ?_
          refine t_nil ?_
          exact cut_end (AM, cM) ⟨rfl, rfl, rfl, rfl, trivial⟩ ⟨hX, hB1, hB2, hM⟩
      · refine s_buildSlice (parts := [(0, .tmp 33)]) (vs := [(0, _)]) (cells := [x0].flatMap scell) Try.underlying31 szTry_9 zeTry_9 rfl rfl ⟨⟨_, rfl, rfl⟩, trivial⟩ rfl (by kernel_rfl) ?_
        intro g11 u11 hu11 hB11 hg11 hs11
        have lt_g1_g11 : g1 < g11 := by have := hB1.lt; omega
        have lt_g2_g11 : g2 < g11 := by have := hB2.lt; omega
        have ge_g11 : w.heap.size ≤ g11 := by have := hX.size; omega
        replace hX := hX.comp hu11
        replace hB1 := hB1.ext hu11
        replace hB2 := hB2.ext hu11
        refine s_nil ?_
        refine then_normal ?_
        refine ⟨⟨hX, hB1, hB2⟩, ?_⟩
        refine t_seq rfl ?_
        refine s_buildSlice0 Try.underlying31 szTry_9 ?_
        intro g12 u12 hu12 hB12 hg12 hs12
        have lt_g1_g12 : g1 < g12 := by have := hB1.lt; omega
        have lt_g2_g12 : g2 < g12 := by have := hB2.lt; omega
        have lt_g11_g12 : g11 < g12 := by have := hB11.lt; omega
        have ge_g12 : w.heap.size ≤ g12 := by have := hX.size; omega
        replace hX := hX.comp hu12
        replace hB1 := hB1.ext hu12
        replace hB2 := hB2.ext hu12
        replace hB11 := hB11.ext hu12
        have hO := Core.Own.lit (base := w.heap.size) (l := ([] : List ByteArray)) (ce := scell) (size := 1) hB12 rfl rfl rfl ge_g12 (by decide)
        have ne_hO_g1 : Value.ownBlock (.slice (some ⟨g12, 0, none⟩) 0 0) ≠ some g1 := by simp [Value.ownBlock]; omega
        have ne_hO_g2 : Value.ownBlock (.slice (some ⟨g12, 0, none⟩) 0 0) ≠ some g2 := by simp [Value.ownBlock]; omega
        have ne_hO_g11 : Value.ownBlock (.slice (some ⟨g12, 0, none⟩) 0 0) ≠ some g11 := by simp [Value.ownBlock]; omega
        refine s_nil ?_
        refine then_normal ?_
        refine ⟨⟨hX, hB1, hB2⟩, ?_⟩
        refine t_seq rfl ?_
        have hsz13 := hX.size
        refine s_appendL (ce := scell) (news := dn) Try.underlying31 zsbTry_9 rfl rfl rfl hO rfl (Sl.src hce_s oneS (hN.ext hX) hnw) (by simp only [List.length_nil]; omega) (by simp only [List.length_nil]; omega) (by omega) ?_
        intro v13 u13 hN13 hgr13 hat13
        replace hX := hX.grow hO (Nat.le_refl _) hgr13
        have hn_hB1 := hB1.grown hgr13 ne_hO_g1
        have hn_hB2 := hB2.grown hgr13 ne_hO_g2
        have hn_hB11 := hB11.grown hgr13 ne_hO_g11
        replace ne_hO_g1 := ne_app ne_hO_g1 hB1.lt hat13
        replace ne_hO_g2 := ne_app ne_hO_g2 hB2.lt hat13
        replace ne_hO_g11 := ne_app ne_hO_g11 hB11.lt hat13
        clear hB1
        have hB1 := hn_hB1
        clear hn_hB1
        clear hB2
        have hB2 := hn_hB2
        clear hn_hB2
        clear hB11
        have hB11 := hn_hB11
        clear hn_hB11
        clear hO
        have hO : Core.Own scell 9 1 w.heap.size u13 v13 dn := (by simpa using hN13)
        refine s_nil ?_
        refine then_normal ?_
        refine ⟨⟨hX, hB1, hB2⟩, ?_⟩
        refine t_seq rfl ?_
        have hsz14 := hX.size
        refine s_appendL (ce := scell) (news := [x0]) Try.underlying31 zsbTry_9 rfl rfl rfl hO rfl (Blk.src (x := x0) rfl (oneS _) hB11) (by simp only [List.length_cons, List.length_nil]; omega) (by simp only [List.length_cons, List.length_nil]; omega) (by omega) ?_
        intro v14 u14 hN14 hgr14 hat14
        replace hX := hX.grow hO (Nat.le_refl _) hgr14
        have hn_hB1 := hB1.grown hgr14 ne_hO_g1
        have hn_hB2 := hB2.grown hgr14 ne_hO_g2
        have hn_hB11 := hB11.grown hgr14 ne_hO_g11
        replace ne_hO_g1 := ne_app ne_hO_g1 hB1.lt hat14
        replace ne_hO_g2 := ne_app ne_hO_g2 hB2.lt hat14
        replace ne_hO_g11 := ne_app ne_hO_g11 hB11.lt hat14
        clear hB1
        have hB1 := hn_hB1
        clear hn_hB1
        clear hB2
        have hB2 := hn_hB2
        clear hn_hB2
        clear hB11
        have hB11 := hn_hB11
        clear hn_hB11
        clear hO
        have hO : Core.Own scell 9 1 w.heap.size u14 v14 (dn ++ [x0]) := (by simpa using hN14)
        obtain ⟨AM, cM, rfl, hM, _, _, _⟩ := hO.sl hce_s
        refine s_nil ?_
        refine then_normal ?_
        refine ⟨⟨hX, hB1, hB2⟩, ?_⟩
        refine t_look rfl (look_assign rfl rfl) ?_
        refine t_nil ?_
        exact cut_end (AM, cM) ⟨rfl, rfl, rfl, rfl, trivial⟩ ⟨hX, hB1, hB2, hM⟩
    · rintro ⟨AM, cM⟩ σ wr hF
      obtain ⟨hX, hB1, hB2, hM⟩ : (Ext w wr) ∧ (Blk wr g1 28 [h, nd, pt, sm, .slice (some ⟨b1, o1, none⟩) ps.length pc, ne]) ∧ (Blk wr g2 46 [.string x0, .string x1]) ∧ (Sl scell 1 wr AM (dn ++ [x0])) := hF
      show Code.wp _ _ _ (act 125 [(1, true, .slice dA dn.length dc), (3, true, .pointer (some ⟨g1, 0, none⟩)), (5, true, .pointer (some ⟨g2, 0, none⟩)), (7, true, .slice AM (dn ++ [x0]).length cM)] _) _
      refine wp_seq ?_
      refine region_s ?_
      refine q_look (look_fieldAddr Try.underlying28 rfl (fun _ _ => rfl) rfl rfl) ?_
      refine q_look (look_load1 Try.underlying25 rfl rfl rfl (eqc (hB1.cell rfl))) ?_
      refine q_look (look_indexAddr 0 Try.underlying25 szTry_48 rfl rfl rfl rfl rfl (by omega)) ?_
      refine q_look (look_fieldAddr Try.underlying48 rfl (fun _ _ => rfl) rfl rfl) ?_
      refine q_look (look_load1 Try.underlying9 rfl rfl rfl (eqc (((hD.sl.ext hX).rd 0 p hp) _ _ rfl))) ?_
      refine q_look (look_assign rfl rfl) ?_
      refine q_nil ?_
      rintro _ rfl
      refine then_normal ?_
      refine wp_seq ?_
      refine wp_seq ?_
      refine region_qd mixed (by kernel_rfl) ?_
      refine q_look (look_loadN Try.underlying28 rfl szTry_28 rfl rfl rfl (ext_cell_n hB1)) ?_
      refine q_look (look_move rfl rfl) ?_
      refine q_look (look_move rfl rfl) ?_
      refine q_call (vs := [_, _, _]) enTry_22 ⟨⟨_, rfl, rfl⟩, ⟨_, rfl, rfl⟩, ⟨_, rfl, rfl⟩, trivial⟩ (fun wc hw => cext hw (left_any h nd pt sm (some ⟨b1, o1, none⟩) ps pc ne (dn ++ [x0]) AM cM p.block wc (hD.ext (hX.comp hw)) (hM.ext hw) hml hps)) ?_
      refine q_look (look_loadN Try.underlying28 rfl szTry_28 rfl rfl rfl (ext_cell_n hB1)) ?_
      refine q_look (look_move rfl rfl) ?_
      refine q_look (look_move rfl rfl) ?_
      refine q_call (vs := [_, _, _]) enTry_22 ⟨⟨_, rfl, rfl⟩, ⟨_, rfl, rfl⟩, ⟨_, rfl, rfl⟩, trivial⟩ (fun wc hw => cext hw (left_any h nd pt sm (some ⟨b1, o1, none⟩) ps pc ne dn dA dc p.block wc (hD.ext (hX.comp hw)) (hN.ext (hX.comp hw)) hnl hps)) ?_
      refine q_look (Look.as (look_gtr rfl rfl rfl rfl) (v' := .bool false) (by rw [decide_eq_false (show ¬ leftP dn p.block ps < leftP (dn ++ [x0]) p.block ps by have := left_more dn x0 p.block ps; omega)])) ?_
      refine q_look (look_move rfl rfl) ?_
      refine q_lookg rfl rfl rfl (fun hq => look_loadN Try.underlying28 rfl szTry_28 rfl rfl rfl (ext_cell_n hB1)) ?_
      refine q_lookg rfl rfl rfl (fun hq => look_move rfl rfl) ?_
      refine q_lookg rfl rfl rfl (fun hq => look_move rfl rfl) ?_
      refine q_callg (vs := [_, _, _]) rfl rfl rfl enTry_24 (fun hq => ⟨⟨_, rfl, hq⟩, ⟨_, rfl, hq⟩, ⟨_, rfl, hq⟩, trivial⟩) (fun hq wc hw => cext hw (pct_any h nd pt sm (some ⟨b1, o1, none⟩) ps pc ne (dn ++ [x0]) AM cM p.block wc (hD.ext (hX.comp hw)) (hM.ext hw) hml hps)) ?_
      refine q_lookg rfl rfl rfl (fun hq => look_loadN Try.underlying28 rfl szTry_28 rfl rfl rfl (ext_cell_n hB1)) ?_
      refine q_lookg rfl rfl rfl (fun hq => look_move rfl rfl) ?_
      refine q_lookg rfl rfl rfl (fun hq => look_move rfl rfl) ?_
      refine q_callg (vs := [_, _, _]) rfl rfl rfl enTry_24 (fun hq => ⟨⟨_, rfl, hq⟩, ⟨_, rfl, hq⟩, ⟨_, rfl, hq⟩, trivial⟩) (fun hq wc hw => cext hw (pct_any h nd pt sm (some ⟨b1, o1, none⟩) ps pc ne dn dA dc p.block wc (hD.ext (hX.comp hw)) (hN.ext (hX.comp hw)) hnl hps)) ?_
      refine q_lookg rfl rfl rfl (fun hq => Look.as (look_lss rfl hq rfl hq) (v' := .bool false) (by rw [decide_eq_false (show ¬ pctP (dn ++ [x0]) p.block ps < pctP dn p.block ps by have := pct_more dn x0 p.block ps; omega)])) ?_
      refine q_look (look_or rfl rfl rfl rfl) ?_
      refine q_look (look_move rfl rfl) ?_
      refine q_lookg rfl rfl rfl (fun hq => look_loadN Try.underlying28 rfl szTry_28 rfl rfl rfl (ext_cell_n hB1)) ?_
      refine q_lookg rfl rfl rfl (fun hq => look_move rfl rfl) ?_
      refine q_lookg rfl rfl rfl (fun hq => look_move rfl rfl) ?_
      refine q_callg (vs := [_, _, _]) rfl rfl rfl enTry_24 (fun hq => ⟨⟨_, rfl, hq⟩, ⟨_, rfl, hq⟩, ⟨_, rfl, hq⟩, trivial⟩) (fun hq wc hw => cext hw (pct_any h nd pt sm (some ⟨b1, o1, none⟩) ps pc ne (dn ++ [x0]) AM cM p.block wc (hD.ext (hX.comp hw)) (hM.ext hw) hml hps)) ?_
      refine q_lookg rfl rfl rfl (fun hq => Look.as (look_gtr rfl hq rfl rfl) (v' := .bool false) (by rw [decide_eq_false (show ¬ (100 : Int) < pctP (dn ++ [x0]) p.block ps by have := pct_le (dn ++ [x0]) p.block ps; omega)])) ?_
      refine q_look (look_or rfl rfl rfl rfl) ?_
      refine q_nil ?_
      intro w3 hw3
      replace hX := hX.comp hw3
      replace hB1 := hB1.ext hw3
      replace hB2 := hB2.ext hw3
      replace hM := hM.ext hw3
      refine then_normal ?_
      refine cond_false rfl rfl ?_
      refine wp_skip ?_
      refine then_normal ?_
      refine wp_seq ?_
      refine wp_seq ?_
      refine region_q ?_
      refine q_look (look_indexAddr_arr 1 Try.underlying46 szTry_9 rfl rfl rfl rfl rfl (by omega)) ?_
      refine q_look (look_load1 Try.underlying9 rfl rfl rfl (ext_cell (hB2.cell rfl))) ?_
      refine q_look (look_indexAddr_arr 0 Try.underlying46 szTry_9 rfl rfl rfl rfl rfl (by omega)) ?_
      refine q_look (look_load1 Try.underlying9 rfl rfl rfl (ext_cell (hB2.cell rfl))) ?_
      refine q_look (look_neq_str rfl rfl rfl rfl) ?_
      refine q_look (look_move rfl rfl) ?_
      refine q_lookg rfl rfl rfl (fun hq => look_loadN Try.underlying28 rfl szTry_28 rfl rfl rfl (ext_cell_n hB1)) ?_
      refine q_lookg rfl rfl rfl (fun hq => look_move rfl rfl) ?_
      refine q_lookg rfl rfl rfl (fun hq => look_indexAddr_arr 1 Try.underlying46 szTry_9 rfl rfl rfl rfl rfl (by omega)) ?_
      refine q_lookg rfl rfl rfl (fun hq => look_load1 Try.underlying9 rfl rfl hq (ext_cell (hB2.cell rfl))) ?_
      refine q_callg (vs := [_, _, _]) rfl rfl rfl enTry_18 (fun hq => ⟨⟨_, rfl, hq⟩, ⟨_, rfl, hq⟩, ⟨_, rfl, hq⟩, trivial⟩) (fun hq wc hw => cext hw (ready_any h nd pt sm (some ⟨b1, o1, none⟩) ps pc ne dn dA dc x1 wc (hD.ext (hX.comp hw)) (hN.ext (hX.comp hw)) hnl)) ?_
      refine q_lookg rfl rfl rfl (fun hq => look_eql rfl hq rfl rfl) ?_
      refine q_look (look_and rfl rfl rfl rfl) ?_
      refine q_look (look_move rfl rfl) ?_
      refine q_lookg rfl rfl rfl (fun hq => look_loadN Try.underlying28 rfl szTry_28 rfl rfl rfl (ext_cell_n hB1)) ?_
      refine q_lookg rfl rfl rfl (fun hq => look_move rfl rfl) ?_
      refine q_lookg rfl rfl rfl (fun hq => look_indexAddr_arr 1 Try.underlying46 szTry_9 rfl rfl rfl rfl rfl (by omega)) ?_
      refine q_lookg rfl rfl rfl (fun hq => look_load1 Try.underlying9 rfl rfl hq (ext_cell (hB2.cell rfl))) ?_
      refine q_callg (vs := [_, _, _]) rfl rfl rfl enTry_18 (fun hq => ⟨⟨_, rfl, hq⟩, ⟨_, rfl, hq⟩, ⟨_, rfl, hq⟩, trivial⟩) (fun hq wc hw => cext hw (ready_any h nd pt sm (some ⟨b1, o1, none⟩) ps pc ne (dn ++ [x0]) AM cM x1 wc (hD.ext (hX.comp hw)) (hM.ext hw) hml)) ?_
      refine q_lookg rfl rfl rfl (fun hq => look_neq rfl hq rfl rfl) ?_
      refine q_look (look_and rfl rfl rfl rfl) ?_
      refine q_nil ?_
      intro w4 hw4
      replace hX := hX.comp hw4
      replace hB1 := hB1.ext hw4
      replace hB2 := hB2.ext hw4
      replace hM := hM.ext hw4
      refine then_normal ?_
      refine cond_false rfl prog_no ?_
      refine wp_skip ?_
      refine then_normal ?_
      refine wp_seq ?_
      refine region_h (fun W => Ext w W ∧ Blk W g1 28 ([h, nd, pt, sm, .slice (some ⟨b1, o1, none⟩) ps.length pc, ne]) ∧ Blk W g2 46 ([.string x0, .string x1]) ∧ Sl scell 1 W AM (dn ++ [x0])) [(0, true), (1, true), (2, true), (3, true), (5, true), (6, true), (7, true), (8, true), (4, false), (9, false), (10, true), (11, true)] mixed (by kernel_rfl) rfl (by kernel_rfl) (by repeat (first | exact pk_body | refine pk_then ?_ | refine pk_block ?_))  ?_
      intro u15 hR15
      replace hX := hX.comp hR15
      replace hB1 := hB1.ext hR15
      replace hB2 := hB2.ext hR15
      replace hM := hM.ext hR15
      refine ⟨⟨hX, hB1, hB2, hM⟩, ?_⟩
      refine h_look rfl (look_loadN Try.underlying28 rfl szTry_28 rfl rfl rfl (fun w' hS j v hv => by rw [Nat.zero_add]; exact (hS.2.1).cell hv)) ?_
      refine h_look rfl (look_move rfl rfl) ?_
      refine h_look rfl (look_indexAddr_arr 1 Try.underlying46 szTry_9 rfl rfl rfl rfl rfl (by omega)) ?_
      refine h_look rfl (look_load1 Try.underlying9 rfl rfl rfl (fun w' hS => (hS.2.2.1).cell rfl)) ?_
      refine h_look rfl (look_loadN Try.underlying28 rfl szTry_28 rfl rfl rfl (fun w' hS j v hv => by rw [Nat.zero_add]; exact (hS.2.1).cell hv)) ?_
      refine h_look rfl (look_move rfl rfl) ?_
      refine h_look rfl (look_indexAddr_arr 1 Try.underlying46 szTry_9 rfl rfl rfl rfl rfl (by omega)) ?_
      refine h_look rfl (look_load1 Try.underlying9 rfl rfl rfl (fun w' hS => (hS.2.2.1).cell rfl)) ?_
      refine h_seq rfl ?_ ⟨hX, hB1, hB2, hM⟩
      refine s_call (vs := [_, _, _]) enTry_20 ⟨⟨_, rfl, rfl⟩, ⟨_, rfl, rfl⟩, ⟨_, rfl, rfl⟩, trivial⟩ (miss_any h nd pt sm (some ⟨b1, o1, none⟩) ps pc ne dn dA dc x1 _ (hD.ext hX) (hN.ext hX) hnl hps) ?_
      rintro _ u16 ⟨v16, rfl, hc16, hP⟩
      refine ⟨_, rfl, ?_⟩
      have ne_hP_g1 : Value.ownBlock v16 ≠ some g1 := hP.ne_old hB1.lt
      have ne_hP_g2 : Value.ownBlock v16 ≠ some g2 := hP.ne_old hB2.lt
      replace hP := hP.weak hX.size
      replace hX := hX.comp hc16
      replace hB1 := hB1.ext hc16
      replace hB2 := hB2.ext hc16
      replace hM := hM.ext hc16
      refine s_nil ?_
      refine then_normal ?_
      refine ⟨⟨hX, hB1, hB2, hM⟩, ?_⟩
      refine h_seq rfl ?_ ⟨hX, hB1, hB2, hM⟩
      refine s_call (vs := [_, _, _]) enTry_20 ⟨⟨_, rfl, rfl⟩, ⟨_, rfl, rfl⟩, ⟨_, rfl, rfl⟩, trivial⟩ (miss_any h nd pt sm (some ⟨b1, o1, none⟩) ps pc ne (dn ++ [x0]) AM cM x1 _ (hD.ext hX) hM hml hps) ?_
      rintro _ u17 ⟨v17, rfl, hc17, hQ⟩
      refine ⟨_, rfl, ?_⟩
      have dis_hP_hQ := Own.dis_new hP hQ
      have ne_hQ_g1 : Value.ownBlock v17 ≠ some g1 := hQ.ne_old hB1.lt
      have ne_hQ_g2 : Value.ownBlock v17 ≠ some g2 := hQ.ne_old hB2.lt
      replace hQ := hQ.weak hX.size
      replace hX := hX.comp hc17
      replace hB1 := hB1.ext hc17
      replace hB2 := hB2.ext hc17
      replace hP := hP.ext hc17
      replace hM := hM.ext hc17
      replace hQ := hQ.as (miss_more dn x0 x1 ps)
      obtain ⟨AQ, cQ, rfl, hS_hQ, hl_hQ, hm_hQ, _⟩ := hQ.sl hce_s
      obtain ⟨AP, cP, rfl, hS_hP, hl_hP, hm_hP, _⟩ := hP.sl hce_s
      refine s_nil ?_
      refine then_normal ?_
      refine ⟨⟨hX, hB1, hB2, hM⟩, ?_⟩
      refine h_look rfl (look_assign rfl rfl) ?_
      refine h_look rfl (look_assign rfl rfl) ?_
      refine h_nil ?_
      refine then_normal ?_
      refine wp_seq ?_
      refine region_s ?_
      refine q_look (look_assign rfl rfl) ?_
      refine q_nil ?_
      rintro _ rfl
      refine then_normal ?_
      refine wp_seq ?_
      refine wp_seq ?_
      refine region_s ?_
      refine q_look (look_assign rfl rfl) ?_
      refine q_nil ?_
      rintro _ rfl
      have hO := Own.nil scell 9 1 w.heap.size w
      refine then_normal ?_
      refine wp_block ?_
      refine loop_act (fun (ls : Nat × Value) => [(5, .pointer (some ⟨g2, 0, none⟩)), (9, .slice AP (missP dn x1 ps).length cP), (10, .slice AQ ((missP dn x1 ps).filter (nq x0)).length cQ), (11, ls.2), (12, .int .i64 (ls.1 : Int))]) (fun ls w' => (Ext w w') ∧ (Blk w' g2 46 [.string x0, .string x1]) ∧ (Core.Own scell 9 1 w.heap.size w' ls.2 (((missP dn x1 ps).take ls.1).filter (nq x0))) ∧ (Core.Own scell 9 1 w.heap.size w' (.slice AP (missP dn x1 ps).length cP) (missP dn x1 ps)) ∧ (Core.Own scell 9 1 w.heap.size w' (.slice AQ ((missP dn x1 ps).filter (nq x0)).length cQ) ((missP dn x1 ps).filter (nq x0))) ∧ (Value.ownBlock ls.2 ≠ some g2) ∧ (Dis ls.2 (.slice AP (missP dn x1 ps).length cP)) ∧ (Dis ls.2 (.slice AQ ((missP dn x1 ps).filter (nq x0)).length cQ)) ∧ (ls.1 ≤ (missP dn x1 ps).length)) (fun ls => (missP dn x1 ps).length - ls.1) ((0, .slice none 0 0)) ?_ ?_ ?_
      · exact ⟨rfl, rfl, rfl, rfl, rfl, trivial⟩
      · exact ⟨hX, hB2, Own.nil _ _ _ _ _, hP, hQ, (by simp [Value.ownBlock]), (fun k hk => by cases hk), (fun k hk => by cases hk), Nat.zero_le _⟩
      · rintro ⟨k, v⟩ σ wr hF
        obtain ⟨hX, hB2, hO, hP, hQ, ne_hO_g2, dis_hO_hP, dis_hO_hQ, hk⟩ : (Ext w wr) ∧ (Blk wr g2 46 [.string x0, .string x1]) ∧ (Core.Own scell 9 1 w.heap.size wr v (((missP dn x1 ps).take k).filter (nq x0))) ∧ (Core.Own scell 9 1 w.heap.size wr (.slice AP (missP dn x1 ps).length cP) (missP dn x1 ps)) ∧ (Core.Own scell 9 1 w.heap.size wr (.slice AQ ((missP dn x1 ps).filter (nq x0)).length cQ) ((missP dn x1 ps).filter (nq x0))) ∧ (Value.ownBlock v ≠ some g2) ∧ (Dis v (.slice AP (missP dn x1 ps).length cP)) ∧ (Dis v (.slice AQ ((missP dn x1 ps).filter (nq x0)).length cQ)) ∧ (k ≤ (missP dn x1 ps).length) := hF
        show Code.wp _ _ _ (act 125 [(5, true, .pointer (some ⟨g2, 0, none⟩)), (9, true, .slice AP (missP dn x1 ps).length cP), (10, true, .slice AQ ((missP dn x1 ps).filter (nq x0)).length cQ), (11, true, v), (12, true, .int .i64 (k : Int))] _) _
        refine wp_seq ?_
        refine wp_seq ?_
        refine region_s ?_
        refine q_look (look_move rfl rfl) ?_
        refine q_look (look_move rfl rfl) ?_
        refine q_look (look_len_slice Try.underlying31 rfl rfl) ?_
        refine q_look (look_lss rfl rfl rfl rfl) ?_
        refine q_nil ?_
        rintro _ rfl
        refine then_normal ?_
        refine cond_split rfl (fun hc102 => ?_) (fun hc102 => ?_)
        · have hlt : k < (missP dn x1 ps).length := by have := nn_t hc102; omega
          obtain ⟨y, hy⟩ := get_lt hlt
          obtain ⟨b2, o2, rfl, _⟩ := (hP.slOf hce_s).1.at_ hlt
          refine wp_skip ?_
          refine then_normal ?_
          refine wp_seq ?_
          refine wp_block ?_
          refine wp_seq ?_
          refine region_qd mixed (by kernel_rfl) ?_
          refine q_look (look_move rfl rfl) ?_
          refine q_look (look_move rfl rfl) ?_
          refine q_look (look_indexAddr _ Try.underlying31 szTry_9 rfl rfl rfl rfl rfl (by omega)) ?_
          refine q_look (look_load1 Try.underlying9 rfl rfl rfl (ext_cell ((hP.rd hce_s k y hy) 0 _ rfl))) ?_
          refine q_look (look_indexAddr_arr 0 Try.underlying46 szTry_9 rfl rfl rfl rfl rfl (by omega)) ?_
          refine q_look (look_load1 Try.underlying9 rfl rfl rfl (ext_cell (hB2.cell rfl))) ?_
          refine q_look (look_neq_str rfl rfl rfl rfl) ?_
          refine q_nil ?_
          intro w5 hw5
          replace hX := hX.comp hw5
          replace hB2 := hB2.ext hw5
          replace hP := hP.ext hw5
          replace hQ := hQ.ext hw5
          replace hO := hO.ext hw5
          refine then_normal ?_
          refine cond_split rfl (fun hc111 => ?_) (fun hc111 => ?_)
          · have hp1 : ¬ y = x0 := nd_t hc111
            refine wp_region_lit ?_
            refine s_look (look_move rfl rfl) ?_
            refine s_look (look_move rfl rfl) ?_
            refine s_look (look_move rfl rfl) ?_
            refine s_look (look_indexAddr _ Try.underlying31 szTry_9 rfl rfl rfl rfl rfl (by omega)) ?_
            refine s_look (look_load1 Try.underlying9 rfl rfl rfl (eqc ((hP.rd hce_s k y hy) 0 _ rfl))) ?_
            refine s_buildSlice (parts := [(0, .tmp 116)]) (vs := [(0, _)]) (cells := scell y) Try.underlying31 szTry_9 zeTry_9 rfl rfl ⟨⟨_, rfl, rfl⟩, trivial⟩ rfl (by kernel_rfl) ?_
            intro g18 u18 hu18 hB18 hg18 hs18
            have lt_g2_g18 : g2 < g18 := by have := hB2.lt; omega
            have ne_hP_g18 : (Value.ownBlock (.slice (some ⟨b2, o2, none⟩) (missP dn x1 ps).length cP)) ≠ some g18 := hP.ne_new (by omega)
            have ne_hQ_g18 : (Value.ownBlock (.slice AQ ((missP dn x1 ps).filter (nq x0)).length cQ)) ≠ some g18 := hQ.ne_new (by omega)
            have ne_hO_g18 : (Value.ownBlock (v)) ≠ some g18 := hO.ne_new (by omega)
            have ge_g18 : w.heap.size ≤ g18 := by have := hX.size; omega
            replace hX := hX.comp hu18
            replace hB2 := hB2.ext hu18
            replace hP := hP.ext hu18
            replace hQ := hQ.ext hu18
            replace hO := hO.ext hu18
            have hsz19 := hX.size
            refine s_appendL (ce := scell) (news := [y]) Try.underlying31 zsbTry_9 rfl rfl rfl hO rfl (Blk.src (x := y) rfl (by simp [scell, Value.oneCell']) hB18) (by have h1 := List.length_filter_le (nq x0) ((missP dn x1 ps).take k); have h2 := List.length_take_le k (missP dn x1 ps); have h3 : (missP dn x1 ps).length ≤ ps.length := misL_len dn (ND ps x1) (findP x1 ps) ps 0; simp only [List.length_cons, List.length_nil]; omega) (by have h1 := List.length_filter_le (nq x0) ((missP dn x1 ps).take k); have h2 := List.length_take_le k (missP dn x1 ps); have h3 : (missP dn x1 ps).length ≤ ps.length := misL_len dn (ND ps x1) (findP x1 ps) ps 0; simp only [List.length_cons, List.length_nil]; omega) (by omega) ?_
            intro v19 u19 hN19 hgr19 hat19
            replace hX := hX.grow hO (Nat.le_refl _) hgr19
            have hn_hB2 := hB2.grown hgr19 ne_hO_g2
            replace ne_hO_g2 := ne_app ne_hO_g2 hB2.lt hat19
            clear hB2
            have hB2 := hn_hB2
            clear hn_hB2
            have hn_hP := hP.grown hgr19 (Dis.ne dis_hO_hP)
            replace dis_hO_hP := Dis.app dis_hO_hP (fun k e => (hP.ge e).2) hat19
            clear hP
            have hP := hn_hP
            clear hn_hP
            have hn_hQ := hQ.grown hgr19 (Dis.ne dis_hO_hQ)
            replace dis_hO_hQ := Dis.app dis_hO_hQ (fun k e => (hQ.ge e).2) hat19
            clear hQ
            have hQ := hn_hQ
            clear hn_hQ
            clear hO
            have hO := hN19
            refine s_look (look_assign rfl rfl) ?_
            refine s_nil ?_
            refine inB_normal ?_
            refine then_normal ?_
            refine region_s ?_
            refine q_look (look_move rfl rfl) ?_
            refine q_look (look_add rfl rfl rfl rfl (by have hml2 := misL_len dn (ND ps x1) (findP x1 ps) ps 0; have : (missP dn x1 ps).length ≤ ps.length := hml2; unfold I64; omega)) ?_
            refine q_look (look_assign rfl rfl) ?_
            refine q_nil ?_
            rintro _ rfl
            exact loop_end ((k + 1, v19)) (by simp only []; omega) ⟨rfl, rfl, rfl, rfl, rfl, trivial⟩ ⟨hX, hB2, (hO.as (by rw [filter_take _ hy, if_pos (by simp [nq, hp1])])), hP, hQ, ne_hO_g2, dis_hO_hP, dis_hO_hQ, by show k + 1 ≤ (missP dn x1 ps).length; omega⟩
          · have hp1 : y = x0 := nd_f hc111
            refine wp_skip ?_
            refine inB_normal ?_
            refine then_normal ?_
            refine region_s ?_
            refine q_look (look_move rfl rfl) ?_
            refine q_look (look_add rfl rfl rfl rfl (by have hml2 := misL_len dn (ND ps x1) (findP x1 ps) ps 0; have : (missP dn x1 ps).length ≤ ps.length := hml2; unfold I64; omega)) ?_
            refine q_look (look_assign rfl rfl) ?_
            refine q_nil ?_
            rintro _ rfl
            exact loop_end ((k + 1, v)) (by simp only []; omega) ⟨rfl, rfl, rfl, rfl, rfl, trivial⟩ ⟨hX, hB2, (hO.as (by rw [filter_take _ hy, if_neg (by simp [nq, hp1])]; simp)), hP, hQ, ne_hO_g2, dis_hO_hP, dis_hO_hQ, by show k + 1 ≤ (missP dn x1 ps).length; omega⟩
        · obtain rfl : k = (missP dn x1 ps).length := by have := nn_f hc102; omega
          rw [List.take_length] at hO
          refine wp_exit ?_
          refine then_exit ?_
          refine then_exit ?_
          refine inB_exit_same ?_
          refine then_normal ?_
          refine wp_seq ?_
          obtain ⟨AR, cR, rfl, _, _, _, _⟩ := hO.sl hce_s
          refine wp_region_lit ?_
          refine s_look (look_move rfl rfl) ?_
          refine s_look (look_move rfl rfl) ?_
          refine s_call (vs := [_, _]) enTry_16 ⟨⟨_, rfl, rfl⟩, ⟨_, rfl, rfl⟩, trivial⟩ (call_true (same_any ((missP dn x1 ps).filter (nq x0)) ((missP dn x1 ps).filter (nq x0)) AQ AR cQ cR _ (hQ.slOf hce_s).1 (hO.slOf hce_s).1 (Nat.le_trans hl_hQ hm_hQ)) (decide_eq_true rfl)) ?_
          rintro _ u20 ⟨rfl, hc20⟩
          refine ⟨_, rfl, ?_⟩
          replace hX := hX.comp hc20
          replace hB2 := hB2.ext hc20
          replace hP := hP.ext hc20
          replace hQ := hQ.ext hc20
          replace hO := hO.ext hc20
          refine s_look (look_move rfl rfl) ?_
          refine s_want rfl rfl rfl rfl ?_
          refine s_call (vs := []) enTry_11 trivial (awake_any _) ?_
          rintro _ u21 ⟨rfl, hc21⟩
          refine ⟨_, rfl, ?_⟩
          replace hX := hX.comp hc21
          replace hB2 := hB2.ext hc21
          replace hP := hP.ext hc21
          replace hQ := hQ.ext hc21
          replace hO := hO.ext hc21
          refine s_look (look_and2 rfl rfl rfl rfl) ?_
          refine s_look (look_assign rfl rfl) ?_
          refine s_nil ?_
          refine then_normal ?_
          refine wp_ret ?_
          exact res1 Try.results7 rfl ⟨ret_bool rfl, hX⟩

end Go.Proofs.Ytldgigjapifagaa
