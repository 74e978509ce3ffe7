/- The walks of chapter 35 (inspect), fourth part: what is open. -/
import Derived.Test.YtobgfnlfbjodjaaC
namespace Go.Proofs.Ytobgfnlfbjodjaa
open Go Go.RowKit Core
set_option linter.unusedVariables false
set_option linter.unusedSimpArgs false
attribute [local irreducible] wpQuiet wpList wpH Code.wp Calls bodyPost act


theorem passed_cons (y : Wd) (r : List Wd) (t : Tk) : passedP (y :: r) t = ((decide (y.seam = t.seam) && decide (t.m ∈ y.pl)) || passedP r t) := by simp [passedP]
def fewP (sl : List Sm) (ws : List Wd) : Bool := decide (sl.length ≤ 60) && (decide (ws.length ≤ 60) && ws.all fun x => decide (x.pl.length ≤ 20))

theorem closure_any (x : Wd) (t : Tk) (gt : Nat) (w : World) (hW : WOk w x) (hT : Blk w gt 52 (tcell t)) :
    Calls Try.prog 27 #[.agg #[.string x.seam, .int .i64 x.st, .int .i64 x.cls, .string x.proc, .string x.by_, .int .i64 x.at_, .int .i64 x.rep, .slice x.pA x.pl.length x.pc], .pointer (some ⟨gt, 0, none⟩)] w fun e w' => e = .returned (.bool (decide (x.seam = t.seam) && decide (t.m ∈ x.pl))) ∧ Ext w w' := by
  refine calls_act Try.func27 rfl Try.ntmps27 rfl rfl ?_
  show Code.wp _ _ _ (act 16 [(0, true, .agg #[.string x.seam, .int .i64 x.st, .int .i64 x.cls, .string x.proc, .string x.by_, .int .i64 x.at_, .int .i64 x.rep, .slice x.pA x.pl.length x.pc]), (1, true, .pointer (some ⟨gt, 0, none⟩))] _) _
  have hX : Ext w w := Ext.rfl' w
  refine wp_seq ?_
  refine wp_region_lit ?_
  refine s_box rfl ?_
  intro g1 u1 hu1 hB1 hg1 hs1
  replace hB1 : Blk u1 g1 49 (wdcell x) := hB1
  have ge_g1 : w.heap.size ≤ g1 := by have := hX.size; omega
  replace hX := hX.comp hu1
  refine s_look (look_assign rfl rfl) ?_
  refine s_nil ?_
  refine then_normal ?_
  refine wp_seq ?_
  refine region_q ?_
  refine q_look (look_fieldAddr Try.underlying49 rfl (fun _ _ => rfl) rfl rfl) ?_
  refine q_look (look_load1 Try.underlying9 rfl rfl rfl (ext_cell (hB1.cell rfl))) ?_
  refine q_look (look_fieldAddr Try.underlying52 rfl (fun _ _ => rfl) rfl rfl) ?_
  refine q_look (look_load1 Try.underlying9 rfl rfl rfl (ext_cell ((hT.ext hX).cell rfl))) ?_
  refine q_look (look_eql_str rfl rfl rfl rfl) ?_
  refine q_look (look_move rfl rfl) ?_
  refine q_lookg rfl rfl rfl (fun hq => look_fieldAddr Try.underlying49 rfl (fun _ _ => rfl) rfl rfl) ?_
  refine q_lookg rfl rfl rfl (fun hq => look_load1 Try.underlying23 rfl rfl hq (ext_cell (hB1.cell rfl))) ?_
  refine q_lookg rfl rfl rfl (fun hq => look_fieldAddr Try.underlying52 rfl (fun _ _ => rfl) rfl rfl) ?_
  refine q_lookg rfl rfl rfl (fun hq => look_load1 Try.underlying3 rfl rfl hq (ext_cell ((hT.ext hX).cell rfl))) ?_
  refine q_callg (vs := [_, _]) rfl rfl rfl enTry_28 (fun hq => ⟨⟨_, rfl, hq⟩, ⟨_, rfl, hq⟩, trivial⟩) (fun hq wc hw => cext hw (contains_any x.pl x.pA x.pc t.m wc (hW.1.ext (hX.comp hw)) hW.2)) ?_
  refine q_look (look_and rfl rfl rfl rfl) ?_
  refine q_look (look_assign rfl rfl) ?_
  refine q_nil ?_
  intro w1 hw1
  replace hX := hX.comp hw1
  replace hB1 := hB1.ext hw1
  refine then_normal ?_
  refine wp_ret ?_
  exact res1 Try.results27 rfl ⟨rfl, hX⟩

theorem ixf_any (l : List Wd) (A : Option Addr) (cap : Nat) (t : Tk) (gt : Nat) (w : World) (hA : Sl wdcell 8 w A l) (hW : WsOk w l) (hla : l.length ≤ maxLen) (hT : Blk w gt 52 (tcell t)) :
    Calls Try.prog 33 #[.slice A l.length cap, .func (.func 27) #[] #[.pointer (some ⟨gt, 0, none⟩)]] w fun e w' => e = .returned (.int .i64 (tfi t l 0)) ∧ Ext w w' := by
  refine calls_act Try.func33 rfl Try.ntmps33 rfl rfl ?_
  show Code.wp _ _ _ (act 19 [(0, true, .slice A l.length cap), (1, true, .func (.func 27) #[] #[.pointer (some ⟨gt, 0, none⟩)])] _) _
  have hX : Ext w w := Ext.rfl' w
  refine wp_seq ?_
  refine region_s ?_
  refine q_look (look_assign rfl rfl) ?_
  refine q_nil ?_
  rintro _ rfl
  refine then_normal ?_
  refine wp_seq ?_
  refine wp_seq ?_
  refine region_s ?_
  refine q_look (look_move rfl rfl) ?_
  refine q_look (look_len_slice Try.underlying34 rfl rfl) ?_
  refine q_look (look_move rfl rfl) ?_
  refine q_nil ?_
  rintro _ rfl
  refine then_normal ?_
  refine wp_block ?_
  refine loop_act (fun (k : Nat) => [(0, .slice A l.length cap), (1, .func (.func 27) #[] #[.pointer (some ⟨gt, 0, none⟩)]), (7, .int .i64 (l.length : Int)), (8, .int .i64 (k : Int))]) (fun k w' => (Ext w w') ∧ (k ≤ l.length) ∧ (tfi t l 0 = tfi t (l.drop k) (k : Int))) (fun k => l.length - k) (0) ?_ ?_ ?_
  · exact ⟨rfl, rfl, rfl, rfl, trivial⟩
  · exact ⟨hX, Nat.zero_le _, rfl⟩
  · rintro k σ wr hF
    obtain ⟨hX, hk, hf⟩ : (Ext w wr) ∧ (k ≤ l.length) ∧ (tfi t l 0 = tfi t (l.drop k) (k : Int)) := hF
    show Code.wp _ _ _ (act 19 [(0, true, .slice A l.length cap), (1, true, .func (.func 27) #[] #[.pointer (some ⟨gt, 0, none⟩)]), (7, true, .int .i64 (l.length : Int)), (8, true, .int .i64 (k : Int))] _) _
    refine wp_seq ?_
    refine region_s ?_
    refine q_look (look_lss rfl rfl rfl rfl) ?_
    refine q_nil ?_
    rintro _ rfl
    refine then_normal ?_
    refine wp_seq ?_
    refine cond_split rfl (fun hc9 => ?_) (fun hc9 => ?_)
    · have hlt : k < l.length := by simp at hc9; omega
      obtain ⟨y, hy⟩ := get_lt hlt
      obtain ⟨b1, o1, rfl, _⟩ := (hA.ext hX).at_ hlt
      refine wp_skip ?_
      refine then_normal ?_
      refine wp_seq ?_
      refine wp_block ?_
      refine wp_seq ?_
      refine region_s ?_
      refine q_look (look_move rfl rfl) ?_
      refine q_look (look_assign rfl rfl) ?_
      refine q_nil ?_
      rintro _ rfl
      refine then_normal ?_
      refine wp_seq ?_
      refine region_q ?_
      refine q_look (look_move rfl rfl) ?_
      refine q_look (look_move rfl rfl) ?_
      refine q_look (look_move rfl rfl) ?_
      refine q_look (look_indexAddr _ Try.underlying34 szTry_49 rfl rfl rfl rfl rfl (by omega)) ?_
      refine q_look (look_loadN Try.underlying49 rfl szTry_49 rfl rfl rfl (cs := wdcell y) (extn ((hA.ext hX).rd k y hy))) ?_
      refine q_callv (vs := [_]) (cap := [_]) enTry_27 rfl ⟨⟨_, rfl, rfl⟩, trivial⟩ (fun wc hw => cext hw (closure_any y t gt wc ((hW.get hy).ext (hX.comp hw)) (hT.ext (hX.comp hw)))) ?_
      refine q_nil ?_
      intro w1 hw1
      replace hX := hX.comp hw1
      refine then_normal ?_
      refine cond_split rfl (fun hc16 => ?_) (fun hc16 => ?_)
      · skip
        refine wp_seq ?_
        refine region_s ?_
        refine q_look (look_move rfl rfl) ?_
        refine q_look (look_assign rfl rfl) ?_
        refine q_nil ?_
        rintro _ rfl
        refine then_normal ?_
        refine wp_ret ?_
        refine inB_ret ?_
        refine then_ret ?_
        refine then_ret ?_
        refine inB_ret ?_
        refine then_ret ?_
        exact res1 Try.results33 rfl ⟨ret_int (by rw [hf, drop_get hy, tfi, if_pos hc16]), hX⟩
      · skip
        refine wp_skip ?_
        refine inB_normal ?_
        refine then_normal ?_
        refine region_s ?_
        refine q_look (look_add rfl rfl rfl rfl (by have := maxLen_is; unfold I64; omega)) ?_
        refine q_look (look_move rfl rfl) ?_
        refine q_nil ?_
        rintro _ rfl
        exact loop_end (k + 1) (by omega) ⟨rfl, rfl, rfl, rfl, trivial⟩ ⟨hX, by omega, by rw [hf, drop_get hy, tfi, if_neg (by rw [hc16]; decide)]; rfl⟩
    · have hge : ¬ k < l.length := by simp at hc9; omega
      refine wp_exit ?_
      refine then_exit ?_
      refine then_exit ?_
      refine inB_exit_same ?_
      refine then_normal ?_
      refine wp_seq ?_
      refine region_s ?_
      refine q_look (look_assign rfl rfl) ?_
      refine q_nil ?_
      rintro _ rfl
      refine then_normal ?_
      refine wp_ret ?_
      exact res1 Try.results33 rfl ⟨ret_int (by rw [hf, List.drop_eq_nil_of_le (by omega)]; rfl), hX⟩

theorem cf_any (l : List Wd) (A : Option Addr) (cap : Nat) (t : Tk) (gt : Nat) (w : World) (hA : Sl wdcell 8 w A l) (hW : WsOk w l) (hla : l.length ≤ maxLen) (hT : Blk w gt 52 (tcell t)) :
    Calls Try.prog 29 #[.slice A l.length cap, .func (.func 27) #[] #[.pointer (some ⟨gt, 0, none⟩)]] w fun e w' => e = .returned (.bool (passedP l t)) ∧ Ext w w' := by
  refine calls_act Try.func29 rfl Try.ntmps29 rfl rfl ?_
  show Code.wp _ _ _ (act 9 [(0, true, .slice A l.length cap), (1, true, .func (.func 27) #[] #[.pointer (some ⟨gt, 0, none⟩)])] _) _
  have hX : Ext w w := Ext.rfl' w
  refine wp_seq ?_
  refine region_s ?_
  refine q_look (look_assign rfl rfl) ?_
  refine q_nil ?_
  rintro _ rfl
  refine then_normal ?_
  refine wp_seq ?_
  refine region_q ?_
  refine q_look (look_move rfl rfl) ?_
  refine q_look (look_move rfl rfl) ?_
  refine q_call (vs := [_, _]) enTry_33 ⟨⟨_, rfl, rfl⟩, ⟨_, rfl, rfl⟩, trivial⟩ (fun wc hw => cext hw (ixf_any l A cap t gt wc (hA.ext (hX.comp hw)) (hW.ext (hX.comp hw)) hla (hT.ext (hX.comp hw)))) ?_
  refine q_look (look_geq rfl rfl rfl rfl) ?_
  refine q_look (look_assign rfl rfl) ?_
  refine q_nil ?_
  intro w1 hw1
  replace hX := hX.comp hw1
  refine then_normal ?_
  refine wp_ret ?_
  exact res1 Try.results29 rfl ⟨ret_bool (tfi_ge t l 0 (by omega)), hX⟩

theorem passed_any (l : List Wd) (A : Option Addr) (cap : Nat) (t : Tk) (w : World) (hA : Sl wdcell 8 w A l) (hW : WsOk w l) (hla : l.length ≤ maxLen) :
    Calls Try.prog 30 #[.slice A l.length cap, .agg #[.string t.seam, .int .i64 t.m]] w fun e w' => e = .returned (.bool (passedP l t)) ∧ Ext w w' := by
  refine calls_act Try.func30 rfl Try.ntmps30 rfl rfl ?_
  show Code.wp _ _ _ (act 44 [(0, true, .slice A l.length cap), (1, true, .agg #[.string t.seam, .int .i64 t.m])] _) _
  have hX : Ext w w := Ext.rfl' w
  refine wp_seq ?_
  refine wp_region_lit ?_
  refine s_box rfl ?_
  intro g1 u1 hu1 hB1 hg1 hs1
  replace hB1 : Blk u1 g1 52 (tcell t) := hB1
  have ge_g1 : w.heap.size ≤ g1 := by have := hX.size; omega
  replace hX := hX.comp hu1
  refine s_look (look_assign rfl rfl) ?_
  refine s_nil ?_
  refine then_normal ?_
  refine wp_seq ?_
  refine wp_seq ?_
  refine region_s ?_
  refine q_look (look_assign rfl rfl) ?_
  refine q_nil ?_
  rintro _ rfl
  refine then_normal ?_
  refine wp_block ?_
  refine loop_act (fun (k : Nat) => [(0, .slice A l.length cap), (3, .pointer (some ⟨g1, 0, none⟩)), (5, .int .i64 (k : Int))]) (fun k w' => (Ext w w') ∧ (Blk w' g1 52 (tcell t)) ∧ (k ≤ l.length) ∧ (passedP l t = passedP (l.drop k) t)) (fun k => l.length - k) (0) ?_ ?_ ?_
  · exact ⟨rfl, rfl, rfl, trivial⟩
  · exact ⟨hX, hB1, Nat.zero_le _, rfl⟩
  · rintro k σ wr hF
    obtain ⟨hX, hB1, hk, hp⟩ : (Ext w wr) ∧ (Blk wr g1 52 (tcell t)) ∧ (k ≤ l.length) ∧ (passedP l t = passedP (l.drop k) t) := hF
    show Code.wp _ _ _ (act 44 [(0, true, .slice A l.length cap), (3, true, .pointer (some ⟨g1, 0, none⟩)), (5, true, .int .i64 (k : Int))] _) _
    refine wp_seq ?_
    refine wp_seq ?_
    refine region_s ?_
    refine q_look (look_move rfl rfl) ?_
    refine q_look (look_move rfl rfl) ?_
    refine q_look (look_len_slice Try.underlying34 rfl rfl) ?_
    refine q_look (look_lss rfl rfl rfl rfl) ?_
    refine q_nil ?_
    rintro _ rfl
    refine then_normal ?_
    refine cond_split rfl (fun hc10 => ?_) (fun hc10 => ?_)
    · have hlt : k < l.length := by simp at hc10; omega
      obtain ⟨y, hy⟩ := get_lt hlt
      obtain ⟨b1, o1, rfl, _⟩ := (hA.ext hX).at_ hlt
      obtain ⟨ys, yst, ycl, ypr, yby, yat, yre, pA, pl, pc⟩ := y
      have hP0 : Sl icell 1 w pA pl := (hW.get hy).1
      have hPl : pl.length ≤ maxLen := (hW.get hy).2
      refine wp_skip ?_
      refine then_normal ?_
      refine wp_seq ?_
      refine wp_block ?_
      refine wp_seq ?_
      refine region_s ?_
      refine q_look (look_assign rfl rfl) ?_
      refine q_nil ?_
      rintro _ rfl
      refine then_normal ?_
      refine wp_block ?_
      refine loop_act (fun (j : Nat) => [(0, .slice (some ⟨b1, o1, none⟩) l.length cap), (3, .pointer (some ⟨g1, 0, none⟩)), (5, .int .i64 (k : Int)), (6, .int .i64 (j : Int))]) (fun j w' => (Ext w w') ∧ (Blk w' g1 52 (tcell t)) ∧ (j ≤ pl.length) ∧ (∀ m ∈ pl.take j, ¬ (ys = t.seam ∧ m = t.m))) (fun j => pl.length - j) (0) ?_ ?_ ?_
      · exact ⟨rfl, rfl, rfl, rfl, trivial⟩
      · exact ⟨hX, hB1, Nat.zero_le _, by simp⟩
      · rintro j σ wr hF
        obtain ⟨hX, hB1, hj, hn⟩ : (Ext w wr) ∧ (Blk wr g1 52 (tcell t)) ∧ (j ≤ pl.length) ∧ (∀ m ∈ pl.take j, ¬ (ys = t.seam ∧ m = t.m)) := hF
        show Code.wp _ _ _ (act 44 [(0, true, .slice (some ⟨b1, o1, none⟩) l.length cap), (3, true, .pointer (some ⟨g1, 0, none⟩)), (5, true, .int .i64 (k : Int)), (6, true, .int .i64 (j : Int))] _) _
        refine wp_seq ?_
        refine wp_seq ?_
        refine region_s ?_
        refine q_look (look_move rfl rfl) ?_
        refine q_look (look_move rfl rfl) ?_
        refine q_look (look_move rfl rfl) ?_
        refine q_look (look_indexAddr _ Try.underlying34 szTry_49 rfl rfl rfl rfl rfl (by omega)) ?_
        refine q_look (look_fieldAddr Try.underlying49 rfl (fun _ _ => rfl) rfl rfl) ?_
        refine q_look (look_load1 Try.underlying23 rfl rfl rfl (eqc (((hA.ext hX).rd k _ hy) _ _ rfl))) ?_
        refine q_look (look_len_slice Try.underlying23 rfl rfl) ?_
        refine q_look (look_lss rfl rfl rfl rfl) ?_
        refine q_nil ?_
        rintro _ rfl
        refine then_normal ?_
        refine cond_split rfl (fun hc20 => ?_) (fun hc20 => ?_)
        · have hlj : j < pl.length := by simp at hc20; omega
          obtain ⟨m, hm⟩ := get_lt hlj
          obtain ⟨b2, o2, rfl, _⟩ := (hP0.ext hX).at_ hlj
          refine wp_skip ?_
          refine then_normal ?_
          refine wp_seq ?_
          refine wp_block ?_
          refine wp_seq ?_
          refine region_qd mixed (by kernel_rfl) ?_
          refine q_look (look_move rfl rfl) ?_
          refine q_look (look_move rfl rfl) ?_
          refine q_look (look_indexAddr _ Try.underlying34 szTry_49 rfl rfl rfl rfl rfl (by omega)) ?_
          refine q_look (look_fieldAddr Try.underlying49 rfl (fun _ _ => rfl) rfl rfl) ?_
          refine q_look (look_load1 Try.underlying9 rfl rfl rfl (ext_cell (((hA.ext hX).rd k _ hy) _ _ rfl))) ?_
          refine q_look (look_fieldAddr Try.underlying52 rfl (fun _ _ => rfl) rfl rfl) ?_
          refine q_look (look_load1 Try.underlying9 rfl rfl rfl (ext_cell (hB1.cell rfl))) ?_
          refine q_look (look_eql_str rfl rfl rfl rfl) ?_
          refine q_look (look_move rfl rfl) ?_
          refine q_lookg rfl rfl rfl (fun hq => look_move rfl rfl) ?_
          refine q_lookg rfl rfl rfl (fun hq => look_move rfl rfl) ?_
          refine q_lookg rfl rfl rfl (fun hq => look_indexAddr _ Try.underlying34 szTry_49 rfl hq rfl hq rfl (by omega)) ?_
          refine q_lookg rfl rfl rfl (fun hq => look_fieldAddr Try.underlying49 rfl (fun _ _ => rfl) rfl hq) ?_
          refine q_lookg rfl rfl rfl (fun hq => look_load1 Try.underlying23 rfl rfl hq (ext_cell (((hA.ext hX).rd k _ hy) _ _ rfl))) ?_
          refine q_lookg rfl rfl rfl (fun hq => look_move rfl rfl) ?_
          refine q_lookg rfl rfl rfl (fun hq => look_indexAddr _ Try.underlying23 szTry_3 rfl hq rfl hq rfl (by omega)) ?_
          refine q_lookg rfl rfl rfl (fun hq => look_load1 Try.underlying3 rfl rfl hq (ext_cell (((hP0.ext hX).rd j m hm) 0 _ rfl))) ?_
          refine q_lookg rfl rfl rfl (fun hq => look_fieldAddr Try.underlying52 rfl (fun _ _ => rfl) rfl rfl) ?_
          refine q_lookg rfl rfl rfl (fun hq => look_load1 Try.underlying3 rfl rfl hq (ext_cell (hB1.cell rfl))) ?_
          refine q_lookg rfl rfl rfl (fun hq => look_eql rfl hq rfl hq) ?_
          refine q_look (look_and rfl rfl rfl rfl) ?_
          refine q_nil ?_
          intro w1 hw1
          replace hX := hX.comp hw1
          replace hB1 := hB1.ext hw1
          refine then_normal ?_
          refine cond_split rfl (fun hc43 => ?_) (fun hc43 => ?_)
          · skip
            refine wp_seq ?_
            refine region_s ?_
            refine q_look (look_assign rfl rfl) ?_
            refine q_nil ?_
            rintro _ rfl
            refine then_normal ?_
            refine wp_ret ?_
            refine inB_ret ?_
            refine then_ret ?_
            refine then_ret ?_
            refine inB_ret ?_
            refine inB_ret ?_
            refine then_ret ?_
            refine then_ret ?_
            refine inB_ret ?_
            refine then_ret ?_
            exact res1 Try.results30 rfl ⟨ret_bool (by rw [hp, drop_get hy, passed_cons]; have h := hc43; simp only [Bool.and_eq_true, decide_eq_true_eq] at h; have hmem : t.m ∈ pl := h.2 ▸ List.mem_of_getElem? hm; simp [h.1, hmem]), hX⟩
          · skip
            refine wp_skip ?_
            refine inB_normal ?_
            refine then_normal ?_
            refine region_s ?_
            refine q_look (look_move rfl rfl) ?_
            refine q_look (look_add rfl rfl rfl rfl (by have := maxLen_is; unfold I64; omega)) ?_
            refine q_look (look_assign rfl rfl) ?_
            refine q_nil ?_
            rintro _ rfl
            exact loop_end (j + 1) (by omega) ⟨rfl, rfl, rfl, rfl, trivial⟩ ⟨hX, hB1, by omega, by rw [take_get hm]; intro q hq; rcases List.mem_append.1 hq with hq | hq; exact hn q hq; rw [List.mem_singleton.1 hq]; simpa using hc43⟩
        · have hgj : ¬ j < pl.length := by simp at hc20; omega
          have hno : (decide (ys = t.seam) && decide (t.m ∈ pl)) = false := by
            rw [Bool.and_eq_false_iff, decide_eq_false_iff_not, decide_eq_false_iff_not]
            by_cases he : ys = t.seam
            · right; intro hmem; exact hn t.m (by rw [List.take_of_length_le (by omega)]; exact hmem) ⟨he, rfl⟩
            · exact .inl he
          refine wp_exit ?_
          refine then_exit ?_
          refine then_exit ?_
          refine inB_exit_same ?_
          refine inB_normal ?_
          refine then_normal ?_
          refine region_s ?_
          refine q_look (look_move rfl rfl) ?_
          refine q_look (look_add rfl rfl rfl rfl (by have := maxLen_is; unfold I64; omega)) ?_
          refine q_look (look_assign rfl rfl) ?_
          refine q_nil ?_
          rintro _ rfl
          exact loop_end (k + 1) (by omega) ⟨rfl, rfl, rfl, trivial⟩ ⟨hX, hB1, by omega, by rw [hp, drop_get hy, passed_cons, hno]; rfl⟩
    · have hge : ¬ k < l.length := by simp at hc10; omega
      refine wp_exit ?_
      refine then_exit ?_
      refine then_exit ?_
      refine inB_exit_same ?_
      refine then_normal ?_
      refine wp_seq ?_
      refine region_s ?_
      refine q_look (look_assign rfl rfl) ?_
      refine q_nil ?_
      rintro _ rfl
      refine then_normal ?_
      refine wp_ret ?_
      exact res1 Try.results30 rfl ⟨ret_bool (by rw [hp, List.drop_eq_nil_of_le (by omega)]; rfl), hX⟩

end Go.Proofs.Ytobgfnlfbjodjaa
