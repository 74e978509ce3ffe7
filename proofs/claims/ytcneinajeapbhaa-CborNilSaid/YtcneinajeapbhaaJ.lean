/- The walks of chapter 05 (cbor): any reads, in any order. -/
import Derived.Test.YtcneinajeapbhaaI
namespace Go.Proofs.Ytcneinajeapbhaa
open Go Go.RowKit Core
set_option linter.unusedVariables false
set_option linter.unusedSimpArgs false
attribute [local irreducible] wpQuiet wpList wpH wpT Code.wp Calls bodyPost act


def AcOk (a : Ac) : Prop := I64 a.d ∧ I64 a.lo ∧ I64 a.hi
theorem int_bd {r : List UInt8} {e0 low high x e : Int} {c : Nat} (h : intR r e0 low high = (x, c, e)) : c ≤ r.length ∧ (¬ e = 0 → x = 0 ∧ c = 0) ∧ (¬ e0 = 0 → e = e0) := by
  by_cases h0 : e0 = 0
  · subst h0
    obtain ⟨h1, h2, h3, h4⟩ := int_once h
    refine ⟨h2, fun he => ⟨?_, h3 he⟩, fun h => absurd rfl h⟩
    unfold intR at h
    rw [if_pos rfl] at h
    unfold intQ at h
    split at h
    · cases h; rfl
    · split at h
      · cases h; rfl
      · generalize (if (peekP r 0 1).1 = 1 then -1 - (peekP r 0 1).2.1 else (peekP r 0 1).2.1) = X at h
        split at h
        · cases h; rfl
        · cases h; exact absurd rfl he
  · unfold intR at h
    rw [if_neg h0] at h
    cases h
    exact ⟨by omega, fun _ => ⟨rfl, rfl⟩, fun _ => rfl⟩
theorem count_bd {r : List UInt8} {e0 kd most x e : Int} {c : Nat} {f : Bool} (hk : 0 ≤ kd ∧ kd ≤ 7) (hm : I64 most) (h : countR r e0 kd most f = (x, c, e)) : c ≤ r.length ∧ (¬ e = 0 → x = 0 ∧ c = 0) ∧ (¬ e0 = 0 → e = e0) := by
  obtain ⟨h1, h2, h3, h4, h5, h6⟩ := count_ok hk hm h
  refine ⟨h3, h6, fun h0 => ?_⟩
  unfold countR at h
  rw [if_neg h0] at h
  cases h; rfl
theorem text_bd {r t : List UInt8} {e0 most e : Int} {c : Nat} (hm : I64 most) (h : textR r e0 most = (t, c, e)) : c ≤ r.length ∧ (¬ e = 0 → t = [] ∧ c = 0) ∧ (¬ e0 = 0 → e = e0) := by
  obtain ⟨n, c0, e', hc⟩ : ∃ n c e, countR r e0 2 most true = (n, c, e) := ⟨_, _, _, rfl⟩
  obtain ⟨h1, h2, h3, h4, h5, h6⟩ := count_ok (by omega) hm hc
  obtain ⟨h7, h8, h9⟩ := count_bd (by omega) hm hc
  replace h4 := h4 rfl
  unfold textR at h
  rw [hc] at h
  cases h
  refine ⟨by show c0 + n.toNat ≤ _; omega, fun he => ?_, h9⟩
  obtain ⟨rfl, rfl⟩ := h8 he
  exact ⟨rfl, rfl⟩
theorem bool_bd {r : List UInt8} {b : Bool} {e0 e : Int} {c : Nat} (h : boolR r e0 = (b, c, e)) : c ≤ r.length ∧ (¬ e = 0 → b = false ∧ c = 0) ∧ (¬ e0 = 0 → e = e0) := by
  by_cases h0 : e0 = 0
  · subst h0
    obtain ⟨h1, h2, h3⟩ := bool_once h
    refine ⟨h1, fun he => ⟨?_, h2 he⟩, fun h => absurd rfl h⟩
    unfold boolR at h
    rw [if_pos rfl] at h
    split at h
    · cases h; rfl
    · split at h
      · cases h; rfl
      · split at h
        · cases h; exact absurd rfl he
        · cases h; rfl
  · unfold boolR at h
    rw [if_neg h0] at h
    cases h
    exact ⟨by omega, fun _ => ⟨rfl, rfl⟩, fun _ => rfl⟩
theorem stays {n : Int} {t : List UInt8} {bb : Bool} {e e1 : Int} {c left : Nat} (h1 : ¬ e1 = 0 → n = 0 ∧ t = [] ∧ bb = false ∧ c = 0) (h2 : ¬ e = 0 → e1 = e) (hc : c ≤ left) :
    ((((!decide (e1 = 0)) && (((!decide (n = 0) || !decide (ofL t = ⟨#[]⟩)) || bb) || !decide (((left - c : Nat) : Int) = (left : Int)))) || ((!decide (e = 0)) && !decide (e1 = e))) || decide ((left : Int) < ((left - c : Nat) : Int))) = false := by
  rw [decide_eq_false (p := (left : Int) < ((left - c : Nat) : Int)) (by omega), Bool.or_false]
  by_cases h : e1 = 0
  · by_cases h0 : e = 0
    · rw [decide_eq_true h, decide_eq_true h0]; rfl
    · exact absurd ((h2 h0).symm.trans h) h0
  · obtain ⟨rfl, rfl, rfl, rfl⟩ := h1 h
    have : decide (ofL [] = ⟨#[]⟩) = true := rfl
    rw [this]
    by_cases h0 : e = 0
    · simp [h0]
    · rw [h2 h0]; simp

theorem law_stays (s : List UInt8) (l : List Ac) (A : Option Addr) (cap : Nat) (w : World) (hs0 : s.length ≤ maxLen) (hA : Sl acell 3 w A l) (hI : ∀ x ∈ l, AcOk x) (hla : l.length ≤ maxLen) :
    Calls Try.prog 9 #[.string (ofL s), .slice A l.length cap] w fun e w' => e = .returned (.bool (true)) ∧ Ext w w' := by
  refine calls_act Try.func9 rfl Try.ntmps9 rfl rfl ?_
  show Code.wp _ _ _ (act 118 [(0, true, .string (ofL s)), (1, true, .slice A l.length cap)] _) _
  have hX : Ext w w := Ext.rfl' w
  refine wp_seq ?_
  refine region_s ?_
  refine q_look (look_assign rfl rfl) ?_
  refine q_nil ?_
  rintro _ rfl
  refine then_normal ?_
  refine wp_seq ?_
  refine wp_seq ?_
  refine region_s ?_
  refine q_look (look_move rfl rfl) ?_
  refine q_look (Look.as (look_len_string Try.underlying9 rfl rfl) (by rw [ofL_size]) (v' := .int .i64 (s.length : Int))) ?_
  refine q_look (look_gtr rfl rfl rfl rfl) ?_
  refine q_look (look_move rfl rfl) ?_
  refine q_lookg rfl rfl rfl (fun hq => look_move rfl rfl) ?_
  refine q_lookg rfl rfl rfl (fun hq => look_len_slice Try.underlying41 rfl hq) ?_
  refine q_lookg rfl rfl rfl (fun hq => look_gtr rfl hq rfl rfl) ?_
  refine q_look (look_or rfl rfl rfl rfl) ?_
  refine q_nil ?_
  rintro _ rfl
  refine then_normal ?_
  refine cond_split rfl (fun hc19 => ?_) (fun hc19 => ?_)
  · simp only [Bool.and_eq_true, Bool.or_eq_true, Bool.not_eq_true', decide_eq_true_eq, decide_eq_false_iff_not] at hc19
    refine wp_seq ?_
    refine region_q ?_
    refine q_call (vs := []) enTry_11 trivial (fun wc hw => cext hw (awake_any wc)) ?_
    refine q_look (look_assign rfl rfl) ?_
    refine q_nil ?_
    intro w1 hw1
    replace hX := hX.comp hw1
    refine then_normal ?_
    refine wp_ret ?_
    refine then_ret ?_
    exact res1 Try.results9 rfl ⟨rfl, hX⟩
  · have hlen : s.length ≤ 2000 ∧ l.length ≤ 60 := by rw [Bool.or_eq_false_iff] at hc19; have := nn_f hc19.1; have := nn_f hc19.2; omega
    refine wp_skip ?_
    refine then_normal ?_
    refine wp_seq ?_
    refine wp_region_lit ?_
    refine s_look (look_move rfl rfl) ?_
    refine s_call (vs := [_]) enTry_20 ⟨⟨_, rfl, rfl⟩, trivial⟩ (new_any s _) ?_
    rintro _ u1 ⟨g1, rfl, hu1, hB1, hg1⟩
    refine ⟨_, rfl, ?_⟩
    have ge_g1 : w.heap.size ≤ g1 := by have := hX.size; omega
    replace hX := hX.comp hu1
    refine s_look (look_assign rfl rfl) ?_
    refine s_nil ?_
    refine then_normal ?_
    refine wp_seq ?_
    refine wp_seq ?_
    refine region_s ?_
    refine q_look (look_move rfl rfl) ?_
    refine q_look (look_eql_nil Try.underlying28 rfl rfl rfl rfl) ?_
    refine q_nil ?_
    rintro _ rfl
    refine then_normal ?_
    refine cond_false rfl rfl ?_
    refine wp_skip ?_
    refine then_normal ?_
    refine wp_seq ?_
    refine wp_seq ?_
    refine region_s ?_
    refine q_look (look_assign rfl rfl) ?_
    refine q_nil ?_
    rintro _ rfl
    refine then_normal ?_
    refine wp_block ?_
    refine loop_act (fun (ls : Nat × List UInt8 × Int) => [(0, .string (ofL s)), (1, .slice A l.length cap), (5, .pointer (some ⟨g1, 0, none⟩)), (6, .int .i64 (ls.1 : Int))]) (fun ls w' => (Ext w w') ∧ (Blk w' g1 57 (rcell ls.2.1 ls.2.2)) ∧ (ls.1 ≤ l.length) ∧ (ls.2.1.length ≤ 2000)) (fun ls => l.length - ls.1) ((0, s, 0)) ?_ ?_ ?_
    · exact ⟨rfl, rfl, rfl, rfl, trivial⟩
    · exact ⟨hX, hB1, Nat.zero_le _, hlen.1⟩
    · rintro ⟨i, rest, e⟩ σ wr hF
      obtain ⟨hX, hB1, hi, hrl⟩ : (Ext w wr) ∧ (Blk wr g1 57 (rcell rest e)) ∧ (i ≤ l.length) ∧ (rest.length ≤ 2000) := hF
      show Code.wp _ _ _ (act 118 [(0, true, .string (ofL s)), (1, true, .slice A l.length cap), (5, true, .pointer (some ⟨g1, 0, none⟩)), (6, true, .int .i64 (i : Int))] _) _
      refine wp_seq ?_
      refine wp_seq ?_
      refine region_s ?_
      refine q_look (look_move rfl rfl) ?_
      refine q_look (look_move rfl rfl) ?_
      refine q_look (look_len_slice Try.underlying41 rfl rfl) ?_
      refine q_look (look_lss rfl rfl rfl rfl) ?_
      refine q_nil ?_
      rintro _ rfl
      refine then_normal ?_
      refine cond_split rfl (fun hc28 => ?_) (fun hc28 => ?_)
      · have hlt : i < l.length := by have := nn_t hc28; omega
        obtain ⟨x, hx⟩ := get_lt hlt
        obtain ⟨b1, o1, rfl, _⟩ := (hA.ext hX).at_ hlt
        obtain ⟨hI1, hI2, hI3⟩ := hI x (mem_get hx)
        refine wp_skip ?_
        refine then_normal ?_
        refine wp_seq ?_
        refine wp_block ?_
        refine wp_seq ?_
        refine region_q ?_
        refine q_look (look_move rfl rfl) ?_
        refine q_call (vs := [_]) enTry_23 ⟨⟨_, rfl, rfl⟩, trivial⟩ (fun wc hw => cext hw (err_any g1 _ _ wc (hB1.ext hw))) ?_
        refine q_look (look_move rfl rfl) ?_
        refine q_call (vs := [_]) enTry_24 ⟨⟨_, rfl, rfl⟩, trivial⟩ (fun wc hw => cext hw (left_any g1 _ _ wc (hB1.ext hw))) ?_
        refine q_look (look_assign rfl rfl) ?_
        refine q_look (look_assign rfl rfl) ?_
        refine q_nil ?_
        intro w2 hw2
        replace hX := hX.comp hw2
        replace hB1 := hB1.ext hw2
        refine then_normal ?_
        refine wp_seq ?_
        refine region_s ?_
        refine q_look (look_assign rfl rfl) ?_
        refine q_look (look_assign rfl rfl) ?_
        refine q_look (look_assign rfl rfl) ?_
        refine q_nil ?_
        rintro _ rfl
        refine then_normal ?_
        refine seq_cut (n := 118) (fun (cs : Int × List UInt8 × Bool × Nat × Int) => [(0, .string (ofL s)), (1, .slice (some ⟨b1, o1, none⟩) l.length cap), (5, .pointer (some ⟨g1, 0, none⟩)), (6, .int .i64 (i : Int)), (7, .int .i64 e), (8, .int .i64 (rest.length : Int)), (9, .int .i64 cs.1), (10, .string (ofL cs.2.1)), (11, .bool cs.2.2.1)]) (fun cs w' => (Ext w w') ∧ (Blk w' g1 57 (rcell (rest.drop cs.2.2.2.1) cs.2.2.2.2)) ∧ (¬ cs.2.2.2.2 = 0 → cs.1 = 0 ∧ cs.2.1 = [] ∧ cs.2.2.1 = false ∧ cs.2.2.2.1 = 0) ∧ (¬ e = 0 → cs.2.2.2.2 = e) ∧ (cs.2.2.2.1 ≤ rest.length)) ?_ ?_
        · refine wp_seq ?_
          refine region_s ?_
          refine q_look (look_move rfl rfl) ?_
          refine q_look (look_move rfl rfl) ?_
          refine q_look (look_indexAddr _ Try.underlying41 szTry_45 rfl rfl rfl rfl rfl (by omega)) ?_
          refine q_look (look_fieldAddr Try.underlying45 rfl (fun _ _ => rfl) rfl rfl) ?_
          refine q_look (look_load1 Try.underlying3 rfl rfl rfl (eqc (((hA.ext hX).rd i x hx) _ _ rfl))) ?_
          refine q_look (look_eql rfl rfl rfl rfl) ?_
          refine q_nil ?_
          rintro _ rfl
          refine then_normal ?_
          refine cond_split rfl (fun hc40 => ?_) (fun hc40 => ?_)
          · skip
            obtain ⟨z, c, e1, hz⟩ : ∃ z c e', intR rest e x.lo x.hi = (z, c, e') := ⟨_, _, _, rfl⟩
            obtain ⟨q1, q2, q3⟩ := int_bd hz
            refine region_h (fun W => Ext w W) [(0, true), (1, true), (2, true), (3, true), (4, true), (5, true), (6, true), (7, true), (8, true), (9, true), (10, true), (11, false), (12, true)] mixed (by kernel_rfl) rfl (by kernel_rfl) (by repeat (first | exact pk_body | refine pk_then ?_ | refine pk_block ?_)) ?_
            intro u2 hR2
            replace hX := hX.comp hR2
            replace hB1 := hB1.ext hR2
            refine ⟨hX, ?_⟩
            refine h_look rfl (look_move rfl rfl) ?_
            refine h_look rfl (look_move rfl rfl) ?_
            refine h_look rfl (look_move rfl rfl) ?_
            refine h_look rfl (look_indexAddr _ Try.underlying41 szTry_45 rfl rfl rfl rfl rfl (by omega)) ?_
            refine h_look rfl (look_fieldAddr Try.underlying45 rfl (fun _ _ => rfl) rfl rfl) ?_
            refine h_look rfl (look_load1 Try.underlying3 rfl rfl rfl (fun w' hS => ((hA.ext hS).rd i x hx) _ _ rfl)) ?_
            refine h_look rfl (look_move rfl rfl) ?_
            refine h_look rfl (look_move rfl rfl) ?_
            refine h_look rfl (look_indexAddr _ Try.underlying41 szTry_45 rfl rfl rfl rfl rfl (by omega)) ?_
            refine h_look rfl (look_fieldAddr Try.underlying45 rfl (fun _ _ => rfl) rfl rfl) ?_
            refine h_look rfl (look_load1 Try.underlying3 rfl rfl rfl (fun w' hS => ((hA.ext hS).rd i x hx) _ _ rfl)) ?_
            refine h_seq rfl ?_ hX
            refine s_call (vs := [_, _, _]) enTry_22 ⟨⟨_, rfl, rfl⟩, ⟨_, rfl, rfl⟩, ⟨_, rfl, rfl⟩, trivial⟩ ((by have := int_reads g1 rest e x.lo x.hi _ hB1 (by omega); rw [hz] at this; exact this)) ?_
            rintro _ u3 ⟨rfl, hm3, hT3⟩
            refine ⟨_, rfl, ?_⟩
            replace hX := hX.mut hm3 (by omega)
            clear hB1
            have hB1 := hT3
            refine s_nil ?_
            refine then_normal ?_
            refine ⟨hX, ?_⟩
            refine h_look rfl (look_assign rfl rfl) ?_
            refine h_nil ?_
            exact cut_end (_, _, _, _, _) ⟨rfl, rfl, rfl, rfl, rfl, rfl, rfl, rfl, rfl, trivial⟩ ⟨hX, hB1, fun h => by first | exact ⟨(q2 h).1, rfl, rfl, (q2 h).2⟩ | exact ⟨rfl, (q2 h).1, rfl, (q2 h).2⟩ | exact ⟨rfl, rfl, (q2 h).1, (q2 h).2⟩, q3, q1⟩
          · skip
            refine wp_seq ?_
            refine region_s ?_
            refine q_look (look_move rfl rfl) ?_
            refine q_look (look_move rfl rfl) ?_
            refine q_look (look_indexAddr _ Try.underlying41 szTry_45 rfl rfl rfl rfl rfl (by omega)) ?_
            refine q_look (look_fieldAddr Try.underlying45 rfl (fun _ _ => rfl) rfl rfl) ?_
            refine q_look (look_load1 Try.underlying3 rfl rfl rfl (eqc (((hA.ext hX).rd i x hx) _ _ rfl))) ?_
            refine q_look (look_eql rfl rfl rfl rfl) ?_
            refine q_nil ?_
            rintro _ rfl
            refine then_normal ?_
            refine cond_split rfl (fun hc58 => ?_) (fun hc58 => ?_)
            · skip
              obtain ⟨z, c, e1, hz⟩ : ∃ z c e', textR rest e x.hi = (z, c, e') := ⟨_, _, _, rfl⟩
              obtain ⟨q1, q2, q3⟩ := text_bd hI3 hz
              refine wp_region_lit ?_
              refine s_look (look_move rfl rfl) ?_
              refine s_look (look_move rfl rfl) ?_
              refine s_look (look_move rfl rfl) ?_
              refine s_look (look_indexAddr _ Try.underlying41 szTry_45 rfl rfl rfl rfl rfl (by omega)) ?_
              refine s_look (look_fieldAddr Try.underlying45 rfl (fun _ _ => rfl) rfl rfl) ?_
              refine s_look (look_load1 Try.underlying3 rfl rfl rfl (eqc (((hA.ext hX).rd i x hx) _ _ rfl))) ?_
              refine s_call (vs := [_, _]) enTry_26 ⟨⟨_, rfl, rfl⟩, ⟨_, rfl, rfl⟩, trivial⟩ ((by have := text_reads g1 rest e x.hi _ hB1 (by omega) hI3; rw [hz] at this; exact this)) ?_
              rintro _ u4 ⟨rfl, hm4, hT4⟩
              refine ⟨_, rfl, ?_⟩
              replace hX := hX.mut hm4 (by omega)
              clear hB1
              have hB1 := hT4
              refine s_look (look_assign rfl rfl) ?_
              refine s_nil ?_
              exact cut_end (_, _, _, _, _) ⟨rfl, rfl, rfl, rfl, rfl, rfl, rfl, rfl, rfl, trivial⟩ ⟨hX, hB1, fun h => by first | exact ⟨(q2 h).1, rfl, rfl, (q2 h).2⟩ | exact ⟨rfl, (q2 h).1, rfl, (q2 h).2⟩ | exact ⟨rfl, rfl, (q2 h).1, (q2 h).2⟩, q3, q1⟩
            · skip
              refine wp_seq ?_
              refine region_s ?_
              refine q_look (look_move rfl rfl) ?_
              refine q_look (look_move rfl rfl) ?_
              refine q_look (look_indexAddr _ Try.underlying41 szTry_45 rfl rfl rfl rfl rfl (by omega)) ?_
              refine q_look (look_fieldAddr Try.underlying45 rfl (fun _ _ => rfl) rfl rfl) ?_
              refine q_look (look_load1 Try.underlying3 rfl rfl rfl (eqc (((hA.ext hX).rd i x hx) _ _ rfl))) ?_
              refine q_look (look_eql rfl rfl rfl rfl) ?_
              refine q_nil ?_
              rintro _ rfl
              refine then_normal ?_
              refine cond_split rfl (fun hc71 => ?_) (fun hc71 => ?_)
              · skip
                obtain ⟨z, c, e1, hz⟩ : ∃ z c e', boolR rest e = (z, c, e') := ⟨_, _, _, rfl⟩
                obtain ⟨q1, q2, q3⟩ := bool_bd hz
                refine wp_region_lit ?_
                refine s_look (look_move rfl rfl) ?_
                refine s_call (vs := [_]) enTry_27 ⟨⟨_, rfl, rfl⟩, trivial⟩ ((by have := bool_reads g1 rest e _ hB1; rw [hz] at this; exact this)) ?_
                rintro _ u5 ⟨rfl, hm5, hT5⟩
                refine ⟨_, rfl, ?_⟩
                replace hX := hX.mut hm5 (by omega)
                clear hB1
                have hB1 := hT5
                refine s_look (look_assign rfl rfl) ?_
                refine s_nil ?_
                exact cut_end (_, _, _, _, _) ⟨rfl, rfl, rfl, rfl, rfl, rfl, rfl, rfl, rfl, trivial⟩ ⟨hX, hB1, fun h => by first | exact ⟨(q2 h).1, rfl, rfl, (q2 h).2⟩ | exact ⟨rfl, (q2 h).1, rfl, (q2 h).2⟩ | exact ⟨rfl, rfl, (q2 h).1, (q2 h).2⟩, q3, q1⟩
              · skip
                obtain ⟨z, c, e1, hz⟩ : ∃ z c e', countR rest e 4 x.hi false = (z, c, e') := ⟨_, _, _, rfl⟩
                obtain ⟨q1, q2, q3⟩ := count_bd (by omega) hI3 hz
                refine wp_region_lit ?_
                refine s_look (look_move rfl rfl) ?_
                refine s_look (look_move rfl rfl) ?_
                refine s_look (look_move rfl rfl) ?_
                refine s_look (look_indexAddr _ Try.underlying41 szTry_45 rfl rfl rfl rfl rfl (by omega)) ?_
                refine s_look (look_fieldAddr Try.underlying45 rfl (fun _ _ => rfl) rfl rfl) ?_
                refine s_look (look_load1 Try.underlying3 rfl rfl rfl (eqc (((hA.ext hX).rd i x hx) _ _ rfl))) ?_
                refine s_call (vs := [_, _]) enTry_21 ⟨⟨_, rfl, rfl⟩, ⟨_, rfl, rfl⟩, trivial⟩ ((by have := list_reads g1 rest e x.hi _ hB1 (by omega) hI3; rw [hz] at this; exact this)) ?_
                rintro _ u6 ⟨rfl, hm6, hT6⟩
                refine ⟨_, rfl, ?_⟩
                replace hX := hX.mut hm6 (by omega)
                clear hB1
                have hB1 := hT6
                refine s_look (look_assign rfl rfl) ?_
                refine s_nil ?_
                exact cut_end (_, _, _, _, _) ⟨rfl, rfl, rfl, rfl, rfl, rfl, rfl, rfl, rfl, trivial⟩ ⟨hX, hB1, fun h => by first | exact ⟨(q2 h).1, rfl, rfl, (q2 h).2⟩ | exact ⟨rfl, (q2 h).1, rfl, (q2 h).2⟩ | exact ⟨rfl, rfl, (q2 h).1, (q2 h).2⟩, q3, q1⟩
        · rintro ⟨n, t, bb, c, e1⟩ σ wr hF
          obtain ⟨hX, hB1, h1, h2, hcr⟩ : (Ext w wr) ∧ (Blk wr g1 57 (rcell (rest.drop c) e1)) ∧ (¬ e1 = 0 → n = 0 ∧ t = [] ∧ bb = false ∧ c = 0) ∧ (¬ e = 0 → e1 = e) ∧ (c ≤ rest.length) := hF
          show Code.wp _ _ _ (act 118 [(0, true, .string (ofL s)), (1, true, .slice (some ⟨b1, o1, none⟩) l.length cap), (5, true, .pointer (some ⟨g1, 0, none⟩)), (6, true, .int .i64 (i : Int)), (7, true, .int .i64 e), (8, true, .int .i64 (rest.length : Int)), (9, true, .int .i64 n), (10, true, .string (ofL t)), (11, true, .bool bb)] _) _
          refine wp_seq ?_
          refine region_q ?_
          refine q_look (look_move rfl rfl) ?_
          refine q_call (vs := [_]) enTry_23 ⟨⟨_, rfl, rfl⟩, trivial⟩ (fun wc hw => cext hw (err_any g1 _ _ wc (hB1.ext hw))) ?_
          refine q_look (look_neq rfl rfl rfl rfl) ?_
          refine q_look (look_move rfl rfl) ?_
          refine q_lookg rfl rfl rfl (fun hq => look_move rfl rfl) ?_
          refine q_lookg rfl rfl rfl (fun hq => look_neq rfl hq rfl rfl) ?_
          refine q_lookg rfl rfl rfl (fun hq => look_move rfl hq) ?_
          refine q_lookg rfl rfl rfl (fun hq => look_move rfl rfl) ?_
          refine q_lookg rfl rfl rfl (fun hq => look_neq_str rfl hq rfl rfl) ?_
          refine q_lookg rfl rfl rfl (fun hq => look_or rfl hq rfl hq) ?_
          refine q_lookg rfl rfl rfl (fun hq => look_move rfl hq) ?_
          refine q_lookg rfl rfl rfl (fun hq => look_move rfl rfl) ?_
          refine q_lookg rfl rfl rfl (fun hq => look_or rfl hq rfl hq) ?_
          refine q_lookg rfl rfl rfl (fun hq => look_move rfl hq) ?_
          refine q_lookg rfl rfl rfl (fun hq => look_move rfl rfl) ?_
          refine q_callg (vs := [_]) rfl rfl rfl enTry_24 (fun hq => ⟨⟨_, rfl, hq⟩, trivial⟩) (fun hq wc hw => cext hw (left_any g1 _ _ wc (hB1.ext hw))) ?_
          refine q_lookg rfl rfl rfl (fun hq => look_move rfl rfl) ?_
          refine q_lookg rfl rfl rfl (fun hq => look_neq rfl hq rfl hq) ?_
          refine q_lookg rfl rfl rfl (fun hq => look_or rfl hq rfl hq) ?_
          refine q_look (look_and rfl rfl rfl rfl) ?_
          refine q_look (look_move rfl rfl) ?_
          refine q_lookg rfl rfl rfl (fun hq => look_move rfl rfl) ?_
          refine q_lookg rfl rfl rfl (fun hq => look_neq rfl hq rfl rfl) ?_
          refine q_lookg rfl rfl rfl (fun hq => look_move rfl hq) ?_
          refine q_lookg rfl rfl rfl (fun hq => look_move rfl rfl) ?_
          refine q_callg (vs := [_]) rfl rfl rfl enTry_23 (fun hq => ⟨⟨_, rfl, hq⟩, trivial⟩) (fun hq wc hw => cext hw (err_any g1 _ _ wc (hB1.ext hw))) ?_
          refine q_lookg rfl rfl rfl (fun hq => look_move rfl rfl) ?_
          refine q_lookg rfl rfl rfl (fun hq => look_neq rfl hq rfl hq) ?_
          refine q_lookg rfl rfl rfl (fun hq => look_and rfl hq rfl hq) ?_
          refine q_look (look_or rfl rfl rfl rfl) ?_
          refine q_look (look_move rfl rfl) ?_
          refine q_lookg rfl rfl rfl (fun hq => look_move rfl rfl) ?_
          refine q_callg (vs := [_]) rfl rfl rfl enTry_24 (fun hq => ⟨⟨_, rfl, hq⟩, trivial⟩) (fun hq wc hw => cext hw (left_any g1 _ _ wc (hB1.ext hw))) ?_
          refine q_lookg rfl rfl rfl (fun hq => look_move rfl rfl) ?_
          refine q_lookg rfl rfl rfl (fun hq => look_gtr rfl hq rfl hq) ?_
          refine q_look (look_or rfl rfl rfl rfl) ?_
          refine q_nil ?_
          intro w3 hw3
          replace hX := hX.comp hw3
          replace hB1 := hB1.ext hw3
          refine then_normal ?_
          refine cond_false rfl (by have := stays h1 h2 hcr; rw [List.length_drop]; exact this) ?_
          refine wp_skip ?_
          refine inB_normal ?_
          refine then_normal ?_
          refine region_s ?_
          refine q_look (look_move rfl rfl) ?_
          refine q_look (look_add rfl rfl rfl rfl (by have := maxLen_is; unfold I64; omega)) ?_
          refine q_look (look_assign rfl rfl) ?_
          refine q_nil ?_
          rintro _ rfl
          exact loop_end ((i + 1, rest.drop c, e1)) (by simp only []; omega) ⟨rfl, rfl, rfl, rfl, trivial⟩ ⟨hX, hB1, by show i + 1 ≤ l.length; omega, by show (rest.drop c).length ≤ 2000; rw [List.length_drop]; omega⟩
      · skip
        refine wp_exit ?_
        refine then_exit ?_
        refine then_exit ?_
        refine inB_exit_same ?_
        refine then_normal ?_
        refine wp_seq ?_
        refine region_q ?_
        refine q_call (vs := []) enTry_11 trivial (fun wc hw => cext hw (awake_any wc)) ?_
        refine q_look (look_assign rfl rfl) ?_
        refine q_nil ?_
        intro w4 hw4
        replace hX := hX.comp hw4
        replace hB1 := hB1.ext hw4
        refine then_normal ?_
        refine wp_ret ?_
        exact res1 Try.results9 rfl ⟨rfl, hX⟩

theorem law_reads (s : List UInt8) (l : List Ac) (A : Option Addr) (cap : Nat) (w : World) (hs0 : s.length ≤ maxLen) (hA : Sl acell 3 w A l) (hI : ∀ x ∈ l, AcOk x) (hla : l.length ≤ maxLen) :
    Calls Try.prog 7 #[.string (ofL s), .slice A l.length cap] w fun e w' => e = .returned (.bool (true)) ∧ Ext w w' := by
  refine calls_act Try.func7 rfl Try.ntmps7 rfl rfl ?_
  show Code.wp _ _ _ (act 121 [(0, true, .string (ofL s)), (1, true, .slice A l.length cap)] _) _
  have hX : Ext w w := Ext.rfl' w
  refine wp_seq ?_
  refine region_s ?_
  refine q_look (look_assign rfl rfl) ?_
  refine q_nil ?_
  rintro _ rfl
  refine then_normal ?_
  refine wp_seq ?_
  refine wp_seq ?_
  refine region_s ?_
  refine q_look (look_move rfl rfl) ?_
  refine q_look (Look.as (look_len_string Try.underlying9 rfl rfl) (by rw [ofL_size]) (v' := .int .i64 (s.length : Int))) ?_
  refine q_look (look_gtr rfl rfl rfl rfl) ?_
  refine q_look (look_move rfl rfl) ?_
  refine q_lookg rfl rfl rfl (fun hq => look_move rfl rfl) ?_
  refine q_lookg rfl rfl rfl (fun hq => look_len_slice Try.underlying41 rfl hq) ?_
  refine q_lookg rfl rfl rfl (fun hq => look_gtr rfl hq rfl rfl) ?_
  refine q_look (look_or rfl rfl rfl rfl) ?_
  refine q_nil ?_
  rintro _ rfl
  refine then_normal ?_
  refine cond_split rfl (fun hc17 => ?_) (fun hc17 => ?_)
  · simp only [Bool.and_eq_true, Bool.or_eq_true, Bool.not_eq_true', decide_eq_true_eq, decide_eq_false_iff_not] at hc17
    refine wp_seq ?_
    refine region_q ?_
    refine q_call (vs := []) enTry_11 trivial (fun wc hw => cext hw (awake_any wc)) ?_
    refine q_look (look_assign rfl rfl) ?_
    refine q_nil ?_
    intro w1 hw1
    replace hX := hX.comp hw1
    refine then_normal ?_
    refine wp_ret ?_
    refine then_ret ?_
    exact res1 Try.results7 rfl ⟨rfl, hX⟩
  · have hlen : s.length ≤ 2000 ∧ l.length ≤ 60 := by rw [Bool.or_eq_false_iff] at hc17; have := nn_f hc17.1; have := nn_f hc17.2; omega
    refine wp_skip ?_
    refine then_normal ?_
    refine wp_seq ?_
    refine wp_region_lit ?_
    refine s_look (look_move rfl rfl) ?_
    refine s_call (vs := [_]) enTry_20 ⟨⟨_, rfl, rfl⟩, trivial⟩ (new_any s _) ?_
    rintro _ u1 ⟨g1, rfl, hu1, hB1, hg1⟩
    refine ⟨_, rfl, ?_⟩
    have ge_g1 : w.heap.size ≤ g1 := by have := hX.size; omega
    replace hX := hX.comp hu1
    refine s_look (look_move rfl rfl) ?_
    refine s_call (vs := [_]) enTry_28 ⟨⟨_, rfl, rfl⟩, trivial⟩ (refnew_any s _) ?_
    rintro _ u2 ⟨g2, rfl, hu2, hB2, hg2⟩
    refine ⟨_, rfl, ?_⟩
    have lt_g1_g2 : g1 < g2 := by have := hB1.lt; omega
    have ge_g2 : w.heap.size ≤ g2 := by have := hX.size; omega
    replace hX := hX.comp hu2
    replace hB1 := hB1.ext hu2
    refine s_look (look_assign rfl rfl) ?_
    refine s_look (look_assign rfl rfl) ?_
    refine s_nil ?_
    refine then_normal ?_
    refine wp_seq ?_
    refine wp_seq ?_
    refine region_s ?_
    refine q_look (look_move rfl rfl) ?_
    refine q_look (look_eql_nil Try.underlying28 rfl rfl rfl rfl) ?_
    refine q_nil ?_
    rintro _ rfl
    refine then_normal ?_
    refine cond_false rfl rfl ?_
    refine wp_skip ?_
    refine then_normal ?_
    refine wp_seq ?_
    refine wp_seq ?_
    refine region_s ?_
    refine q_look (look_assign rfl rfl) ?_
    refine q_nil ?_
    rintro _ rfl
    refine then_normal ?_
    refine wp_block ?_
    refine loop_act (fun (ls : Nat × Nat × Int) => [(0, .string (ofL s)), (1, .slice A l.length cap), (5, .pointer (some ⟨g1, 0, none⟩)), (6, .pointer (some ⟨g2, 0, none⟩)), (7, .int .i64 (ls.1 : Int))]) (fun ls w' => (Ext w w') ∧ (Blk w' g1 57 (rcell (s.drop ls.2.1) ls.2.2)) ∧ (Blk w' g2 63 (rfc s ls.2.1 ls.2.2)) ∧ (ls.1 ≤ l.length) ∧ (ls.2.1 ≤ s.length)) (fun ls => l.length - ls.1) ((0, 0, 0)) ?_ ?_ ?_
    · exact ⟨rfl, rfl, rfl, rfl, rfl, trivial⟩
    · exact ⟨hX, hB1, hB2, Nat.zero_le _, Nat.zero_le _⟩
    · rintro ⟨i, k, e⟩ σ wr hF
      obtain ⟨hX, hB1, hB2, hi, hks⟩ : (Ext w wr) ∧ (Blk wr g1 57 (rcell (s.drop k) e)) ∧ (Blk wr g2 63 (rfc s k e)) ∧ (i ≤ l.length) ∧ (k ≤ s.length) := hF
      show Code.wp _ _ _ (act 121 [(0, true, .string (ofL s)), (1, true, .slice A l.length cap), (5, true, .pointer (some ⟨g1, 0, none⟩)), (6, true, .pointer (some ⟨g2, 0, none⟩)), (7, true, .int .i64 (i : Int))] _) _
      refine wp_seq ?_
      refine wp_seq ?_
      refine region_s ?_
      refine q_look (look_move rfl rfl) ?_
      refine q_look (look_move rfl rfl) ?_
      refine q_look (look_len_slice Try.underlying41 rfl rfl) ?_
      refine q_look (look_lss rfl rfl rfl rfl) ?_
      refine q_nil ?_
      rintro _ rfl
      refine then_normal ?_
      refine cond_split rfl (fun hc28 => ?_) (fun hc28 => ?_)
      · have hlt : i < l.length := by have := nn_t hc28; omega
        obtain ⟨x, hx⟩ := get_lt hlt
        obtain ⟨b1, o1, rfl, _⟩ := (hA.ext hX).at_ hlt
        obtain ⟨hI1, hI2, hI3⟩ := hI x (mem_get hx)
        have hrl : (s.drop k).length ≤ 1000000 := by rw [List.length_drop]; omega
        refine wp_skip ?_
        refine then_normal ?_
        refine wp_seq ?_
        refine wp_block ?_
        refine wp_seq ?_
        refine wp_region_lit ?_
        refine s_look (look_move rfl rfl) ?_
        refine s_look (look_move rfl rfl) ?_
        refine s_look (look_indexAddr _ Try.underlying41 szTry_45 rfl rfl rfl rfl rfl (by omega)) ?_
        refine s_look (look_loadN Try.underlying45 rfl szTry_45 rfl rfl rfl (cs := acell x) (eqn ((hA.ext hX).rd i x hx))) ?_
        refine s_alloc zeTry_45 ?_
        intro g3 u3 hu3 hB3 hg3 hs3
        have lt_g1_g3 : g1 < g3 := by have := hB1.lt; omega
        have lt_g2_g3 : g2 < g3 := by have := hB2.lt; omega
        have ge_g3 : w.heap.size ≤ g3 := by have := hX.size; omega
        replace hX := hX.comp hu3
        replace hB1 := hB1.ext hu3
        replace hB2 := hB2.ext hu3
        refine s_store szTry_45 rfl (by simp [acell, Value.cells, Value.oneCell']) rfl rfl hB3 rfl ?_
        intro u4 hk4 hT4
        replace hT4 : Blk u4 g3 45 (acell x) := hT4
        replace hX := hX.kp hk4 (by omega)
        replace hB1 := hB1.kp hk4 (by omega)
        replace hB2 := hB2.kp hk4 (by omega)
        clear hB3
        have hB3 := hT4
        refine s_nil ?_
        refine then_normal ?_
        refine wp_seq ?_
        refine region_s ?_
        refine q_look (look_assign rfl rfl) ?_
        refine q_nil ?_
        rintro _ rfl
        refine then_normal ?_
        refine seq_cut (n := 121) (fun (cs : Nat × Int) => [(0, .string (ofL s)), (1, .slice (some ⟨b1, o1, none⟩) l.length cap), (5, .pointer (some ⟨g1, 0, none⟩)), (6, .pointer (some ⟨g2, 0, none⟩)), (7, .int .i64 (i : Int)), (9, .bool true)]) (fun cs w' => (Ext w w') ∧ (Blk w' g1 57 (rcell (s.drop cs.1) cs.2)) ∧ (Blk w' g2 63 (rfc s cs.1 cs.2)) ∧ (cs.1 ≤ s.length)) ?_ ?_
        · refine wp_seq ?_
          refine region_s ?_
          refine q_look (look_fieldAddr Try.underlying45 rfl (fun _ _ => rfl) rfl rfl) ?_
          refine q_look (look_load1 Try.underlying3 rfl rfl rfl (eqc (hB3.cell rfl))) ?_
          refine q_look (look_eql rfl rfl rfl rfl) ?_
          refine q_nil ?_
          rintro _ rfl
          refine then_normal ?_
          refine cond_split rfl (fun hc37 => ?_) (fun hc37 => ?_)
          · skip
            obtain ⟨z, c, e1, hz⟩ : ∃ z c e', intR (s.drop k) e x.lo x.hi = (z, c, e') := ⟨_, _, _, rfl⟩
            obtain ⟨q1, q2, q3⟩ := int_bd hz
            refine region_h (fun W => Ext w W ∧ Blk W g3 45 (acell x)) [(0, true), (1, true), (2, true), (3, true), (4, true), (6, true), (7, true), (8, true), (9, true), (10, true), (5, false), (11, false), (12, true), (13, true)] mixed (by kernel_rfl) rfl (by kernel_rfl) (by repeat (first | exact pk_body | refine pk_then ?_ | refine pk_block ?_)) ?_
            intro u5 hR5
            replace hX := hX.comp hR5
            replace hB1 := hB1.ext hR5
            replace hB2 := hB2.ext hR5
            replace hB3 := hB3.ext hR5
            refine ⟨⟨hX, hB3⟩, ?_⟩
            refine h_look rfl (look_move rfl rfl) ?_
            refine h_look rfl (look_fieldAddr Try.underlying45 rfl (fun _ _ => rfl) rfl rfl) ?_
            refine h_look rfl (look_load1 Try.underlying3 rfl rfl rfl (fun w' hS => (hS.2).cell rfl)) ?_
            refine h_look rfl (look_fieldAddr Try.underlying45 rfl (fun _ _ => rfl) rfl rfl) ?_
            refine h_look rfl (look_load1 Try.underlying3 rfl rfl rfl (fun w' hS => (hS.2).cell rfl)) ?_
            refine h_look rfl (look_move rfl rfl) ?_
            refine h_look rfl (look_fieldAddr Try.underlying45 rfl (fun _ _ => rfl) rfl rfl) ?_
            refine h_look rfl (look_load1 Try.underlying3 rfl rfl rfl (fun w' hS => (hS.2).cell rfl)) ?_
            refine h_look rfl (look_fieldAddr Try.underlying45 rfl (fun _ _ => rfl) rfl rfl) ?_
            refine h_look rfl (look_load1 Try.underlying3 rfl rfl rfl (fun w' hS => (hS.2).cell rfl)) ?_
            refine h_seq rfl ?_ ⟨hX, hB3⟩
            refine s_call (vs := [_, _, _]) enTry_22 ⟨⟨_, rfl, rfl⟩, ⟨_, rfl, rfl⟩, ⟨_, rfl, rfl⟩, trivial⟩ ((by have := int_reads g1 (s.drop k) e x.lo x.hi _ hB1 hrl; rw [hz] at this; exact this)) ?_
            rintro _ u6 ⟨rfl, hm6, hT6⟩
            refine ⟨_, rfl, ?_⟩
            replace hX := hX.mut hm6 (by omega)
            replace hB2 := hB2.mut hm6 (by omega)
            replace hB3 := hB3.mut hm6 (by omega)
            clear hB1
            have hB1 := hT6
            refine s_nil ?_
            refine then_normal ?_
            refine ⟨⟨hX, hB3⟩, ?_⟩
            refine h_seq rfl ?_ ⟨hX, hB3⟩
            refine s_call (vs := [_, _, _]) enTry_29 ⟨⟨_, rfl, rfl⟩, ⟨_, rfl, rfl⟩, ⟨_, rfl, rfl⟩, trivial⟩ ((by have := refint_reads g2 s k e x.lo x.hi _ hB2 hks (by omega); rw [hz] at this; exact this)) ?_
            rintro _ u7 ⟨rfl, hm7, hT7⟩
            refine ⟨_, rfl, ?_⟩
            replace hX := hX.mut hm7 (by omega)
            replace hB1 := hB1.mut hm7 (by omega)
            replace hB3 := hB3.mut hm7 (by omega)
            clear hB2
            have hB2 := hT7
            refine s_nil ?_
            refine then_normal ?_
            refine ⟨⟨hX, hB3⟩, ?_⟩
            refine h_look rfl (look_eql rfl rfl rfl rfl) ?_
            refine h_look rfl (look_assign rfl rfl) ?_
            refine h_nil ?_
            exact cut_end (k + c, e1) ⟨rfl, rfl, rfl, rfl, rfl, (by first | rfl | exact congrArg (fun q => some (true, Value.bool q)) (by simp)), trivial⟩ ⟨hX, by first | exact hB1 | (rw [← List.drop_drop]; exact hB1), hB2, by first | exact hks | (rw [List.length_drop] at q1; omega)⟩
          · skip
            refine wp_seq ?_
            refine region_s ?_
            refine q_look (look_fieldAddr Try.underlying45 rfl (fun _ _ => rfl) rfl rfl) ?_
            refine q_look (look_load1 Try.underlying3 rfl rfl rfl (eqc (hB3.cell rfl))) ?_
            refine q_look (look_eql rfl rfl rfl rfl) ?_
            refine q_nil ?_
            rintro _ rfl
            refine then_normal ?_
            refine cond_split rfl (fun hc53 => ?_) (fun hc53 => ?_)
            · skip
              obtain ⟨z, c, e1, hz⟩ : ∃ z c e', textR (s.drop k) e x.hi = (z, c, e') := ⟨_, _, _, rfl⟩
              obtain ⟨q1, q2, q3⟩ := text_bd hI3 hz
              refine region_h (fun W => Ext w W ∧ Blk W g3 45 (acell x)) [(0, true), (1, true), (2, true), (4, true), (5, true), (6, true), (3, false), (7, false), (8, true), (9, true)] mixed (by kernel_rfl) rfl (by kernel_rfl) (by repeat (first | exact pk_body | refine pk_then ?_ | refine pk_block ?_)) ?_
              intro u8 hR8
              replace hX := hX.comp hR8
              replace hB1 := hB1.ext hR8
              replace hB2 := hB2.ext hR8
              replace hB3 := hB3.ext hR8
              refine ⟨⟨hX, hB3⟩, ?_⟩
              refine h_look rfl (look_move rfl rfl) ?_
              refine h_look rfl (look_fieldAddr Try.underlying45 rfl (fun _ _ => rfl) rfl rfl) ?_
              refine h_look rfl (look_load1 Try.underlying3 rfl rfl rfl (fun w' hS => (hS.2).cell rfl)) ?_
              refine h_look rfl (look_move rfl rfl) ?_
              refine h_look rfl (look_fieldAddr Try.underlying45 rfl (fun _ _ => rfl) rfl rfl) ?_
              refine h_look rfl (look_load1 Try.underlying3 rfl rfl rfl (fun w' hS => (hS.2).cell rfl)) ?_
              refine h_seq rfl ?_ ⟨hX, hB3⟩
              refine s_call (vs := [_, _]) enTry_26 ⟨⟨_, rfl, rfl⟩, ⟨_, rfl, rfl⟩, trivial⟩ ((by have := text_reads g1 (s.drop k) e x.hi _ hB1 hrl hI3; rw [hz] at this; exact this)) ?_
              rintro _ u9 ⟨rfl, hm9, hT9⟩
              refine ⟨_, rfl, ?_⟩
              replace hX := hX.mut hm9 (by omega)
              replace hB2 := hB2.mut hm9 (by omega)
              replace hB3 := hB3.mut hm9 (by omega)
              clear hB1
              have hB1 := hT9
              refine s_nil ?_
              refine then_normal ?_
              refine ⟨⟨hX, hB3⟩, ?_⟩
              refine h_seq rfl ?_ ⟨hX, hB3⟩
              refine s_call (vs := [_, _]) enTry_30 ⟨⟨_, rfl, rfl⟩, ⟨_, rfl, rfl⟩, trivial⟩ ((by have := reftext_reads g2 s k e x.hi _ hB2 hks (by omega) hI3; rw [hz] at this; exact this)) ?_
              rintro _ u10 ⟨rfl, hm10, hT10⟩
              refine ⟨_, rfl, ?_⟩
              replace hX := hX.mut hm10 (by omega)
              replace hB1 := hB1.mut hm10 (by omega)
              replace hB3 := hB3.mut hm10 (by omega)
              clear hB2
              have hB2 := hT10
              refine s_nil ?_
              refine then_normal ?_
              refine ⟨⟨hX, hB3⟩, ?_⟩
              refine h_look rfl (look_eql_str rfl rfl rfl rfl) ?_
              refine h_look rfl (look_assign rfl rfl) ?_
              refine h_nil ?_
              exact cut_end (k + c, e1) ⟨rfl, rfl, rfl, rfl, rfl, (by first | rfl | exact congrArg (fun q => some (true, Value.bool q)) (by simp)), trivial⟩ ⟨hX, by first | exact hB1 | (rw [← List.drop_drop]; exact hB1), hB2, by first | exact hks | (rw [List.length_drop] at q1; omega)⟩
            · skip
              refine wp_seq ?_
              refine region_s ?_
              refine q_look (look_fieldAddr Try.underlying45 rfl (fun _ _ => rfl) rfl rfl) ?_
              refine q_look (look_load1 Try.underlying3 rfl rfl rfl (eqc (hB3.cell rfl))) ?_
              refine q_look (look_eql rfl rfl rfl rfl) ?_
              refine q_nil ?_
              rintro _ rfl
              refine then_normal ?_
              refine cond_split rfl (fun hc65 => ?_) (fun hc65 => ?_)
              · skip
                obtain ⟨z, c, e1, hz⟩ : ∃ z c e', boolR (s.drop k) e = (z, c, e') := ⟨_, _, _, rfl⟩
                obtain ⟨q1, q2, q3⟩ := bool_bd hz
                refine wp_region_lit ?_
                refine s_look (look_move rfl rfl) ?_
                refine s_call (vs := [_]) enTry_27 ⟨⟨_, rfl, rfl⟩, trivial⟩ ((by have := bool_reads g1 (s.drop k) e _ hB1; rw [hz] at this; exact this)) ?_
                rintro _ u11 ⟨rfl, hm11, hT11⟩
                refine ⟨_, rfl, ?_⟩
                replace hX := hX.mut hm11 (by omega)
                replace hB2 := hB2.mut hm11 (by omega)
                replace hB3 := hB3.mut hm11 (by omega)
                clear hB1
                have hB1 := hT11
                refine s_look (look_move rfl rfl) ?_
                refine s_call (vs := [_]) enTry_31 ⟨⟨_, rfl, rfl⟩, trivial⟩ ((by have := refbool_reads g2 s k e _ hB2 hks (by omega); rw [hz] at this; exact this)) ?_
                rintro _ u12 ⟨rfl, hm12, hT12⟩
                refine ⟨_, rfl, ?_⟩
                replace hX := hX.mut hm12 (by omega)
                replace hB1 := hB1.mut hm12 (by omega)
                replace hB3 := hB3.mut hm12 (by omega)
                clear hB2
                have hB2 := hT12
                refine s_look (look_eql_bool Try.underlying4 rfl rfl rfl rfl) ?_
                refine s_look (look_assign rfl rfl) ?_
                refine s_nil ?_
                exact cut_end (k + c, e1) ⟨rfl, rfl, rfl, rfl, rfl, (by first | rfl | exact congrArg (fun q => some (true, Value.bool q)) (by simp)), trivial⟩ ⟨hX, by first | exact hB1 | (rw [← List.drop_drop]; exact hB1), hB2, by first | exact hks | (rw [List.length_drop] at q1; omega)⟩
              · skip
                refine wp_seq ?_
                refine region_s ?_
                refine q_look (look_fieldAddr Try.underlying45 rfl (fun _ _ => rfl) rfl rfl) ?_
                refine q_look (look_load1 Try.underlying3 rfl rfl rfl (eqc (hB3.cell rfl))) ?_
                refine q_look (look_eql rfl rfl rfl rfl) ?_
                refine q_nil ?_
                rintro _ rfl
                refine then_normal ?_
                refine cond_split rfl (fun hc73 => ?_) (fun hc73 => ?_)
                · skip
                  obtain ⟨z, c, e1, hz⟩ : ∃ z c e', countR (s.drop k) e 4 x.hi false = (z, c, e') := ⟨_, _, _, rfl⟩
                  obtain ⟨q1, q2, q3⟩ := count_bd (by omega) hI3 hz
                  refine region_h (fun W => Ext w W ∧ Blk W g3 45 (acell x)) [(0, true), (1, true), (2, true), (4, true), (5, true), (6, true), (3, false), (7, false), (8, true), (9, true)] mixed (by kernel_rfl) rfl (by kernel_rfl) (by repeat (first | exact pk_body | refine pk_then ?_ | refine pk_block ?_)) ?_
                  intro u13 hR13
                  replace hX := hX.comp hR13
                  replace hB1 := hB1.ext hR13
                  replace hB2 := hB2.ext hR13
                  replace hB3 := hB3.ext hR13
                  refine ⟨⟨hX, hB3⟩, ?_⟩
                  refine h_look rfl (look_move rfl rfl) ?_
                  refine h_look rfl (look_fieldAddr Try.underlying45 rfl (fun _ _ => rfl) rfl rfl) ?_
                  refine h_look rfl (look_load1 Try.underlying3 rfl rfl rfl (fun w' hS => (hS.2).cell rfl)) ?_
                  refine h_look rfl (look_move rfl rfl) ?_
                  refine h_look rfl (look_fieldAddr Try.underlying45 rfl (fun _ _ => rfl) rfl rfl) ?_
                  refine h_look rfl (look_load1 Try.underlying3 rfl rfl rfl (fun w' hS => (hS.2).cell rfl)) ?_
                  refine h_seq rfl ?_ ⟨hX, hB3⟩
                  refine s_call (vs := [_, _]) enTry_21 ⟨⟨_, rfl, rfl⟩, ⟨_, rfl, rfl⟩, trivial⟩ ((by have := list_reads g1 (s.drop k) e x.hi _ hB1 hrl hI3; rw [hz] at this; exact this)) ?_
                  rintro _ u14 ⟨rfl, hm14, hT14⟩
                  refine ⟨_, rfl, ?_⟩
                  replace hX := hX.mut hm14 (by omega)
                  replace hB2 := hB2.mut hm14 (by omega)
                  replace hB3 := hB3.mut hm14 (by omega)
                  clear hB1
                  have hB1 := hT14
                  refine s_nil ?_
                  refine then_normal ?_
                  refine ⟨⟨hX, hB3⟩, ?_⟩
                  refine h_seq rfl ?_ ⟨hX, hB3⟩
                  refine s_call (vs := [_, _]) enTry_32 ⟨⟨_, rfl, rfl⟩, ⟨_, rfl, rfl⟩, trivial⟩ ((by have := reflist_reads g2 s k e x.hi _ hB2 hks (by omega) hI3; rw [hz] at this; exact this)) ?_
                  rintro _ u15 ⟨rfl, hm15, hT15⟩
                  refine ⟨_, rfl, ?_⟩
                  replace hX := hX.mut hm15 (by omega)
                  replace hB1 := hB1.mut hm15 (by omega)
                  replace hB3 := hB3.mut hm15 (by omega)
                  clear hB2
                  have hB2 := hT15
                  refine s_nil ?_
                  refine then_normal ?_
                  refine ⟨⟨hX, hB3⟩, ?_⟩
                  refine h_look rfl (look_eql rfl rfl rfl rfl) ?_
                  refine h_look rfl (look_assign rfl rfl) ?_
                  refine h_nil ?_
                  exact cut_end (k + c, e1) ⟨rfl, rfl, rfl, rfl, rfl, (by first | rfl | exact congrArg (fun q => some (true, Value.bool q)) (by simp)), trivial⟩ ⟨hX, by first | exact hB1 | (rw [← List.drop_drop]; exact hB1), hB2, by first | exact hks | (rw [List.length_drop] at q1; omega)⟩
                · skip
                  refine wp_skip ?_
                  exact cut_end (k, e) ⟨rfl, rfl, rfl, rfl, rfl, (by first | rfl | exact congrArg (fun q => some (true, Value.bool q)) (by simp)), trivial⟩ ⟨hX, by first | exact hB1 | (rw [← List.drop_drop]; exact hB1), hB2, by first | exact hks | (rw [List.length_drop] at q1; omega)⟩
        · rintro ⟨k1, e1⟩ σ wr hF
          obtain ⟨hX, hB1, hB2, hks1⟩ : (Ext w wr) ∧ (Blk wr g1 57 (rcell (s.drop k1) e1)) ∧ (Blk wr g2 63 (rfc s k1 e1)) ∧ (k1 ≤ s.length) := hF
          show Code.wp _ _ _ (act 121 [(0, true, .string (ofL s)), (1, true, .slice (some ⟨b1, o1, none⟩) l.length cap), (5, true, .pointer (some ⟨g1, 0, none⟩)), (6, true, .pointer (some ⟨g2, 0, none⟩)), (7, true, .int .i64 (i : Int)), (9, true, .bool true)] _) _
          refine wp_seq ?_
          refine region_q ?_
          refine q_look (look_move rfl rfl) ?_
          refine q_look (look_not rfl rfl) ?_
          refine q_look (look_move rfl rfl) ?_
          refine q_lookg rfl rfl rfl (fun hq => look_move rfl rfl) ?_
          refine q_callg (vs := [_]) rfl rfl rfl enTry_24 (fun hq => ⟨⟨_, rfl, hq⟩, trivial⟩) (fun hq wc hw => cext hw (left_any g1 _ _ wc (hB1.ext hw))) ?_
          refine q_lookg rfl rfl rfl (fun hq => look_move rfl rfl) ?_
          refine q_callg (vs := [_]) rfl rfl rfl enTry_33 (fun hq => ⟨⟨_, rfl, hq⟩, trivial⟩) (fun hq wc hw => cext hw (refleft_any g2 _ _ _ wc (hB2.ext hw) hks1 (by omega))) ?_
          refine q_lookg rfl rfl rfl (fun hq => look_neq rfl hq rfl hq) ?_
          refine q_look (look_or rfl rfl rfl rfl) ?_
          refine q_look (look_move rfl rfl) ?_
          refine q_lookg rfl rfl rfl (fun hq => look_move rfl rfl) ?_
          refine q_callg (vs := [_]) rfl rfl rfl enTry_23 (fun hq => ⟨⟨_, rfl, hq⟩, trivial⟩) (fun hq wc hw => cext hw (err_any g1 _ _ wc (hB1.ext hw))) ?_
          refine q_lookg rfl rfl rfl (fun hq => look_move rfl rfl) ?_
          refine q_callg (vs := [_]) rfl rfl rfl enTry_34 (fun hq => ⟨⟨_, rfl, hq⟩, trivial⟩) (fun hq wc hw => cext hw (referr_any g2 _ _ _ wc (hB2.ext hw) hks1 (by omega))) ?_
          refine q_lookg rfl rfl rfl (fun hq => look_neq rfl hq rfl hq) ?_
          refine q_look (look_or rfl rfl rfl rfl) ?_
          refine q_look (look_move rfl rfl) ?_
          refine q_lookg rfl rfl rfl (fun hq => look_move rfl rfl) ?_
          refine q_callg (vs := [_]) rfl rfl rfl enTry_25 (fun hq => ⟨⟨_, rfl, hq⟩, trivial⟩) (fun hq wc hw => cext hw (end_any g1 _ _ wc (hB1.ext hw))) ?_
          refine q_lookg rfl rfl rfl (fun hq => look_move rfl rfl) ?_
          refine q_callg (vs := [_]) rfl rfl rfl enTry_35 (fun hq => ⟨⟨_, rfl, hq⟩, trivial⟩) (fun hq wc hw => cext hw (refend_any g2 _ _ _ wc (hB2.ext hw) hks1 (by omega))) ?_
          refine q_lookg rfl rfl rfl (fun hq => look_neq rfl hq rfl hq) ?_
          refine q_look (look_or rfl rfl rfl rfl) ?_
          refine q_nil ?_
          intro w2 hw2
          replace hX := hX.comp hw2
          replace hB1 := hB1.ext hw2
          replace hB2 := hB2.ext hw2
          refine then_normal ?_
          refine cond_false rfl (by rw [List.length_drop]; simp) ?_
          refine wp_skip ?_
          refine inB_normal ?_
          refine then_normal ?_
          refine region_s ?_
          refine q_look (look_move rfl rfl) ?_
          refine q_look (look_add rfl rfl rfl rfl (by have := maxLen_is; unfold I64; omega)) ?_
          refine q_look (look_assign rfl rfl) ?_
          refine q_nil ?_
          rintro _ rfl
          exact loop_end ((i + 1, k1, e1)) (by simp only []; omega) ⟨rfl, rfl, rfl, rfl, rfl, trivial⟩ ⟨hX, hB1, hB2, by show i + 1 ≤ l.length; omega, hks1⟩
      · skip
        refine wp_exit ?_
        refine then_exit ?_
        refine then_exit ?_
        refine inB_exit_same ?_
        refine then_normal ?_
        refine wp_seq ?_
        refine region_q ?_
        refine q_look (look_move rfl rfl) ?_
        refine q_call (vs := [_]) enTry_24 ⟨⟨_, rfl, rfl⟩, trivial⟩ (fun wc hw => cext hw (left_any g1 _ _ wc (hB1.ext hw))) ?_
        refine q_look (look_move rfl rfl) ?_
        refine q_call (vs := [_]) enTry_33 ⟨⟨_, rfl, rfl⟩, trivial⟩ (fun wc hw => cext hw (refleft_any g2 _ _ _ wc (hB2.ext hw) hks (by omega))) ?_
        refine q_look (look_eql rfl rfl rfl rfl) ?_
        refine q_look (look_move rfl rfl) ?_
        refine q_lookg rfl rfl rfl (fun hq => look_move rfl rfl) ?_
        refine q_callg (vs := [_]) rfl rfl rfl enTry_25 (fun hq => ⟨⟨_, rfl, hq⟩, trivial⟩) (fun hq wc hw => cext hw (end_any g1 _ _ wc (hB1.ext hw))) ?_
        refine q_lookg rfl rfl rfl (fun hq => look_move rfl rfl) ?_
        refine q_callg (vs := [_]) rfl rfl rfl enTry_35 (fun hq => ⟨⟨_, rfl, hq⟩, trivial⟩) (fun hq wc hw => cext hw (refend_any g2 _ _ _ wc (hB2.ext hw) hks (by omega))) ?_
        refine q_lookg rfl rfl rfl (fun hq => look_eql rfl hq rfl hq) ?_
        refine q_look (look_and rfl rfl rfl rfl) ?_
        refine q_look (look_move rfl rfl) ?_
        refine q_callg (vs := []) rfl rfl rfl enTry_11 (fun hq => trivial) (fun hq wc hw => cext hw (awake_any wc)) ?_
        refine q_look (look_and rfl rfl rfl rfl) ?_
        refine q_look (look_assign rfl rfl) ?_
        refine q_nil ?_
        intro w3 hw3
        replace hX := hX.comp hw3
        replace hB1 := hB1.ext hw3
        replace hB2 := hB2.ext hw3
        refine then_normal ?_
        refine wp_ret ?_
        exact res1 Try.results7 rfl ⟨ret_bool (by rw [List.length_drop]; simp), hX⟩

end Go.Proofs.Ytcneinajeapbhaa
