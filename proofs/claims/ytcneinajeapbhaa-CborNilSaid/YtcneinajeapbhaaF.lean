/- The walks of chapter 05 (cbor), sixth part: the reference's reader. -/
import Derived.Test.YtcneinajeapbhaaE
namespace Go.Proofs.Ytcneinajeapbhaa
open Go Go.RowKit Core
set_option linter.unusedVariables false
set_option linter.unusedSimpArgs false
attribute [local irreducible] wpQuiet wpList wpH wpT Code.wp Calls bodyPost act


def rfc (S : List UInt8) (at' : Nat) (e : Int) : List Value := [.string (ofL S), .int .i64 (at' : Int), .int .i64 e]
theorem drop_cons {S t : List UInt8} {b : UInt8} {k : Nat} (h : S.drop k = b :: t) : S.length = k + 1 + t.length ∧ S[k]? = some b ∧ ∀ i, S[k + 1 + i]? = t[i]? := by
  have h1 : (S.drop k).length = t.length + 1 := by rw [h]; rfl
  rw [List.length_drop] at h1
  refine ⟨by omega, ?_, fun i => ?_⟩
  · have := List.getElem?_drop (xs := S) (i := k) (j := 0)
    rw [h] at this
    simpa using this.symm
  · have := List.getElem?_drop (xs := S) (i := k) (j := 1 + i)
    rw [h, Nat.add_comm 1 i, List.getElem?_cons_succ] at this
    rw [this, ← Nat.add_assoc]; congr 1; omega

theorem arg_any (g : Nat) (S : List UInt8) (at' : Nat) (e0 : Int) (one two : Int) (w : World) (hB : Blk w g 63 (rfc S at' e0)) (hat : at' ≤ S.length) (hr0 : S.length ≤ 1000000) :
    Calls Try.prog 42 #[.pointer (some ⟨g, 0, none⟩), .int .i64 one, .int .i64 two] w fun e w' => e = .returned (.tuple #[.int .i64 (peekP (S.drop at') one two).1, .int .u64 (peekP (S.drop at') one two).2.1, .int .i64 (peekP (S.drop at') one two).2.2.1, .int .i64 (peekP (S.drop at') one two).2.2.2]) ∧ Ext w w' := by
  refine calls_act Try.func42 rfl Try.ntmps42 rfl rfl ?_
  show Code.wp _ _ _ (act 123 [(0, true, .pointer (some ⟨g, 0, none⟩)), (1, true, .int .i64 one), (2, true, .int .i64 two)] _) _
  have hX : Ext w w := Ext.rfl' w
  refine wp_seq ?_
  refine region_s ?_
  refine q_look (look_assign rfl rfl) ?_
  refine q_look (look_assign rfl rfl) ?_
  refine q_look (look_assign rfl rfl) ?_
  refine q_look (look_assign rfl rfl) ?_
  refine q_nil ?_
  rintro _ rfl
  refine then_normal ?_
  refine wp_seq ?_
  refine wp_seq ?_
  refine region_qd mixed (by kernel_rfl) ?_
  refine q_look (look_move rfl rfl) ?_
  refine q_look (look_nilCheck rfl rfl) ?_
  refine q_look (look_fieldAddr Try.underlying63 rfl (fun _ _ => rfl) rfl rfl) ?_
  refine q_look (look_load1 Try.underlying3 rfl rfl rfl (ext_cell (hB.cell rfl))) ?_
  refine q_look (look_move rfl rfl) ?_
  refine q_look (look_nilCheck rfl rfl) ?_
  refine q_look (look_fieldAddr Try.underlying63 rfl (fun _ _ => rfl) rfl rfl) ?_
  refine q_look (look_load1 Try.underlying9 rfl rfl rfl (ext_cell (hB.cell rfl))) ?_
  refine q_look (Look.as (look_len_string Try.underlying9 rfl rfl) (by rw [ofL_size]) (v' := .int .i64 (S.length : Int))) ?_
  refine q_look (look_geq rfl rfl rfl rfl) ?_
  refine q_nil ?_
  intro w1 hw1
  replace hX := hX.comp hw1
  replace hB := hB.ext hw1
  refine then_normal ?_
  refine cond_split rfl (fun hc26 => ?_) (fun hc26 => ?_)
  · have hr : S.drop at' = [] := List.drop_eq_nil_of_le (by have := nn_t hc26; omega)
    refine wp_seq ?_
    refine region_s ?_
    refine q_look (look_assign rfl rfl) ?_
    refine q_look (look_assign rfl rfl) ?_
    refine q_look (look_assign rfl rfl) ?_
    refine q_look (look_assign rfl rfl) ?_
    refine q_nil ?_
    rintro _ rfl
    refine then_normal ?_
    refine wp_ret ?_
    refine then_ret ?_
    rw [hr]
    exact res4 Try.results42 rfl rfl rfl rfl ⟨rfl, hX⟩
  · have hr : ¬ at' ≥ S.length := fun h => nn_f hc26 (by omega)
    obtain ⟨b, t, hS⟩ : ∃ b t, S.drop at' = b :: t := by
      cases h : S.drop at' with
      | nil => have := List.drop_eq_nil_iff.1 h; omega
      | cons b t => exact ⟨b, t, rfl⟩
    obtain ⟨hlen, hgb, hget⟩ := drop_cons hS
    have hb := b.toNat_lt
    refine wp_skip ?_
    refine then_normal ?_
    refine wp_seq ?_
    refine region_qd mixed (by kernel_rfl) ?_
    refine q_look (look_move rfl rfl) ?_
    refine q_look (look_nilCheck rfl rfl) ?_
    refine q_look (look_fieldAddr Try.underlying63 rfl (fun _ _ => rfl) rfl rfl) ?_
    refine q_look (look_load1 Try.underlying9 rfl rfl rfl (ext_cell (hB.cell rfl))) ?_
    refine q_look (look_move rfl rfl) ?_
    refine q_look (look_nilCheck rfl rfl) ?_
    refine q_look (look_fieldAddr Try.underlying63 rfl (fun _ _ => rfl) rfl rfl) ?_
    refine q_look (look_load1 Try.underlying3 rfl rfl rfl (ext_cell (hB.cell rfl))) ?_
    refine q_look (look_index_str (i := at') Try.underlying9 rfl rfl rfl rfl rfl hgb) ?_
    refine q_look (look_conv_int Try.underlying3 Try.underlying5 rfl rfl (wrap_I64 (by unfold I64; omega))) ?_
    refine q_look (look_assign rfl rfl) ?_
    refine q_nil ?_
    intro w2 hw2
    replace hX := hX.comp hw2
    replace hB := hB.ext hw2
    refine then_normal ?_
    refine wp_seq ?_
    refine region_s ?_
    refine q_look (look_move rfl rfl) ?_
    refine q_look (look_quo rfl rfl rfl rfl (by omega) (by omega) (by omega)) ?_
    refine q_look (look_move rfl rfl) ?_
    refine q_look (look_rem rfl rfl rfl rfl (by omega) (by omega)) ?_
    refine q_look (look_assign rfl rfl) ?_
    refine q_look (look_assign rfl rfl) ?_
    refine q_nil ?_
    rintro _ rfl
    refine then_normal ?_
    refine wp_seq ?_
    refine wp_seq ?_
    refine region_s ?_
    refine q_look (look_move rfl rfl) ?_
    refine q_look (look_move rfl rfl) ?_
    refine q_look (look_neq rfl rfl rfl rfl) ?_
    refine q_look (look_move rfl rfl) ?_
    refine q_lookg rfl rfl rfl (fun hq => look_move rfl rfl) ?_
    refine q_lookg rfl rfl rfl (fun hq => look_move rfl rfl) ?_
    refine q_lookg rfl rfl rfl (fun hq => look_neq rfl hq rfl hq) ?_
    refine q_look (look_and rfl rfl rfl rfl) ?_
    refine q_look (look_move rfl rfl) ?_
    refine q_lookg rfl rfl rfl (fun hq => look_move rfl rfl) ?_
    refine q_lookg rfl rfl rfl (fun hq => look_gtr rfl hq rfl rfl) ?_
    refine q_look (look_or rfl rfl rfl rfl) ?_
    refine q_nil ?_
    rintro _ rfl
    refine then_normal ?_
    refine cond_split rfl (fun hc52 => ?_) (fun hc52 => ?_)
    · have h1 : ((b.toNat : Int) / 32 ≠ one ∧ (b.toNat : Int) / 32 ≠ two) ∨ (b.toNat : Int) % 32 > 27 := by simp only [Bool.or_eq_true, Bool.and_eq_true, Bool.not_eq_true', decide_eq_true_eq, decide_eq_false_iff_not] at hc52; omega
      refine wp_seq ?_
      refine region_s ?_
      refine q_look (look_assign rfl rfl) ?_
      refine q_look (look_assign rfl rfl) ?_
      refine q_look (look_assign rfl rfl) ?_
      refine q_look (look_assign rfl rfl) ?_
      refine q_nil ?_
      rintro _ rfl
      refine then_normal ?_
      refine wp_ret ?_
      refine then_ret ?_
      have hp4 : peekP (S.drop at') one two = (0, 0, 0, 5) := by
        rw [hS]; simp only [peekP]; rw [if_pos h1]
      exact res4 Try.results42 rfl rfl rfl rfl ⟨by rw [hp4], hX⟩
    · have h1 : ¬ (((b.toNat : Int) / 32 ≠ one ∧ (b.toNat : Int) / 32 ≠ two) ∨ (b.toNat : Int) % 32 > 27) := by
        intro h
        rw [← Bool.not_eq_true] at hc52
        apply hc52
        simp only [Bool.or_eq_true, Bool.and_eq_true, Bool.not_eq_true', decide_eq_true_eq, decide_eq_false_iff_not]
        omega
      refine wp_skip ?_
      refine then_normal ?_
      refine wp_seq ?_
      refine wp_seq ?_
      refine region_s ?_
      refine q_look (look_move rfl rfl) ?_
      refine q_look (look_lss rfl rfl rfl rfl) ?_
      refine q_nil ?_
      rintro _ rfl
      refine then_normal ?_
      refine cond_split rfl (fun hc54 => ?_) (fun hc54 => ?_)
      · have h2 : (b.toNat : Int) % 32 < 24 := nn_t hc54
        refine wp_seq ?_
        refine region_s ?_
        refine q_look (look_move rfl rfl) ?_
        refine q_look (look_move rfl rfl) ?_
        refine q_look (look_conv_int Try.underlying52 Try.underlying3 rfl rfl (wrap_u64_in (by omega) (by omega))) ?_
        refine q_look (look_assign rfl rfl) ?_
        refine q_look (look_assign rfl rfl) ?_
        refine q_look (look_assign rfl rfl) ?_
        refine q_look (look_assign rfl rfl) ?_
        refine q_nil ?_
        rintro _ rfl
        refine then_normal ?_
        refine wp_ret ?_
        refine then_ret ?_
        have hp4 : peekP (S.drop at') one two = (((b.toNat : Int) / 32), ((b.toNat : Int) % 32), 1, 0) := by
          rw [hS]; simp only [peekP]; rw [if_neg h1, if_pos h2]
        exact res4 Try.results42 rfl rfl rfl rfl ⟨by rw [hp4], hX⟩
      · have h2 : ¬ (b.toNat : Int) % 32 < 24 := nn_f hc54
        obtain ⟨z, hz⟩ : ∃ z : Nat, (b.toNat : Int) % 32 - 24 = (z : Int) := ⟨((b.toNat : Int) % 32 - 24).toNat, by omega⟩
        obtain ⟨N, hN⟩ : ∃ N, N = 2 ^ z := ⟨_, rfl⟩
        have hp : 1 ≤ N ∧ N ≤ 8 := by rw [hN]; rcases (by omega : z = 0 ∨ z = 1 ∨ z = 2 ∨ z = 3) with rfl | rfl | rfl | rfl <;> decide
        have hNz : 2 ^ ((b.toNat : Int) % 32 - 24).toNat = N := by rw [hz, hN]; rfl
        refine wp_skip ?_
        refine then_normal ?_
        refine wp_seq ?_
        refine region_s ?_
        refine q_look (look_assign rfl rfl) ?_
        refine q_nil ?_
        rintro _ rfl
        refine then_normal ?_
        refine wp_seq ?_
        refine wp_seq ?_
        refine region_s ?_
        refine q_look (look_assign rfl rfl) ?_
        refine q_nil ?_
        rintro _ rfl
        refine then_normal ?_
        refine wp_block ?_
        refine loop_act (fun (ls : Nat × Nat) => [(0, .pointer (some ⟨g, 0, none⟩)), (11, .int .i64 ((b.toNat : Int) / 32)), (12, .int .i64 ((b.toNat : Int) % 32)), (13, .int .i64 (ls.2 : Int)), (14, .int .i64 (24 + (ls.1 : Int)))]) (fun ls w' => (Ext w w') ∧ (Blk w' g 63 (rfc S at' e0)) ∧ (ls.1 ≤ z) ∧ (ls.2 = 2 ^ ls.1)) (fun ls => z - ls.1) ((0, 1)) ?_ ?_ ?_
        · exact ⟨rfl, rfl, rfl, rfl, rfl, trivial⟩
        · exact ⟨hX, hB, Nat.zero_le _, rfl⟩
        · rintro ⟨j, M⟩ σ wr hF
          obtain ⟨hX, hB, hj, hM⟩ : (Ext w wr) ∧ (Blk wr g 63 (rfc S at' e0)) ∧ (j ≤ z) ∧ (M = 2 ^ j) := hF
          have hM8 : 1 ≤ M ∧ M ≤ 8 := by rw [hM]; rcases (by omega : j = 0 ∨ j = 1 ∨ j = 2 ∨ j = 3) with rfl | rfl | rfl | rfl <;> decide
          show Code.wp _ _ _ (act 123 [(0, true, .pointer (some ⟨g, 0, none⟩)), (11, true, .int .i64 ((b.toNat : Int) / 32)), (12, true, .int .i64 ((b.toNat : Int) % 32)), (13, true, .int .i64 (M : Int)), (14, true, .int .i64 (24 + (j : Int)))] _) _
          refine wp_seq ?_
          refine wp_seq ?_
          refine region_s ?_
          refine q_look (look_move rfl rfl) ?_
          refine q_look (look_move rfl rfl) ?_
          refine q_look (look_lss rfl rfl rfl rfl) ?_
          refine q_nil ?_
          rintro _ rfl
          refine then_normal ?_
          refine cond_split rfl (fun hc60 => ?_) (fun hc60 => ?_)
          · have hlt : j < z := by have := nn_t hc60; omega
            refine wp_skip ?_
            refine then_normal ?_
            refine wp_seq ?_
            refine wp_block ?_
            refine region_s ?_
            refine q_look (look_move rfl rfl) ?_
            refine q_look (look_mul rfl rfl rfl rfl (by unfold I64; omega)) ?_
            refine q_look (look_assign rfl rfl) ?_
            refine q_nil ?_
            rintro _ rfl
            refine inB_normal ?_
            refine then_normal ?_
            refine region_s ?_
            refine q_look (look_move rfl rfl) ?_
            refine q_look (look_add rfl rfl rfl rfl (by unfold I64; omega)) ?_
            refine q_look (look_assign rfl rfl) ?_
            refine q_nil ?_
            rintro _ rfl
            exact loop_end ((j + 1, 2 * M)) (by simp only []; omega) ⟨rfl, rfl, rfl, (congrArg (fun t => some (true, Value.int .i64 t)) (show 2 * (M : Int) = ((2 * M : Nat) : Int) by omega)), (congrArg (fun t => some (true, Value.int .i64 t)) (show 24 + (j : Int) + 1 = 24 + ((j + 1 : Nat) : Int) by omega)), trivial⟩ ⟨hX, hB, by show j + 1 ≤ z; omega, by show 2 * M = 2 ^ (j + 1); rw [hM, Nat.pow_succ, Nat.mul_comm]⟩
          · have hge : j = z := by have := nn_f hc60; omega
            obtain rfl : M = N := by rw [hM, hN, hge]
            refine wp_exit ?_
            refine then_exit ?_
            refine then_exit ?_
            refine inB_exit_same ?_
            refine then_normal ?_
            refine wp_seq ?_
            refine wp_seq ?_
            refine region_qd mixed (by kernel_rfl) ?_
            refine q_look (look_move rfl rfl) ?_
            refine q_look (look_nilCheck rfl rfl) ?_
            refine q_look (look_fieldAddr Try.underlying63 rfl (fun _ _ => rfl) rfl rfl) ?_
            refine q_look (look_load1 Try.underlying9 rfl rfl rfl (ext_cell (hB.cell rfl))) ?_
            refine q_look (Look.as (look_len_string Try.underlying9 rfl rfl) (by rw [ofL_size]) (v' := .int .i64 (S.length : Int))) ?_
            refine q_look (look_move rfl rfl) ?_
            refine q_look (look_nilCheck rfl rfl) ?_
            refine q_look (look_fieldAddr Try.underlying63 rfl (fun _ _ => rfl) rfl rfl) ?_
            refine q_look (look_load1 Try.underlying3 rfl rfl rfl (ext_cell (hB.cell rfl))) ?_
            refine q_look (look_sub rfl rfl rfl rfl (by unfold I64; omega)) ?_
            refine q_look (look_sub rfl rfl rfl rfl (by unfold I64; omega)) ?_
            refine q_look (look_move rfl rfl) ?_
            refine q_look (look_lss rfl rfl rfl rfl) ?_
            refine q_nil ?_
            intro w3 hw3
            replace hX := hX.comp hw3
            replace hB := hB.ext hw3
            refine then_normal ?_
            refine cond_split rfl (fun hc77 => ?_) (fun hc77 => ?_)
            · have h3 : ((b :: t).length : Int) < 1 + (M : Int) := by have := nn_t hc77; simp only [List.length_cons]; omega
              refine wp_seq ?_
              refine region_s ?_
              refine q_look (look_assign rfl rfl) ?_
              refine q_look (look_assign rfl rfl) ?_
              refine q_look (look_assign rfl rfl) ?_
              refine q_look (look_assign rfl rfl) ?_
              refine q_nil ?_
              rintro _ rfl
              refine then_normal ?_
              refine wp_ret ?_
              refine then_ret ?_
              have hp4 : peekP (S.drop at') one two = (0, 0, 0, 3) := by
                rw [hS]; simp only [peekP]; rw [if_neg h1, if_neg h2, hNz, if_pos h3]
              exact res4 Try.results42 rfl rfl rfl rfl ⟨by rw [hp4], hX⟩
            · have h3 : ¬ ((b :: t).length : Int) < 1 + (M : Int) := by have := nn_f hc77; simp only [List.length_cons]; omega
              have h3b : M ≤ t.length := by have := nn_f hc77; omega
              refine wp_skip ?_
              refine then_normal ?_
              refine wp_seq ?_
              refine region_s ?_
              refine q_look (look_assign rfl rfl) ?_
              refine q_nil ?_
              rintro _ rfl
              refine then_normal ?_
              refine wp_seq ?_
              refine wp_seq ?_
              refine region_s ?_
              refine q_look (look_assign rfl rfl) ?_
              refine q_nil ?_
              rintro _ rfl
              refine then_normal ?_
              refine wp_block ?_
              refine loop_act (fun (i : Nat) => [(0, .pointer (some ⟨g, 0, none⟩)), (11, .int .i64 ((b.toNat : Int) / 32)), (13, .int .i64 (M : Int)), (15, .int .u64 (beval (t.take i))), (16, .int .i64 (i : Int))]) (fun i w' => (Ext w w') ∧ (Blk w' g 63 (rfc S at' e0)) ∧ (i ≤ M)) (fun i => M - i) (0) ?_ ?_ ?_
              · exact ⟨rfl, rfl, rfl, rfl, rfl, trivial⟩
              · exact ⟨hX, hB, Nat.zero_le _⟩
              · rintro i σ wr hF
                obtain ⟨hX, hB, hi⟩ : (Ext w wr) ∧ (Blk wr g 63 (rfc S at' e0)) ∧ (i ≤ M) := hF
                show Code.wp _ _ _ (act 123 [(0, true, .pointer (some ⟨g, 0, none⟩)), (11, true, .int .i64 ((b.toNat : Int) / 32)), (13, true, .int .i64 (M : Int)), (15, true, .int .u64 (beval (t.take i))), (16, true, .int .i64 (i : Int))] _) _
                refine wp_seq ?_
                refine wp_seq ?_
                refine region_s ?_
                refine q_look (look_move rfl rfl) ?_
                refine q_look (look_move rfl rfl) ?_
                refine q_look (look_lss rfl rfl rfl rfl) ?_
                refine q_nil ?_
                rintro _ rfl
                refine then_normal ?_
                refine cond_split rfl (fun hc80 => ?_) (fun hc80 => ?_)
                · have hlt : i < M := by have := nn_t hc80; omega
                  obtain ⟨y, hy⟩ := get_lt (show i < t.length by omega)
                  have hbd := beval_bd i (t.take i) (by rw [List.length_take]; omega)
                  have hbd2 : beval (t.take i) < 72057594037927936 := Int.lt_of_lt_of_le hbd.2 (Int.le_trans (Int.ofNat_le.2 (Nat.pow_le_pow_right (by omega) (show i ≤ 7 by omega))) (by decide))
                  have hyb := y.toNat_lt
                  refine wp_skip ?_
                  refine then_normal ?_
                  refine wp_seq ?_
                  refine wp_block ?_
                  refine region_qd mixed (by kernel_rfl) ?_
                  refine q_look (look_move rfl rfl) ?_
                  refine q_look (look_mulz rfl rfl rfl rfl (wrap_u64_in (by omega) (by omega))) ?_
                  refine q_look (look_move rfl rfl) ?_
                  refine q_look (look_nilCheck rfl rfl) ?_
                  refine q_look (look_fieldAddr Try.underlying63 rfl (fun _ _ => rfl) rfl rfl) ?_
                  refine q_look (look_load1 Try.underlying9 rfl rfl rfl (ext_cell (hB.cell rfl))) ?_
                  refine q_look (look_move rfl rfl) ?_
                  refine q_look (look_nilCheck rfl rfl) ?_
                  refine q_look (look_fieldAddr Try.underlying63 rfl (fun _ _ => rfl) rfl rfl) ?_
                  refine q_look (look_load1 Try.underlying3 rfl rfl rfl (ext_cell (hB.cell rfl))) ?_
                  refine q_look (look_add rfl rfl rfl rfl (by unfold I64; omega)) ?_
                  refine q_look (look_move rfl rfl) ?_
                  refine q_look (look_add rfl rfl rfl rfl (by unfold I64; omega)) ?_
                  refine q_look (look_index_str (i := at' + 1 + i) Try.underlying9 rfl rfl rfl rfl (by omega) ((hget i).trans hy)) ?_
                  refine q_look (look_conv_int Try.underlying52 Try.underlying5 rfl rfl (wrap_u64_in (by omega) (by omega))) ?_
                  refine q_look (look_addz rfl rfl rfl rfl (wrap_u64_in (by omega) (by omega))) ?_
                  refine q_look (look_assign rfl rfl) ?_
                  refine q_nil ?_
                  intro w4 hw4
                  replace hX := hX.comp hw4
                  replace hB := hB.ext hw4
                  refine inB_normal ?_
                  refine then_normal ?_
                  refine region_s ?_
                  refine q_look (look_move rfl rfl) ?_
                  refine q_look (look_add rfl rfl rfl rfl (by unfold I64; omega)) ?_
                  refine q_look (look_assign rfl rfl) ?_
                  refine q_nil ?_
                  rintro _ rfl
                  exact loop_end (i + 1) (by omega) ⟨rfl, rfl, rfl, (by rw [take_get hy, beval_snoc]; rfl), rfl, trivial⟩ ⟨hX, hB, by omega⟩
                · have hge : i = M := by have := nn_f hc80; omega
                  subst hge
                  have hbd := beval_bd i (t.take i) (by rw [List.length_take]; omega)
                  have hvb : U64 (beval (t.take i)) := ⟨hbd.1, Int.lt_of_lt_of_le hbd.2 (Int.le_trans (Int.ofNat_le.2 (Nat.pow_le_pow_right (by omega) (show i ≤ 8 by omega))) (by decide))⟩
                  refine wp_exit ?_
                  refine then_exit ?_
                  refine then_exit ?_
                  refine inB_exit_same ?_
                  refine then_normal ?_
                  refine wp_seq ?_
                  refine wp_seq ?_
                  refine region_qd mixed (by kernel_rfl) ?_
                  refine q_look (look_move rfl rfl) ?_
                  refine q_look (look_move rfl rfl) ?_
                  refine q_call (vs := [_, _]) enTry_38 ⟨⟨_, rfl, rfl⟩, ⟨_, rfl, rfl⟩, trivial⟩ (fun wc hw => cext hw (refhead_any ((b.toNat : Int) / 32) (beval (t.take i)) wc (by omega) hvb)) ?_
                  refine q_look (look_move rfl rfl) ?_
                  refine q_look (look_nilCheck rfl rfl) ?_
                  refine q_look (look_fieldAddr Try.underlying63 rfl (fun _ _ => rfl) rfl rfl) ?_
                  refine q_look (look_load1 Try.underlying9 rfl rfl rfl (ext_cell (hB.cell rfl))) ?_
                  refine q_look (look_move rfl rfl) ?_
                  refine q_look (look_nilCheck rfl rfl) ?_
                  refine q_look (look_fieldAddr Try.underlying63 rfl (fun _ _ => rfl) rfl rfl) ?_
                  refine q_look (look_load1 Try.underlying3 rfl rfl rfl (ext_cell (hB.cell rfl))) ?_
                  refine q_look (look_move rfl rfl) ?_
                  refine q_look (look_nilCheck rfl rfl) ?_
                  refine q_look (look_fieldAddr Try.underlying63 rfl (fun _ _ => rfl) rfl rfl) ?_
                  refine q_look (look_load1 Try.underlying3 rfl rfl rfl (ext_cell (hB.cell rfl))) ?_
                  refine q_look (look_add rfl rfl rfl rfl (by unfold I64; omega)) ?_
                  refine q_look (look_move rfl rfl) ?_
                  refine q_look (look_add rfl rfl rfl rfl (by unfold I64; omega)) ?_
                  refine q_look (Look.as (look_slice_str_lh (lo := at') (hi := at' + 1 + i) Try.underlying9 rfl rfl rfl rfl rfl rfl rfl (by omega) (by omega) (by omega)) (congrArg (fun q => Value.string (ofL q)) (show (S.take (at' + 1 + i)).drop at' = (b :: t).take (1 + i) by rw [List.drop_take, hS]; congr 1; omega))) ?_
                  refine q_look (look_neq_str rfl rfl rfl rfl) ?_
                  refine q_nil ?_
                  intro w5 hw5
                  replace hX := hX.comp hw5
                  replace hB := hB.ext hw5
                  refine then_normal ?_
                  refine cond_split rfl (fun hc118 => ?_) (fun hc118 => ?_)
                  · have h4 : headP ((b.toNat : Int) / 32) (beval (t.take i)) ≠ (b :: t).take (1 + i) := fun h => nd_t hc118 (by rw [h])
                    refine wp_seq ?_
                    refine region_s ?_
                    refine q_look (look_assign rfl rfl) ?_
                    refine q_look (look_assign rfl rfl) ?_
                    refine q_look (look_assign rfl rfl) ?_
                    refine q_look (look_assign rfl rfl) ?_
                    refine q_nil ?_
                    rintro _ rfl
                    refine then_normal ?_
                    refine wp_ret ?_
                    refine then_ret ?_
                    have hp4 : peekP (S.drop at') one two = (0, 0, 0, 5) := by
                      rw [hS]; simp only [peekP]; rw [if_neg h1, if_neg h2, hNz, if_neg h3, if_pos h4]
                    exact res4 Try.results42 rfl rfl rfl rfl ⟨by rw [hp4], hX⟩
                  · have h4 : ¬ headP ((b.toNat : Int) / 32) (beval (t.take i)) ≠ (b :: t).take (1 + i) := fun h => h (ofL_inj.1 (nd_f hc118))
                    refine wp_skip ?_
                    refine then_normal ?_
                    refine wp_seq ?_
                    refine region_s ?_
                    refine q_look (look_move rfl rfl) ?_
                    refine q_look (look_move rfl rfl) ?_
                    refine q_look (look_move rfl rfl) ?_
                    refine q_look (look_add rfl rfl rfl rfl (by unfold I64; omega)) ?_
                    refine q_look (look_assign rfl rfl) ?_
                    refine q_look (look_assign rfl rfl) ?_
                    refine q_look (look_assign rfl rfl) ?_
                    refine q_look (look_assign rfl rfl) ?_
                    refine q_nil ?_
                    rintro _ rfl
                    refine then_normal ?_
                    refine wp_ret ?_
                    have hp4 : peekP (S.drop at') one two = (((b.toNat : Int) / 32), beval (t.take i), 1 + (i : Int), 0) := by
                      rw [hS]; simp only [peekP]; rw [if_neg h1, if_neg h2, hNz, if_neg h3, if_neg h4]
                    exact res4 Try.results42 rfl rfl rfl rfl ⟨by rw [hp4], hX⟩

theorem fails_any (g : Nat) (S : List UInt8) (at' : Nat) (e0 : Int) (e1 : Int) (w : World) (hB : Blk w g 63 (rfc S at' e0)) :
    Calls Try.prog 43 #[.pointer (some ⟨g, 0, none⟩), .int .i64 e1] w fun e w' => e = .returned (.tuple #[]) ∧ Mut g w w' ∧ Blk w' g 63 (rfc S at' e1) := by
  refine calls_act Try.func43 rfl Try.ntmps43 rfl rfl ?_
  show Code.wp _ _ _ (act 8 [(0, true, .pointer (some ⟨g, 0, none⟩)), (1, true, .int .i64 e1)] _) _
  have hX : Mut g w w := Mut.rfl' g w
  refine wp_region_lit ?_
  refine s_look (look_move rfl rfl) ?_
  refine s_look (look_move rfl rfl) ?_
  refine s_look (look_nilCheck rfl rfl) ?_
  refine s_look (look_fieldAddr Try.underlying63 rfl (fun _ _ => rfl) rfl rfl) ?_
  refine s_store1 szTry_32 rfl rfl rfl rfl hB rfl ?_
  intro u1 hk1 hT1
  replace hX := hX.kp hk1 (by omega)
  clear hB
  have hB := hT1
  refine s_nil ?_
  exact resE Try.results43 ⟨rfl, hX, hB⟩

theorem refint_reads (g : Nat) (S : List UInt8) (at' : Nat) (e0 : Int) (low high : Int) (w : World) (hB : Blk w g 63 (rfc S at' e0)) (hat : at' ≤ S.length) (hr0 : S.length ≤ 1000000) :
    Calls Try.prog 29 #[.pointer (some ⟨g, 0, none⟩), .int .i64 low, .int .i64 high] w fun e w' => e = .returned (.int .i64 (intR (S.drop at') e0 low high).1) ∧ Mut g w w' ∧ Blk w' g 63 (rfc S (at' + (intR (S.drop at') e0 low high).2.1) (intR (S.drop at') e0 low high).2.2) := by
  refine calls_act Try.func29 rfl Try.ntmps29 rfl rfl ?_
  show Code.wp _ _ _ (act 65 [(0, true, .pointer (some ⟨g, 0, none⟩)), (1, true, .int .i64 low), (2, true, .int .i64 high)] _) _
  have hX : Mut g w w := Mut.rfl' g w
  obtain ⟨k, v, z, e, hp⟩ : ∃ k v z e, peekP (S.drop at') 0 1 = (k, v, z, e) := ⟨_, _, _, _, rfl⟩
  have hpk : ∀ w, Blk w g 63 (rfc S at' e0) → Calls Try.prog 42 #[.pointer (some ⟨g, 0, none⟩), .int .i64 0, .int .i64 1] w fun q w' => q = .returned (.tuple #[.int .i64 k, .int .u64 v, .int .i64 z, .int .i64 e]) ∧ Ext w w' := fun w h => by have := arg_any g S at' e0 0 1 w h hat hr0; rw [hp] at this; exact this
  obtain ⟨hok, hv, hz0, hok2⟩ := peek_ok (S.drop at') 0 1 hp (by omega) (by omega)
  have hv2 := hv
  unfold U64 at hv2
  rw [List.length_drop] at hok2
  refine wp_seq ?_
  refine region_s ?_
  refine q_look (look_assign rfl rfl) ?_
  refine q_nil ?_
  rintro _ rfl
  refine then_normal ?_
  refine wp_seq ?_
  refine wp_seq ?_
  refine region_s ?_
  refine q_look (look_move rfl rfl) ?_
  refine q_look (look_eql_nil Try.underlying42 rfl rfl rfl rfl) ?_
  refine q_look (look_move rfl rfl) ?_
  refine q_lookg rfl rfl rfl (fun hq => look_move rfl rfl) ?_
  refine q_lookg rfl rfl rfl (fun hq => look_nilCheck rfl hq) ?_
  refine q_lookg rfl rfl rfl (fun hq => look_fieldAddr Try.underlying63 rfl (fun _ _ => rfl) rfl hq) ?_
  refine q_lookg rfl rfl rfl (fun hq => look_load1 Try.underlying32 rfl rfl hq (eqc (hB.cell rfl))) ?_
  refine q_lookg rfl rfl rfl (fun hq => look_neq rfl hq rfl rfl) ?_
  refine q_look (look_or rfl rfl rfl rfl) ?_
  refine q_nil ?_
  rintro _ rfl
  refine then_normal ?_
  refine cond_split rfl (fun hc20 => ?_) (fun hc20 => ?_)
  · rw [Option.isNone_some, Bool.false_or] at hc20
    have h0 : ¬ e0 = 0 := nd_t hc20
    refine wp_seq ?_
    refine region_s ?_
    refine q_look (look_assign rfl rfl) ?_
    refine q_nil ?_
    rintro _ rfl
    refine then_normal ?_
    refine wp_ret ?_
    refine then_ret ?_
    have hi : intR (S.drop at') e0 low high = (0, 0, e0) := by unfold intR; rw [if_neg h0]
    exact res1 Try.results29 rfl ⟨by rw [hi], hX, by rw [hi]; exact hB⟩
  · rw [Option.isNone_some, Bool.false_or] at hc20
    have h0 : e0 = 0 := nd_f hc20
    refine wp_skip ?_
    refine then_normal ?_
    refine wp_seq ?_
    refine region_q ?_
    refine q_look (look_move rfl rfl) ?_
    refine q_call (vs := [_, _, _]) enTry_42 ⟨⟨_, rfl, rfl⟩, ⟨_, rfl, rfl⟩, ⟨_, rfl, rfl⟩, trivial⟩ (fun wc hw => cext hw (hpk wc (hB.ext hw))) ?_
    refine q_look (look_move rfl rfl) ?_
    refine q_look (look_extract rfl rfl rfl) ?_
    refine q_look (look_extract rfl rfl rfl) ?_
    refine q_look (look_extract rfl rfl rfl) ?_
    refine q_look (look_extract rfl rfl rfl) ?_
    refine q_look (look_assign rfl rfl) ?_
    refine q_look (look_assign rfl rfl) ?_
    refine q_look (look_assign rfl rfl) ?_
    refine q_look (look_assign rfl rfl) ?_
    refine q_nil ?_
    intro w1 hw1
    replace hX := hX.comp hw1
    replace hB := hB.ext hw1
    refine then_normal ?_
    refine seq_cut (n := 65) (fun (e1 : Int) => [(0, .pointer (some ⟨g, 0, none⟩)), (1, .int .i64 low), (2, .int .i64 high), (7, .int .i64 k), (8, .int .u64 v), (9, .int .i64 z), (10, .int .i64 e1)]) (fun e1 w' => (Mut g w w') ∧ (Blk w' g 63 (rfc S at' e0)) ∧ (e1 = if e = 0 ∧ 9223372036854775808 ≤ v then 5 else e)) ?_ ?_
    · refine wp_seq ?_
      refine region_s ?_
      refine q_look (look_move rfl rfl) ?_
      refine q_look (look_eql rfl rfl rfl rfl) ?_
      refine q_look (look_move rfl rfl) ?_
      refine q_lookg rfl rfl rfl (fun hq => look_move rfl rfl) ?_
      refine q_lookg rfl rfl rfl (fun hq => look_geq rfl hq rfl rfl) ?_
      refine q_look (look_and rfl rfl rfl rfl) ?_
      refine q_nil ?_
      rintro _ rfl
      refine then_normal ?_
      refine cond_split rfl (fun hc33 => ?_) (fun hc33 => ?_)
      · have h1 : e = 0 ∧ 9223372036854775808 ≤ v := by simp only [Bool.and_eq_true, decide_eq_true_eq] at hc33; omega
        refine region_s ?_
        refine q_look (look_assign rfl rfl) ?_
        refine q_nil ?_
        rintro _ rfl
        exact cut_end _ ⟨rfl, rfl, rfl, rfl, rfl, rfl, rfl, trivial⟩ ⟨hX, hB, by first | rw [if_pos h1] | rw [if_neg h1]⟩
      · have h1 : ¬ (e = 0 ∧ 9223372036854775808 ≤ v) := fun h => by rw [← Bool.not_eq_true] at hc33; apply hc33; simp only [Bool.and_eq_true, decide_eq_true_eq]; omega
        refine wp_skip ?_
        exact cut_end _ ⟨rfl, rfl, rfl, rfl, rfl, rfl, rfl, trivial⟩ ⟨hX, hB, by first | rw [if_pos h1] | rw [if_neg h1]⟩
    · rintro e1 σ wr hF
      obtain ⟨hX, hB, he1⟩ : (Mut g w wr) ∧ (Blk wr g 63 (rfc S at' e0)) ∧ (e1 = if e = 0 ∧ 9223372036854775808 ≤ v then 5 else e) := hF
      show Code.wp _ _ _ (act 65 [(0, true, .pointer (some ⟨g, 0, none⟩)), (1, true, .int .i64 low), (2, true, .int .i64 high), (7, true, .int .i64 k), (8, true, .int .u64 v), (9, true, .int .i64 z), (10, true, .int .i64 e1)] _) _
      refine wp_seq ?_
      refine wp_seq ?_
      refine region_s ?_
      refine q_look (look_move rfl rfl) ?_
      refine q_look (look_neq rfl rfl rfl rfl) ?_
      refine q_nil ?_
      rintro _ rfl
      refine then_normal ?_
      refine cond_split rfl (fun hc35 => ?_) (fun hc35 => ?_)
      · have h2 : ¬ e1 = 0 := nd_t hc35
        refine wp_seq ?_
        refine wp_region_lit ?_
        refine s_look (look_move rfl rfl) ?_
        refine s_look (look_move rfl rfl) ?_
        refine s_call (vs := [_, _]) enTry_43 ⟨⟨_, rfl, rfl⟩, ⟨_, rfl, rfl⟩, trivial⟩ (fails_any g S at' e0 e1 _ hB) ?_
        rintro _ u1 ⟨rfl, hm1, hT1⟩
        refine ⟨_, rfl, ?_⟩
        replace hX := hX.mut hm1 (by omega)
        clear hB
        have hB := hT1
        refine s_nil ?_
        refine then_normal ?_
        refine wp_seq ?_
        refine region_s ?_
        refine q_look (look_assign rfl rfl) ?_
        refine q_nil ?_
        rintro _ rfl
        refine then_normal ?_
        refine wp_ret ?_
        refine then_ret ?_
        have hi : intR (S.drop at') e0 low high = (0, 0, e1) := by
          unfold intR
          rw [if_pos h0, hp]
          simp only [intQ]
          by_cases h : e = 0
          · rw [if_neg (by omega)]
            by_cases h5 : 9223372036854775808 ≤ v
            · rw [if_pos h5]; rw [if_pos ⟨h, h5⟩] at he1; rw [he1]
            · rw [if_neg (by omega)] at he1; omega
          · rw [if_pos h]; rw [if_neg (by omega)] at he1; rw [he1]
        exact res1 Try.results29 rfl ⟨by rw [hi], hX, by rw [hi]; exact hB⟩
      · have h2 : e1 = 0 := nd_f hc35
        have he : e = 0 ∧ v < 9223372036854775808 := by
          by_cases h : e = 0 ∧ 9223372036854775808 ≤ v
          · rw [if_pos h] at he1; omega
          · rw [if_neg h] at he1; omega
        obtain ⟨_, hz1, hz2, _⟩ := hok2 he.1
        refine wp_skip ?_
        refine then_normal ?_
        refine wp_seq ?_
        refine region_s ?_
        refine q_look (look_move rfl rfl) ?_
        refine q_look (look_conv_int Try.underlying3 Try.underlying52 rfl rfl (wrap_I64 (by unfold I64; omega))) ?_
        refine q_look (look_assign rfl rfl) ?_
        refine q_nil ?_
        rintro _ rfl
        refine then_normal ?_
        refine seq_cut (n := 65) (fun (x : Int) => [(0, .pointer (some ⟨g, 0, none⟩)), (1, .int .i64 low), (2, .int .i64 high), (7, .int .i64 k), (8, .int .u64 v), (9, .int .i64 z), (11, .int .i64 x)]) (fun x w' => (Mut g w w') ∧ (Blk w' g 63 (rfc S at' e0)) ∧ (x = if k = 1 then -1 - v else v)) ?_ ?_
        · refine wp_seq ?_
          refine region_s ?_
          refine q_look (look_move rfl rfl) ?_
          refine q_look (look_eql rfl rfl rfl rfl) ?_
          refine q_nil ?_
          rintro _ rfl
          refine then_normal ?_
          refine cond_split rfl (fun hc42 => ?_) (fun hc42 => ?_)
          · have hk : k = 1 := nn_t hc42
            refine region_s ?_
            refine q_look (look_move rfl rfl) ?_
            refine q_look (look_sub rfl rfl rfl rfl (by unfold I64; omega)) ?_
            refine q_look (look_assign rfl rfl) ?_
            refine q_nil ?_
            rintro _ rfl
            exact cut_end _ ⟨rfl, rfl, rfl, rfl, rfl, rfl, rfl, trivial⟩ ⟨hX, hB, by first | rw [if_pos hk] | rw [if_neg hk]⟩
          · have hk : ¬ k = 1 := nn_f hc42
            refine wp_skip ?_
            exact cut_end _ ⟨rfl, rfl, rfl, rfl, rfl, rfl, rfl, trivial⟩ ⟨hX, hB, by first | rw [if_pos hk] | rw [if_neg hk]⟩
        · rintro x σ wr hF
          obtain ⟨hX, hB, hx⟩ : (Mut g w wr) ∧ (Blk wr g 63 (rfc S at' e0)) ∧ (x = if k = 1 then -1 - v else v) := hF
          have hi : intR (S.drop at') e0 low high = if x < low ∨ high < x then (0, 0, 9) else (x, z.toNat, 0) := by
            unfold intR
            rw [if_pos h0, hp]
            simp only [intQ]
            rw [if_neg (by omega), if_neg (by omega), ← hx]
          show Code.wp _ _ _ (act 65 [(0, true, .pointer (some ⟨g, 0, none⟩)), (1, true, .int .i64 low), (2, true, .int .i64 high), (7, true, .int .i64 k), (8, true, .int .u64 v), (9, true, .int .i64 z), (11, true, .int .i64 x)] _) _
          refine wp_seq ?_
          refine wp_seq ?_
          refine region_s ?_
          refine q_look (look_move rfl rfl) ?_
          refine q_look (look_move rfl rfl) ?_
          refine q_look (look_lss rfl rfl rfl rfl) ?_
          refine q_look (look_move rfl rfl) ?_
          refine q_lookg rfl rfl rfl (fun hq => look_move rfl rfl) ?_
          refine q_lookg rfl rfl rfl (fun hq => look_move rfl rfl) ?_
          refine q_lookg rfl rfl rfl (fun hq => look_gtr rfl hq rfl hq) ?_
          refine q_look (look_or rfl rfl rfl rfl) ?_
          refine q_nil ?_
          rintro _ rfl
          refine then_normal ?_
          refine cond_split rfl (fun hc52 => ?_) (fun hc52 => ?_)
          · have h3 : x < low ∨ high < x := by simp only [Bool.or_eq_true, decide_eq_true_eq] at hc52; exact hc52
            rw [if_pos h3] at hi
            refine wp_seq ?_
            refine wp_region_lit ?_
            refine s_look (look_move rfl rfl) ?_
            refine s_call (vs := [_, _]) enTry_43 ⟨⟨_, rfl, rfl⟩, ⟨_, rfl, rfl⟩, trivial⟩ (fails_any g S at' e0 9 _ hB) ?_
            rintro _ u2 ⟨rfl, hm2, hT2⟩
            refine ⟨_, rfl, ?_⟩
            replace hX := hX.mut hm2 (by omega)
            clear hB
            have hB := hT2
            refine s_nil ?_
            refine then_normal ?_
            refine wp_seq ?_
            refine region_s ?_
            refine q_look (look_assign rfl rfl) ?_
            refine q_nil ?_
            rintro _ rfl
            refine then_normal ?_
            refine wp_ret ?_
            refine then_ret ?_
            exact res1 Try.results29 rfl ⟨by rw [hi], hX, by rw [hi]; exact hB⟩
          · have h3 : ¬ (x < low ∨ high < x) := fun h => by rw [← Bool.not_eq_true] at hc52; apply hc52; simp only [Bool.or_eq_true, decide_eq_true_eq]; exact h
            rw [if_neg h3] at hi
            refine wp_skip ?_
            refine then_normal ?_
            refine wp_seq ?_
            refine wp_region_lit ?_
            refine s_look (look_move rfl rfl) ?_
            refine s_look (look_move rfl rfl) ?_
            refine s_look (look_nilCheck rfl rfl) ?_
            refine s_look (look_fieldAddr Try.underlying63 rfl (fun _ _ => rfl) rfl rfl) ?_
            refine s_look (look_load1 Try.underlying3 rfl rfl rfl (eqc (hB.cell rfl))) ?_
            refine s_look (look_move rfl rfl) ?_
            refine s_look (look_add rfl rfl rfl rfl (by unfold I64; omega)) ?_
            refine s_look (look_nilCheck rfl rfl) ?_
            refine s_look (look_fieldAddr Try.underlying63 rfl (fun _ _ => rfl) rfl rfl) ?_
            refine s_store1 szTry_3 rfl rfl rfl rfl hB rfl ?_
            intro u3 hk3 hT3
            replace hX := hX.kp hk3 (by omega)
            clear hB
            have hB := hT3
            refine s_nil ?_
            refine then_normal ?_
            refine wp_seq ?_
            refine region_s ?_
            refine q_look (look_move rfl rfl) ?_
            refine q_look (look_assign rfl rfl) ?_
            refine q_nil ?_
            rintro _ rfl
            refine then_normal ?_
            refine wp_ret ?_
            have hz9 : ((at' + z.toNat : Nat) : Int) = (at' : Int) + z := by omega
            exact res1 Try.results29 rfl ⟨by rw [hi], hX, by rw [hi, ← h0]; unfold rfc; rw [hz9]; exact hB⟩

theorem refbool_reads (g : Nat) (S : List UInt8) (at' : Nat) (e0 : Int) (w : World) (hB : Blk w g 63 (rfc S at' e0)) (hat : at' ≤ S.length) (hr0 : S.length ≤ 1000000) :
    Calls Try.prog 31 #[.pointer (some ⟨g, 0, none⟩)] w fun e w' => e = .returned (.bool (boolR (S.drop at') e0).1) ∧ Mut g w w' ∧ Blk w' g 63 (rfc S (at' + (boolR (S.drop at') e0).2.1) (boolR (S.drop at') e0).2.2) := by
  refine calls_act Try.func31 rfl Try.ntmps31 rfl rfl ?_
  show Code.wp _ _ _ (act 52 [(0, true, .pointer (some ⟨g, 0, none⟩))] _) _
  have hX : Mut g w w := Mut.rfl' g w
  refine wp_seq ?_
  refine region_s ?_
  refine q_look (look_assign rfl rfl) ?_
  refine q_nil ?_
  rintro _ rfl
  refine then_normal ?_
  refine wp_seq ?_
  refine wp_seq ?_
  refine region_s ?_
  refine q_look (look_move rfl rfl) ?_
  refine q_look (look_eql_nil Try.underlying42 rfl rfl rfl rfl) ?_
  refine q_look (look_move rfl rfl) ?_
  refine q_lookg rfl rfl rfl (fun hq => look_move rfl rfl) ?_
  refine q_lookg rfl rfl rfl (fun hq => look_nilCheck rfl hq) ?_
  refine q_lookg rfl rfl rfl (fun hq => look_fieldAddr Try.underlying63 rfl (fun _ _ => rfl) rfl hq) ?_
  refine q_lookg rfl rfl rfl (fun hq => look_load1 Try.underlying32 rfl rfl hq (eqc (hB.cell rfl))) ?_
  refine q_lookg rfl rfl rfl (fun hq => look_neq rfl hq rfl rfl) ?_
  refine q_look (look_or rfl rfl rfl rfl) ?_
  refine q_nil ?_
  rintro _ rfl
  refine then_normal ?_
  refine cond_split rfl (fun hc12 => ?_) (fun hc12 => ?_)
  · rw [Option.isNone_some, Bool.false_or] at hc12
    have h0 : ¬ e0 = 0 := nd_t hc12
    refine wp_seq ?_
    refine region_s ?_
    refine q_look (look_assign rfl rfl) ?_
    refine q_nil ?_
    rintro _ rfl
    refine then_normal ?_
    refine wp_ret ?_
    refine then_ret ?_
    have hi : boolR (S.drop at') e0 = (false, 0, e0) := by unfold boolR; rw [if_neg h0]
    exact res1 Try.results31 rfl ⟨by rw [hi], hX, by rw [hi]; exact hB⟩
  · rw [Option.isNone_some, Bool.false_or] at hc12
    have h0 : e0 = 0 := nd_f hc12
    refine wp_skip ?_
    refine then_normal ?_
    refine wp_seq ?_
    refine wp_seq ?_
    refine region_qd mixed (by kernel_rfl) ?_
    refine q_look (look_move rfl rfl) ?_
    refine q_look (look_nilCheck rfl rfl) ?_
    refine q_look (look_fieldAddr Try.underlying63 rfl (fun _ _ => rfl) rfl rfl) ?_
    refine q_look (look_load1 Try.underlying3 rfl rfl rfl (ext_cell (hB.cell rfl))) ?_
    refine q_look (look_move rfl rfl) ?_
    refine q_look (look_nilCheck rfl rfl) ?_
    refine q_look (look_fieldAddr Try.underlying63 rfl (fun _ _ => rfl) rfl rfl) ?_
    refine q_look (look_load1 Try.underlying9 rfl rfl rfl (ext_cell (hB.cell rfl))) ?_
    refine q_look (Look.as (look_len_string Try.underlying9 rfl rfl) (by rw [ofL_size]) (v' := .int .i64 (S.length : Int))) ?_
    refine q_look (look_geq rfl rfl rfl rfl) ?_
    refine q_nil ?_
    intro w1 hw1
    replace hX := hX.comp hw1
    replace hB := hB.ext hw1
    refine then_normal ?_
    refine cond_split rfl (fun hc22 => ?_) (fun hc22 => ?_)
    · have hr : S.drop at' = [] := List.drop_eq_nil_of_le (by have := nn_t hc22; omega)
      refine wp_seq ?_
      refine wp_region_lit ?_
      refine s_look (look_move rfl rfl) ?_
      refine s_call (vs := [_, _]) enTry_43 ⟨⟨_, rfl, rfl⟩, ⟨_, rfl, rfl⟩, trivial⟩ (fails_any g S at' e0 3 _ hB) ?_
      rintro _ u1 ⟨rfl, hm1, hT1⟩
      refine ⟨_, rfl, ?_⟩
      replace hX := hX.mut hm1 (by omega)
      clear hB
      have hB := hT1
      refine s_nil ?_
      refine then_normal ?_
      refine wp_seq ?_
      refine region_s ?_
      refine q_look (look_assign rfl rfl) ?_
      refine q_nil ?_
      rintro _ rfl
      refine then_normal ?_
      refine wp_ret ?_
      refine then_ret ?_
      have hi : boolR (S.drop at') e0 = (false, 0, 3) := by unfold boolR; rw [if_pos h0, hr]
      exact res1 Try.results31 rfl ⟨by rw [hi], hX, by rw [hi]; exact hB⟩
    · have hr : ¬ at' ≥ S.length := fun h => nn_f hc22 (by omega)
      obtain ⟨b, t, hS⟩ : ∃ b t, S.drop at' = b :: t := by
        cases h : S.drop at' with
        | nil => have := List.drop_eq_nil_iff.1 h; omega
        | cons b t => exact ⟨b, t, rfl⟩
      obtain ⟨hlen, hgb, hget⟩ := drop_cons hS
      have hb := b.toNat_lt
      have hbe : ∀ n : Nat, (b.toNat : Int) = (n : Int) → b = UInt8.ofNat n := fun n h => by rw [show n = b.toNat by omega]; simp
      refine wp_skip ?_
      refine then_normal ?_
      refine wp_seq ?_
      refine region_qd mixed (by kernel_rfl) ?_
      refine q_look (look_move rfl rfl) ?_
      refine q_look (look_nilCheck rfl rfl) ?_
      refine q_look (look_fieldAddr Try.underlying63 rfl (fun _ _ => rfl) rfl rfl) ?_
      refine q_look (look_load1 Try.underlying9 rfl rfl rfl (ext_cell (hB.cell rfl))) ?_
      refine q_look (look_move rfl rfl) ?_
      refine q_look (look_nilCheck rfl rfl) ?_
      refine q_look (look_fieldAddr Try.underlying63 rfl (fun _ _ => rfl) rfl rfl) ?_
      refine q_look (look_load1 Try.underlying3 rfl rfl rfl (ext_cell (hB.cell rfl))) ?_
      refine q_look (look_index_str (i := at') Try.underlying9 rfl rfl rfl rfl rfl hgb) ?_
      refine q_look (look_assign rfl rfl) ?_
      refine q_nil ?_
      intro w2 hw2
      replace hX := hX.comp hw2
      replace hB := hB.ext hw2
      refine then_normal ?_
      refine wp_seq ?_
      refine wp_seq ?_
      refine region_s ?_
      refine q_look (look_move rfl rfl) ?_
      refine q_look (look_neq rfl rfl rfl rfl) ?_
      refine q_look (look_move rfl rfl) ?_
      refine q_lookg rfl rfl rfl (fun hq => look_move rfl rfl) ?_
      refine q_lookg rfl rfl rfl (fun hq => look_neq rfl hq rfl rfl) ?_
      refine q_look (look_and rfl rfl rfl rfl) ?_
      refine q_nil ?_
      rintro _ rfl
      refine then_normal ?_
      refine cond_split rfl (fun hc39 => ?_) (fun hc39 => ?_)
      · have h1 : ¬ b = 244 ∧ ¬ b = 245 := by rw [Bool.and_eq_true] at hc39; exact ⟨fun h => nd_t hc39.1 (by rw [h]; rfl), fun h => nd_t hc39.2 (by rw [h]; rfl)⟩
        refine wp_seq ?_
        refine wp_region_lit ?_
        refine s_look (look_move rfl rfl) ?_
        refine s_call (vs := [_, _]) enTry_43 ⟨⟨_, rfl, rfl⟩, ⟨_, rfl, rfl⟩, trivial⟩ (fails_any g S at' e0 5 _ hB) ?_
        rintro _ u2 ⟨rfl, hm2, hT2⟩
        refine ⟨_, rfl, ?_⟩
        replace hX := hX.mut hm2 (by omega)
        clear hB
        have hB := hT2
        refine s_nil ?_
        refine then_normal ?_
        refine wp_seq ?_
        refine region_s ?_
        refine q_look (look_assign rfl rfl) ?_
        refine q_nil ?_
        rintro _ rfl
        refine then_normal ?_
        refine wp_ret ?_
        refine then_ret ?_
        have hi : boolR (S.drop at') e0 = (false, 0, 5) := by unfold boolR; rw [if_pos h0, hS]; show (if b = 244 then (false, 1, 0) else if b = 245 then (true, 1, 0) else (false, 0, 5)) = ((false, 0, 5) : Bool × Nat × Int); rw [if_neg h1.1, if_neg h1.2]
        exact res1 Try.results31 rfl ⟨by rw [hi], hX, by rw [hi]; exact hB⟩
      · have h1 : b = 244 ∨ b = 245 := by rw [Bool.and_eq_false_iff] at hc39; rcases hc39 with h | h; exact .inl (hbe 244 (nd_f h)); exact .inr (hbe 245 (nd_f h))
        refine wp_skip ?_
        refine then_normal ?_
        refine wp_seq ?_
        refine wp_region_lit ?_
        refine s_look (look_move rfl rfl) ?_
        refine s_look (look_move rfl rfl) ?_
        refine s_look (look_nilCheck rfl rfl) ?_
        refine s_look (look_fieldAddr Try.underlying63 rfl (fun _ _ => rfl) rfl rfl) ?_
        refine s_look (look_load1 Try.underlying3 rfl rfl rfl (eqc (hB.cell rfl))) ?_
        refine s_look (look_add rfl rfl rfl rfl (by unfold I64; omega)) ?_
        refine s_look (look_nilCheck rfl rfl) ?_
        refine s_look (look_fieldAddr Try.underlying63 rfl (fun _ _ => rfl) rfl rfl) ?_
        refine s_store1 szTry_3 rfl rfl rfl rfl hB rfl ?_
        intro u3 hk3 hT3
        replace hX := hX.kp hk3 (by omega)
        clear hB
        have hB := hT3
        refine s_nil ?_
        refine then_normal ?_
        refine wp_seq ?_
        refine region_s ?_
        refine q_look (look_move rfl rfl) ?_
        refine q_look (look_eql rfl rfl rfl rfl) ?_
        refine q_look (look_assign rfl rfl) ?_
        refine q_nil ?_
        rintro _ rfl
        refine then_normal ?_
        refine wp_ret ?_
        rcases h1 with rfl | rfl
        · have hi : boolR (S.drop at') e0 = (false, 1, 0) := by unfold boolR; rw [if_pos h0, hS]; rfl
          exact res1 Try.results31 rfl ⟨by rw [hi]; rfl, hX, by rw [hi, ← h0]; exact hB⟩
        · have hi : boolR (S.drop at') e0 = (true, 1, 0) := by unfold boolR; rw [if_pos h0, hS]; rfl
          exact res1 Try.results31 rfl ⟨by rw [hi]; rfl, hX, by rw [hi, ← h0]; exact hB⟩

theorem reftext_reads (g : Nat) (S : List UInt8) (at' : Nat) (e0 : Int) (most : Int) (w : World) (hB : Blk w g 63 (rfc S at' e0)) (hat : at' ≤ S.length) (hr0 : S.length ≤ 1000000) (hm : I64 most) :
    Calls Try.prog 30 #[.pointer (some ⟨g, 0, none⟩), .int .i64 most] w fun e w' => e = .returned (.string (ofL (textR (S.drop at') e0 most).1)) ∧ Mut g w w' ∧ Blk w' g 63 (rfc S (at' + (textR (S.drop at') e0 most).2.1) (textR (S.drop at') e0 most).2.2) := by
  refine calls_act Try.func30 rfl Try.ntmps30 rfl rfl ?_
  show Code.wp _ _ _ (act 95 [(0, true, .pointer (some ⟨g, 0, none⟩)), (1, true, .int .i64 most)] _) _
  have hX : Mut g w w := Mut.rfl' g w
  have hm2 := hm
  unfold I64 at hm2
  obtain ⟨k, v, z, e, hp⟩ : ∃ k v z e, peekP (S.drop at') 2 2 = (k, v, z, e) := ⟨_, _, _, _, rfl⟩
  have hpk : ∀ w, Blk w g 63 (rfc S at' e0) → Calls Try.prog 42 #[.pointer (some ⟨g, 0, none⟩), .int .i64 2, .int .i64 2] w fun q w' => q = .returned (.tuple #[.int .i64 k, .int .u64 v, .int .i64 z, .int .i64 e]) ∧ Ext w w' := fun w h => by have := arg_any g S at' e0 2 2 w h hat hr0; rw [hp] at this; exact this
  obtain ⟨hok, hv, hz0, hok2⟩ := peek_ok (S.drop at') 2 2 hp (by omega) (by omega)
  have hv2 := hv
  unfold U64 at hv2
  rw [List.length_drop] at hok2
  refine wp_seq ?_
  refine region_s ?_
  refine q_look (look_assign rfl rfl) ?_
  refine q_nil ?_
  rintro _ rfl
  refine then_normal ?_
  refine wp_seq ?_
  refine wp_seq ?_
  refine region_s ?_
  refine q_look (look_move rfl rfl) ?_
  refine q_look (look_eql_nil Try.underlying42 rfl rfl rfl rfl) ?_
  refine q_look (look_move rfl rfl) ?_
  refine q_lookg rfl rfl rfl (fun hq => look_move rfl rfl) ?_
  refine q_lookg rfl rfl rfl (fun hq => look_nilCheck rfl hq) ?_
  refine q_lookg rfl rfl rfl (fun hq => look_fieldAddr Try.underlying63 rfl (fun _ _ => rfl) rfl hq) ?_
  refine q_lookg rfl rfl rfl (fun hq => look_load1 Try.underlying32 rfl rfl hq (eqc (hB.cell rfl))) ?_
  refine q_lookg rfl rfl rfl (fun hq => look_neq rfl hq rfl rfl) ?_
  refine q_look (look_or rfl rfl rfl rfl) ?_
  refine q_nil ?_
  rintro _ rfl
  refine then_normal ?_
  refine cond_split rfl (fun hc18 => ?_) (fun hc18 => ?_)
  · rw [Option.isNone_some, Bool.false_or] at hc18
    have h0 : ¬ e0 = 0 := nd_t hc18
    refine wp_seq ?_
    refine region_s ?_
    refine q_look (look_assign rfl rfl) ?_
    refine q_nil ?_
    rintro _ rfl
    refine then_normal ?_
    refine wp_ret ?_
    refine then_ret ?_
    have hi : textR (S.drop at') e0 most = ([], 0, e0) := by unfold textR countR; rw [if_neg h0]; rfl
    exact res1 Try.results30 rfl ⟨by rw [hi]; rfl, hX, by rw [hi]; exact hB⟩
  · rw [Option.isNone_some, Bool.false_or] at hc18
    have h0 : e0 = 0 := nd_f hc18
    refine wp_skip ?_
    refine then_normal ?_
    refine wp_seq ?_
    refine region_q ?_
    refine q_look (look_move rfl rfl) ?_
    refine q_call (vs := [_, _, _]) enTry_42 ⟨⟨_, rfl, rfl⟩, ⟨_, rfl, rfl⟩, ⟨_, rfl, rfl⟩, trivial⟩ (fun wc hw => cext hw (hpk wc (hB.ext hw))) ?_
    refine q_look (look_move rfl rfl) ?_
    refine q_look (look_extract rfl rfl rfl) ?_
    refine q_look (look_extract rfl rfl rfl) ?_
    refine q_look (look_extract rfl rfl rfl) ?_
    refine q_look (look_extract rfl rfl rfl) ?_
    refine q_look (look_assign rfl rfl) ?_
    refine q_look (look_assign rfl rfl) ?_
    refine q_look (look_assign rfl rfl) ?_
    refine q_look (look_assign rfl rfl) ?_
    refine q_nil ?_
    intro w1 hw1
    replace hX := hX.comp hw1
    replace hB := hB.ext hw1
    refine then_normal ?_
    refine seq_cut (n := 95) (fun (e1 : Int) => [(0, .pointer (some ⟨g, 0, none⟩)), (1, .int .i64 most), (6, .int .u64 v), (7, .int .i64 z), (8, .int .i64 e1)]) (fun e1 w' => (Mut g w w') ∧ (Blk w' g 63 (rfc S at' e0)) ∧ (e1 = if e = 0 ∧ (most < 0 ∨ most < v) then 4 else e)) ?_ ?_
    · refine wp_seq ?_
      refine region_s ?_
      refine q_look (look_move rfl rfl) ?_
      refine q_look (look_eql rfl rfl rfl rfl) ?_
      refine q_look (look_move rfl rfl) ?_
      refine q_lookg rfl rfl rfl (fun hq => look_move rfl rfl) ?_
      refine q_lookg rfl rfl rfl (fun hq => look_lss rfl hq rfl rfl) ?_
      refine q_lookg rfl rfl rfl (fun hq => look_move rfl hq) ?_
      refine q_lookg rfl rfl rfl (fun hq => look_move rfl rfl) ?_
      refine q_lookg rfl rfl rfl (fun hq => look_move rfl rfl) ?_
      refine q_lookg rfl rfl rfl (fun hq => look_conv_int Try.underlying52 Try.underlying3 rfl hq (wrap_u64_in (by have := nn_f (gqR hq); omega) (by omega))) ?_
      refine q_lookg rfl rfl rfl (fun hq => look_gtr rfl hq rfl hq) ?_
      refine q_lookg rfl rfl rfl (fun hq => look_or rfl hq rfl hq) ?_
      refine q_look (look_and rfl rfl rfl rfl) ?_
      refine q_nil ?_
      rintro _ rfl
      refine then_normal ?_
      refine cond_split rfl (fun hc37 => ?_) (fun hc37 => ?_)
      · have h1 : e = 0 ∧ (most < 0 ∨ most < v) := by simp only [Bool.and_eq_true, Bool.or_eq_true, decide_eq_true_eq] at hc37; omega
        refine region_s ?_
        refine q_look (look_assign rfl rfl) ?_
        refine q_nil ?_
        rintro _ rfl
        exact cut_end _ ⟨rfl, rfl, rfl, rfl, rfl, trivial⟩ ⟨hX, hB, by first | rw [if_pos h1] | rw [if_neg h1]⟩
      · have h1 : ¬ (e = 0 ∧ (most < 0 ∨ most < v)) := fun h => by rw [← Bool.not_eq_true] at hc37; apply hc37; simp only [Bool.and_eq_true, Bool.or_eq_true, decide_eq_true_eq]; omega
        refine wp_skip ?_
        exact cut_end _ ⟨rfl, rfl, rfl, rfl, rfl, trivial⟩ ⟨hX, hB, by first | rw [if_pos h1] | rw [if_neg h1]⟩
    · rintro e1 σ wr hF
      obtain ⟨hX, hB, he1⟩ : (Mut g w wr) ∧ (Blk wr g 63 (rfc S at' e0)) ∧ (e1 = if e = 0 ∧ (most < 0 ∨ most < v) then 4 else e) := hF
      have hz3 : e1 = 0 → e = 0 ∧ 1 ≤ z ∧ z ≤ ((S.length - at' : Nat) : Int) ∧ 0 ≤ most ∧ v ≤ most := fun h => by
        by_cases h5 : e = 0 ∧ (most < 0 ∨ most < v)
        · rw [if_pos h5] at he1; omega
        · rw [if_neg h5] at he1
          obtain ⟨_, a, b, _⟩ := hok2 (by omega)
          omega
      show Code.wp _ _ _ (act 95 [(0, true, .pointer (some ⟨g, 0, none⟩)), (1, true, .int .i64 most), (6, true, .int .u64 v), (7, true, .int .i64 z), (8, true, .int .i64 e1)] _) _
      refine seq_cut (n := 95) (fun (e2 : Int) => [(0, .pointer (some ⟨g, 0, none⟩)), (1, .int .i64 most), (6, .int .u64 v), (7, .int .i64 z), (8, .int .i64 e2)]) (fun e2 w' => (Mut g w w') ∧ (Blk w' g 63 (rfc S at' e0)) ∧ (e2 = if e1 = 0 ∧ ((S.length - at' : Nat) : Int) - z < v then 3 else e1)) ?_ ?_
      · refine wp_seq ?_
        refine region_qd mixed (by kernel_rfl) ?_
        refine q_look (look_move rfl rfl) ?_
        refine q_look (look_eql rfl rfl rfl rfl) ?_
        refine q_look (look_move rfl rfl) ?_
        refine q_lookg rfl rfl rfl (fun hq => look_move rfl rfl) ?_
        refine q_lookg rfl rfl rfl (fun hq => look_move rfl rfl) ?_
        refine q_lookg rfl rfl rfl (fun hq => look_nilCheck rfl hq) ?_
        refine q_lookg rfl rfl rfl (fun hq => look_fieldAddr Try.underlying63 rfl (fun _ _ => rfl) rfl hq) ?_
        refine q_lookg rfl rfl rfl (fun hq => look_load1 Try.underlying9 rfl rfl hq (ext_cell (hB.cell rfl))) ?_
        refine q_lookg rfl rfl rfl (fun hq => Look.as (look_len_string Try.underlying9 rfl hq) (by rw [ofL_size]) (v' := .int .i64 (S.length : Int))) ?_
        refine q_lookg rfl rfl rfl (fun hq => look_move rfl rfl) ?_
        refine q_lookg rfl rfl rfl (fun hq => look_nilCheck rfl hq) ?_
        refine q_lookg rfl rfl rfl (fun hq => look_fieldAddr Try.underlying63 rfl (fun _ _ => rfl) rfl hq) ?_
        refine q_lookg rfl rfl rfl (fun hq => look_load1 Try.underlying3 rfl rfl hq (ext_cell (hB.cell rfl))) ?_
        refine q_lookg rfl rfl rfl (fun hq => look_sub rfl hq rfl hq (by have := hz3 (nn_t (gqR hq)); unfold I64; omega)) ?_
        refine q_lookg rfl rfl rfl (fun hq => look_move rfl rfl) ?_
        refine q_lookg rfl rfl rfl (fun hq => look_sub rfl hq rfl hq (by have := hz3 (nn_t (gqR hq)); unfold I64; omega)) ?_
        refine q_lookg rfl rfl rfl (fun hq => look_conv_int Try.underlying52 Try.underlying3 rfl hq (wrap_u64_in (by have := hz3 (nn_t (gqR hq)); omega) (by have := hz3 (nn_t (gqR hq)); omega))) ?_
        refine q_lookg rfl rfl rfl (fun hq => look_gtr rfl hq rfl hq) ?_
        refine q_look (look_and rfl rfl rfl rfl) ?_
        refine q_nil ?_
        intro w2 hw2
        replace hX := hX.comp hw2
        replace hB := hB.ext hw2
        refine then_normal ?_
        refine cond_split rfl (fun hc56 => ?_) (fun hc56 => ?_)
        · have h2 : e1 = 0 ∧ ((S.length - at' : Nat) : Int) - z < v := by rw [Bool.and_eq_true] at hc56; have := nn_t hc56.1; have := nn_t hc56.2; omega
          refine region_s ?_
          refine q_look (look_assign rfl rfl) ?_
          refine q_nil ?_
          rintro _ rfl
          exact cut_end _ ⟨rfl, rfl, rfl, rfl, rfl, trivial⟩ ⟨hX, hB, by first | rw [if_pos h2] | rw [if_neg h2]⟩
        · have h2 : ¬ (e1 = 0 ∧ ((S.length - at' : Nat) : Int) - z < v) := fun h => by rw [decide_eq_true h.1, Bool.true_and] at hc56; have := nn_f hc56; omega
          refine wp_skip ?_
          exact cut_end _ ⟨rfl, rfl, rfl, rfl, rfl, trivial⟩ ⟨hX, hB, by first | rw [if_pos h2] | rw [if_neg h2]⟩
      · rintro e2 σ wr hF
        obtain ⟨hX, hB, he2⟩ : (Mut g w wr) ∧ (Blk wr g 63 (rfc S at' e0)) ∧ (e2 = if e1 = 0 ∧ ((S.length - at' : Nat) : Int) - z < v then 3 else e1) := hF
        have hi : countR (S.drop at') e0 2 most true = if e2 = 0 then (v, z.toNat, 0) else (0, 0, e2) := by
          unfold countR
          rw [if_pos h0, hp, List.length_drop]
          simp only [countQ]
          by_cases h : e = 0
          · rw [if_neg (by omega)]
            by_cases h1 : most < 0 ∨ most < v
            · rw [if_pos ⟨h, h1⟩] at he1; rw [if_neg (by omega)] at he2; rw [if_pos h1, if_neg (by omega), he2, he1]
            · rw [if_neg (by omega)] at he1
              rw [if_neg h1]
              by_cases h2 : ((S.length - at' : Nat) : Int) - z < v
              · rw [if_pos ⟨by omega, h2⟩] at he2; rw [if_pos ⟨trivial, h2⟩, if_neg (by omega), he2]
              · rw [if_neg (by omega)] at he2; rw [if_neg (by omega), if_pos (by omega)]
          · rw [if_neg (by omega)] at he1; rw [if_neg (by omega)] at he2; rw [if_pos h, if_neg (by omega), he2, he1]
        show Code.wp _ _ _ (act 95 [(0, true, .pointer (some ⟨g, 0, none⟩)), (1, true, .int .i64 most), (6, true, .int .u64 v), (7, true, .int .i64 z), (8, true, .int .i64 e2)] _) _
        refine wp_seq ?_
        refine wp_seq ?_
        refine region_s ?_
        refine q_look (look_move rfl rfl) ?_
        refine q_look (look_neq rfl rfl rfl rfl) ?_
        refine q_nil ?_
        rintro _ rfl
        refine then_normal ?_
        refine cond_split rfl (fun hc58 => ?_) (fun hc58 => ?_)
        · have h3 : ¬ e2 = 0 := nd_t hc58
          rw [if_neg h3] at hi
          refine wp_seq ?_
          refine wp_region_lit ?_
          refine s_look (look_move rfl rfl) ?_
          refine s_look (look_move rfl rfl) ?_
          refine s_call (vs := [_, _]) enTry_43 ⟨⟨_, rfl, rfl⟩, ⟨_, rfl, rfl⟩, trivial⟩ (fails_any g S at' e0 e2 _ hB) ?_
          rintro _ u1 ⟨rfl, hm1, hT1⟩
          refine ⟨_, rfl, ?_⟩
          replace hX := hX.mut hm1 (by omega)
          clear hB
          have hB := hT1
          refine s_nil ?_
          refine then_normal ?_
          refine wp_seq ?_
          refine region_s ?_
          refine q_look (look_assign rfl rfl) ?_
          refine q_nil ?_
          rintro _ rfl
          refine then_normal ?_
          refine wp_ret ?_
          refine then_ret ?_
          have ht : textR (S.drop at') e0 most = ([], 0, e2) := by unfold textR; rw [hi]; rfl
          exact res1 Try.results30 rfl ⟨by rw [ht]; rfl, hX, by rw [ht]; exact hB⟩
        · have h3 : e2 = 0 := nd_f hc58
          rw [if_pos h3] at hi
          have h4 : e1 = 0 ∧ v ≤ ((S.length - at' : Nat) : Int) - z := by
            by_cases h : e1 = 0 ∧ ((S.length - at' : Nat) : Int) - z < v
            · rw [if_pos h] at he2; omega
            · rw [if_neg h] at he2; omega
          obtain ⟨he, hz1, hz2, hm0, hvm⟩ := hz3 h4.1
          refine wp_skip ?_
          refine then_normal ?_
          refine wp_seq ?_
          refine region_qd mixed (by kernel_rfl) ?_
          refine q_look (look_move rfl rfl) ?_
          refine q_look (look_nilCheck rfl rfl) ?_
          refine q_look (look_fieldAddr Try.underlying63 rfl (fun _ _ => rfl) rfl rfl) ?_
          refine q_look (look_load1 Try.underlying9 rfl rfl rfl (ext_cell (hB.cell rfl))) ?_
          refine q_look (look_move rfl rfl) ?_
          refine q_look (look_nilCheck rfl rfl) ?_
          refine q_look (look_fieldAddr Try.underlying63 rfl (fun _ _ => rfl) rfl rfl) ?_
          refine q_look (look_load1 Try.underlying3 rfl rfl rfl (ext_cell (hB.cell rfl))) ?_
          refine q_look (look_move rfl rfl) ?_
          refine q_look (look_add rfl rfl rfl rfl (by unfold I64; omega)) ?_
          refine q_look (look_move rfl rfl) ?_
          refine q_look (look_nilCheck rfl rfl) ?_
          refine q_look (look_fieldAddr Try.underlying63 rfl (fun _ _ => rfl) rfl rfl) ?_
          refine q_look (look_load1 Try.underlying3 rfl rfl rfl (ext_cell (hB.cell rfl))) ?_
          refine q_look (look_move rfl rfl) ?_
          refine q_look (look_add rfl rfl rfl rfl (by unfold I64; omega)) ?_
          refine q_look (look_move rfl rfl) ?_
          refine q_look (look_conv_int Try.underlying3 Try.underlying52 rfl rfl (wrap_I64 (by unfold I64; omega))) ?_
          refine q_look (look_add rfl rfl rfl rfl (by unfold I64; omega)) ?_
          refine q_look (Look.as (look_slice_str_lh (lo := at' + z.toNat) (hi := at' + z.toNat + v.toNat) Try.underlying9 rfl rfl rfl rfl rfl rfl (by omega) (by omega) (by omega) (by omega)) (congrArg (fun q => Value.string (ofL q)) (show (S.take (at' + z.toNat + v.toNat)).drop (at' + z.toNat) = ((S.drop at').drop z.toNat).take v.toNat by rw [List.drop_take, List.drop_drop]; congr 1; omega))) ?_
          refine q_look (look_assign rfl rfl) ?_
          refine q_nil ?_
          intro w3 hw3
          replace hX := hX.comp hw3
          replace hB := hB.ext hw3
          refine then_normal ?_
          refine wp_seq ?_
          refine wp_region_lit ?_
          refine s_look (look_move rfl rfl) ?_
          refine s_look (look_move rfl rfl) ?_
          refine s_look (look_nilCheck rfl rfl) ?_
          refine s_look (look_fieldAddr Try.underlying63 rfl (fun _ _ => rfl) rfl rfl) ?_
          refine s_look (look_load1 Try.underlying3 rfl rfl rfl (eqc (hB.cell rfl))) ?_
          refine s_look (look_move rfl rfl) ?_
          refine s_look (look_add rfl rfl rfl rfl (by unfold I64; omega)) ?_
          refine s_look (look_move rfl rfl) ?_
          refine s_look (look_conv_int Try.underlying3 Try.underlying52 rfl rfl (wrap_I64 (by unfold I64; omega))) ?_
          refine s_look (look_add rfl rfl rfl rfl (by unfold I64; omega)) ?_
          refine s_look (look_nilCheck rfl rfl) ?_
          refine s_look (look_fieldAddr Try.underlying63 rfl (fun _ _ => rfl) rfl rfl) ?_
          refine s_store1 szTry_3 rfl rfl rfl rfl hB rfl ?_
          intro u2 hk2 hT2
          replace hX := hX.kp hk2 (by omega)
          clear hB
          have hB := hT2
          refine s_nil ?_
          refine then_normal ?_
          refine wp_seq ?_
          refine region_s ?_
          refine q_look (look_move rfl rfl) ?_
          refine q_look (look_assign rfl rfl) ?_
          refine q_nil ?_
          rintro _ rfl
          refine then_normal ?_
          refine wp_ret ?_
          have ht : textR (S.drop at') e0 most = (((S.drop at').drop z.toNat).take v.toNat, z.toNat + v.toNat, 0) := by unfold textR; rw [hi]
          have hz9 : ((at' + (z.toNat + v.toNat) : Nat) : Int) = (at' : Int) + z + v := by omega
          exact res1 Try.results30 rfl ⟨by rw [ht], hX, by rw [ht, ← h0]; unfold rfc; rw [hz9]; exact hB⟩

theorem reflist_reads (g : Nat) (S : List UInt8) (at' : Nat) (e0 : Int) (most : Int) (w : World) (hB : Blk w g 63 (rfc S at' e0)) (hat : at' ≤ S.length) (hr0 : S.length ≤ 1000000) (hm : I64 most) :
    Calls Try.prog 32 #[.pointer (some ⟨g, 0, none⟩), .int .i64 most] w fun e w' => e = .returned (.int .i64 (countR (S.drop at') e0 4 most false).1) ∧ Mut g w w' ∧ Blk w' g 63 (rfc S (at' + (countR (S.drop at') e0 4 most false).2.1) (countR (S.drop at') e0 4 most false).2.2) := by
  refine calls_act Try.func32 rfl Try.ntmps32 rfl rfl ?_
  show Code.wp _ _ _ (act 53 [(0, true, .pointer (some ⟨g, 0, none⟩)), (1, true, .int .i64 most)] _) _
  have hX : Mut g w w := Mut.rfl' g w
  have hm2 := hm
  unfold I64 at hm2
  obtain ⟨k, v, z, e, hp⟩ : ∃ k v z e, peekP (S.drop at') 4 4 = (k, v, z, e) := ⟨_, _, _, _, rfl⟩
  have hpk : ∀ w, Blk w g 63 (rfc S at' e0) → Calls Try.prog 42 #[.pointer (some ⟨g, 0, none⟩), .int .i64 4, .int .i64 4] w fun q w' => q = .returned (.tuple #[.int .i64 k, .int .u64 v, .int .i64 z, .int .i64 e]) ∧ Ext w w' := fun w h => by have := arg_any g S at' e0 4 4 w h hat hr0; rw [hp] at this; exact this
  obtain ⟨hok, hv, hz0, hok2⟩ := peek_ok (S.drop at') 4 4 hp (by omega) (by omega)
  have hv2 := hv
  unfold U64 at hv2
  rw [List.length_drop] at hok2
  refine wp_seq ?_
  refine region_s ?_
  refine q_look (look_assign rfl rfl) ?_
  refine q_nil ?_
  rintro _ rfl
  refine then_normal ?_
  refine wp_seq ?_
  refine wp_seq ?_
  refine region_s ?_
  refine q_look (look_move rfl rfl) ?_
  refine q_look (look_eql_nil Try.underlying42 rfl rfl rfl rfl) ?_
  refine q_look (look_move rfl rfl) ?_
  refine q_lookg rfl rfl rfl (fun hq => look_move rfl rfl) ?_
  refine q_lookg rfl rfl rfl (fun hq => look_nilCheck rfl hq) ?_
  refine q_lookg rfl rfl rfl (fun hq => look_fieldAddr Try.underlying63 rfl (fun _ _ => rfl) rfl hq) ?_
  refine q_lookg rfl rfl rfl (fun hq => look_load1 Try.underlying32 rfl rfl hq (eqc (hB.cell rfl))) ?_
  refine q_lookg rfl rfl rfl (fun hq => look_neq rfl hq rfl rfl) ?_
  refine q_look (look_or rfl rfl rfl rfl) ?_
  refine q_nil ?_
  rintro _ rfl
  refine then_normal ?_
  refine cond_split rfl (fun hc17 => ?_) (fun hc17 => ?_)
  · rw [Option.isNone_some, Bool.false_or] at hc17
    have h0 : ¬ e0 = 0 := nd_t hc17
    refine wp_seq ?_
    refine region_s ?_
    refine q_look (look_assign rfl rfl) ?_
    refine q_nil ?_
    rintro _ rfl
    refine then_normal ?_
    refine wp_ret ?_
    refine then_ret ?_
    have hi : countR (S.drop at') e0 4 most false = (0, 0, e0) := by unfold countR; rw [if_neg h0]
    exact res1 Try.results32 rfl ⟨by rw [hi], hX, by rw [hi]; exact hB⟩
  · rw [Option.isNone_some, Bool.false_or] at hc17
    have h0 : e0 = 0 := nd_f hc17
    refine wp_skip ?_
    refine then_normal ?_
    refine wp_seq ?_
    refine region_q ?_
    refine q_look (look_move rfl rfl) ?_
    refine q_call (vs := [_, _, _]) enTry_42 ⟨⟨_, rfl, rfl⟩, ⟨_, rfl, rfl⟩, ⟨_, rfl, rfl⟩, trivial⟩ (fun wc hw => cext hw (hpk wc (hB.ext hw))) ?_
    refine q_look (look_move rfl rfl) ?_
    refine q_look (look_extract rfl rfl rfl) ?_
    refine q_look (look_extract rfl rfl rfl) ?_
    refine q_look (look_extract rfl rfl rfl) ?_
    refine q_look (look_extract rfl rfl rfl) ?_
    refine q_look (look_assign rfl rfl) ?_
    refine q_look (look_assign rfl rfl) ?_
    refine q_look (look_assign rfl rfl) ?_
    refine q_look (look_assign rfl rfl) ?_
    refine q_nil ?_
    intro w1 hw1
    replace hX := hX.comp hw1
    replace hB := hB.ext hw1
    refine then_normal ?_
    refine seq_cut (n := 53) (fun (e1 : Int) => [(0, .pointer (some ⟨g, 0, none⟩)), (1, .int .i64 most), (6, .int .u64 v), (7, .int .i64 z), (8, .int .i64 e1)]) (fun e1 w' => (Mut g w w') ∧ (Blk w' g 63 (rfc S at' e0)) ∧ (e1 = if e = 0 ∧ (most < 0 ∨ most < v) then 4 else e)) ?_ ?_
    · refine wp_seq ?_
      refine region_s ?_
      refine q_look (look_move rfl rfl) ?_
      refine q_look (look_eql rfl rfl rfl rfl) ?_
      refine q_look (look_move rfl rfl) ?_
      refine q_lookg rfl rfl rfl (fun hq => look_move rfl rfl) ?_
      refine q_lookg rfl rfl rfl (fun hq => look_lss rfl hq rfl rfl) ?_
      refine q_lookg rfl rfl rfl (fun hq => look_move rfl hq) ?_
      refine q_lookg rfl rfl rfl (fun hq => look_move rfl rfl) ?_
      refine q_lookg rfl rfl rfl (fun hq => look_move rfl rfl) ?_
      refine q_lookg rfl rfl rfl (fun hq => look_conv_int Try.underlying52 Try.underlying3 rfl hq (wrap_u64_in (by have := nn_f (gqR hq); omega) (by omega))) ?_
      refine q_lookg rfl rfl rfl (fun hq => look_gtr rfl hq rfl hq) ?_
      refine q_lookg rfl rfl rfl (fun hq => look_or rfl hq rfl hq) ?_
      refine q_look (look_and rfl rfl rfl rfl) ?_
      refine q_nil ?_
      rintro _ rfl
      refine then_normal ?_
      refine cond_split rfl (fun hc36 => ?_) (fun hc36 => ?_)
      · have h1 : e = 0 ∧ (most < 0 ∨ most < v) := by simp only [Bool.and_eq_true, Bool.or_eq_true, decide_eq_true_eq] at hc36; omega
        refine region_s ?_
        refine q_look (look_assign rfl rfl) ?_
        refine q_nil ?_
        rintro _ rfl
        exact cut_end _ ⟨rfl, rfl, rfl, rfl, rfl, trivial⟩ ⟨hX, hB, by first | rw [if_pos h1] | rw [if_neg h1]⟩
      · have h1 : ¬ (e = 0 ∧ (most < 0 ∨ most < v)) := fun h => by rw [← Bool.not_eq_true] at hc36; apply hc36; simp only [Bool.and_eq_true, Bool.or_eq_true, decide_eq_true_eq]; omega
        refine wp_skip ?_
        exact cut_end _ ⟨rfl, rfl, rfl, rfl, rfl, trivial⟩ ⟨hX, hB, by first | rw [if_pos h1] | rw [if_neg h1]⟩
    · rintro e1 σ wr hF
      obtain ⟨hX, hB, he1⟩ : (Mut g w wr) ∧ (Blk wr g 63 (rfc S at' e0)) ∧ (e1 = if e = 0 ∧ (most < 0 ∨ most < v) then 4 else e) := hF
      have hz3 : e1 = 0 → e = 0 ∧ 1 ≤ z ∧ z ≤ ((S.length - at' : Nat) : Int) ∧ 0 ≤ most ∧ v ≤ most := fun h => by
        by_cases h5 : e = 0 ∧ (most < 0 ∨ most < v)
        · rw [if_pos h5] at he1; omega
        · rw [if_neg h5] at he1
          obtain ⟨_, a, b, _⟩ := hok2 (by omega)
          omega
      have hi : countR (S.drop at') e0 4 most false = if e1 = 0 then (v, z.toNat, 0) else (0, 0, e1) := by
        unfold countR
        rw [if_pos h0, hp]
        simp only [countQ]
        by_cases h : e = 0
        · rw [if_neg (by omega)]
          by_cases h1 : most < 0 ∨ most < v
          · rw [if_pos ⟨h, h1⟩] at he1; rw [if_pos h1, if_neg (by omega), he1]
          · rw [if_neg (by omega)] at he1
            rw [if_neg h1, if_neg (fun hh => by cases hh.1), if_pos (by omega)]
        · rw [if_neg (by omega)] at he1; rw [if_pos h, if_neg (by omega), he1]
      show Code.wp _ _ _ (act 53 [(0, true, .pointer (some ⟨g, 0, none⟩)), (1, true, .int .i64 most), (6, true, .int .u64 v), (7, true, .int .i64 z), (8, true, .int .i64 e1)] _) _
      refine wp_seq ?_
      refine wp_seq ?_
      refine region_s ?_
      refine q_look (look_move rfl rfl) ?_
      refine q_look (look_neq rfl rfl rfl rfl) ?_
      refine q_nil ?_
      rintro _ rfl
      refine then_normal ?_
      refine cond_split rfl (fun hc38 => ?_) (fun hc38 => ?_)
      · have h3 : ¬ e1 = 0 := nd_t hc38
        rw [if_neg h3] at hi
        refine wp_seq ?_
        refine wp_region_lit ?_
        refine s_look (look_move rfl rfl) ?_
        refine s_look (look_move rfl rfl) ?_
        refine s_call (vs := [_, _]) enTry_43 ⟨⟨_, rfl, rfl⟩, ⟨_, rfl, rfl⟩, trivial⟩ (fails_any g S at' e0 e1 _ hB) ?_
        rintro _ u1 ⟨rfl, hm1, hT1⟩
        refine ⟨_, rfl, ?_⟩
        replace hX := hX.mut hm1 (by omega)
        clear hB
        have hB := hT1
        refine s_nil ?_
        refine then_normal ?_
        refine wp_seq ?_
        refine region_s ?_
        refine q_look (look_assign rfl rfl) ?_
        refine q_nil ?_
        rintro _ rfl
        refine then_normal ?_
        refine wp_ret ?_
        refine then_ret ?_
        exact res1 Try.results32 rfl ⟨by rw [hi], hX, by rw [hi]; exact hB⟩
      · have h3 : e1 = 0 := nd_f hc38
        rw [if_pos h3] at hi
        obtain ⟨he, hz1, hz2, hm0, hvm⟩ := hz3 h3
        refine wp_skip ?_
        refine then_normal ?_
        refine wp_seq ?_
        refine wp_region_lit ?_
        refine s_look (look_move rfl rfl) ?_
        refine s_look (look_move rfl rfl) ?_
        refine s_look (look_nilCheck rfl rfl) ?_
        refine s_look (look_fieldAddr Try.underlying63 rfl (fun _ _ => rfl) rfl rfl) ?_
        refine s_look (look_load1 Try.underlying3 rfl rfl rfl (eqc (hB.cell rfl))) ?_
        refine s_look (look_move rfl rfl) ?_
        refine s_look (look_add rfl rfl rfl rfl (by unfold I64; omega)) ?_
        refine s_look (look_nilCheck rfl rfl) ?_
        refine s_look (look_fieldAddr Try.underlying63 rfl (fun _ _ => rfl) rfl rfl) ?_
        refine s_store1 szTry_3 rfl rfl rfl rfl hB rfl ?_
        intro u2 hk2 hT2
        replace hX := hX.kp hk2 (by omega)
        clear hB
        have hB := hT2
        refine s_nil ?_
        refine then_normal ?_
        refine wp_seq ?_
        refine region_s ?_
        refine q_look (look_move rfl rfl) ?_
        refine q_look (look_conv_int Try.underlying3 Try.underlying52 rfl rfl (wrap_I64 (by unfold I64; omega))) ?_
        refine q_look (look_assign rfl rfl) ?_
        refine q_nil ?_
        rintro _ rfl
        refine then_normal ?_
        refine wp_ret ?_
        have hz9 : ((at' + z.toNat : Nat) : Int) = (at' : Int) + z := by omega
        exact res1 Try.results32 rfl ⟨by rw [hi], hX, by rw [hi, ← h0]; unfold rfc; rw [hz9]; exact hB⟩

theorem refleft_any (g : Nat) (S : List UInt8) (at' : Nat) (e0 : Int) (w : World) (hB : Blk w g 63 (rfc S at' e0)) (hat : at' ≤ S.length) (hr0 : S.length ≤ 1000000) :
    Calls Try.prog 33 #[.pointer (some ⟨g, 0, none⟩)] w fun e w' => e = .returned (.int .i64 (((S.length - at' : Nat) : Int))) ∧ Ext w w' := by
  refine calls_act Try.func33 rfl Try.ntmps33 rfl rfl ?_
  show Code.wp _ _ _ (act 15 [(0, true, .pointer (some ⟨g, 0, none⟩))] _) _
  have hX : Ext w w := Ext.rfl' w
  refine wp_seq ?_
  refine region_s ?_
  refine q_look (look_assign rfl rfl) ?_
  refine q_nil ?_
  rintro _ rfl
  refine then_normal ?_
  refine wp_seq ?_
  refine wp_seq ?_
  refine region_s ?_
  refine q_look (look_move rfl rfl) ?_
  refine q_look (look_eql_nil Try.underlying42 rfl rfl rfl rfl) ?_
  refine q_nil ?_
  rintro _ rfl
  refine then_normal ?_
  refine cond_false rfl rfl ?_
  refine wp_skip ?_
  refine then_normal ?_
  refine wp_seq ?_
  refine region_qd mixed (by kernel_rfl) ?_
  refine q_look (look_move rfl rfl) ?_
  refine q_look (look_nilCheck rfl rfl) ?_
  refine q_look (look_fieldAddr Try.underlying63 rfl (fun _ _ => rfl) rfl rfl) ?_
  refine q_look (look_load1 Try.underlying9 rfl rfl rfl (ext_cell (hB.cell rfl))) ?_
  refine q_look (Look.as (look_len_string Try.underlying9 rfl rfl) (by rw [ofL_size]) (v' := .int .i64 (S.length : Int))) ?_
  refine q_look (look_move rfl rfl) ?_
  refine q_look (look_nilCheck rfl rfl) ?_
  refine q_look (look_fieldAddr Try.underlying63 rfl (fun _ _ => rfl) rfl rfl) ?_
  refine q_look (look_load1 Try.underlying3 rfl rfl rfl (ext_cell (hB.cell rfl))) ?_
  refine q_look (look_sub rfl rfl rfl rfl (by unfold I64; omega)) ?_
  refine q_look (look_assign rfl rfl) ?_
  refine q_nil ?_
  intro w1 hw1
  replace hX := hX.comp hw1
  replace hB := hB.ext hw1
  refine then_normal ?_
  refine wp_ret ?_
  exact res1 Try.results33 rfl ⟨ret_int (by omega), hX⟩

theorem referr_any (g : Nat) (S : List UInt8) (at' : Nat) (e0 : Int) (w : World) (hB : Blk w g 63 (rfc S at' e0)) (hat : at' ≤ S.length) (hr0 : S.length ≤ 1000000) :
    Calls Try.prog 34 #[.pointer (some ⟨g, 0, none⟩)] w fun e w' => e = .returned (.int .i64 (e0)) ∧ Ext w w' := by
  refine calls_act Try.func34 rfl Try.ntmps34 rfl rfl ?_
  show Code.wp _ _ _ (act 9 [(0, true, .pointer (some ⟨g, 0, none⟩))] _) _
  have hX : Ext w w := Ext.rfl' w
  refine wp_seq ?_
  refine region_s ?_
  refine q_look (look_assign rfl rfl) ?_
  refine q_nil ?_
  rintro _ rfl
  refine then_normal ?_
  refine wp_seq ?_
  refine wp_seq ?_
  refine region_s ?_
  refine q_look (look_move rfl rfl) ?_
  refine q_look (look_eql_nil Try.underlying42 rfl rfl rfl rfl) ?_
  refine q_nil ?_
  rintro _ rfl
  refine then_normal ?_
  refine cond_false rfl rfl ?_
  refine wp_skip ?_
  refine then_normal ?_
  refine wp_seq ?_
  refine region_s ?_
  refine q_look (look_move rfl rfl) ?_
  refine q_look (look_nilCheck rfl rfl) ?_
  refine q_look (look_fieldAddr Try.underlying63 rfl (fun _ _ => rfl) rfl rfl) ?_
  refine q_look (look_load1 Try.underlying32 rfl rfl rfl (eqc (hB.cell rfl))) ?_
  refine q_look (look_assign rfl rfl) ?_
  refine q_nil ?_
  rintro _ rfl
  refine then_normal ?_
  refine wp_ret ?_
  exact res1 Try.results34 rfl ⟨rfl, hX⟩

theorem refend_any (g : Nat) (S : List UInt8) (at' : Nat) (e0 : Int) (w : World) (hB : Blk w g 63 (rfc S at' e0)) (hat : at' ≤ S.length) (hr0 : S.length ≤ 1000000) :
    Calls Try.prog 35 #[.pointer (some ⟨g, 0, none⟩)] w fun e w' => e = .returned (.int .i64 (endP (S.drop at') e0)) ∧ Ext w w' := by
  refine calls_act Try.func35 rfl Try.ntmps35 rfl rfl ?_
  show Code.wp _ _ _ (act 26 [(0, true, .pointer (some ⟨g, 0, none⟩))] _) _
  have hX : Ext w w := Ext.rfl' w
  refine wp_seq ?_
  refine region_s ?_
  refine q_look (look_assign rfl rfl) ?_
  refine q_nil ?_
  rintro _ rfl
  refine then_normal ?_
  refine wp_seq ?_
  refine wp_seq ?_
  refine region_s ?_
  refine q_look (look_move rfl rfl) ?_
  refine q_look (look_eql_nil Try.underlying42 rfl rfl rfl rfl) ?_
  refine q_nil ?_
  rintro _ rfl
  refine then_normal ?_
  refine cond_false rfl rfl ?_
  refine wp_skip ?_
  refine then_normal ?_
  refine wp_seq ?_
  refine wp_seq ?_
  refine region_qd mixed (by kernel_rfl) ?_
  refine q_look (look_move rfl rfl) ?_
  refine q_look (look_nilCheck rfl rfl) ?_
  refine q_look (look_fieldAddr Try.underlying63 rfl (fun _ _ => rfl) rfl rfl) ?_
  refine q_look (look_load1 Try.underlying32 rfl rfl rfl (ext_cell (hB.cell rfl))) ?_
  refine q_look (look_eql rfl rfl rfl rfl) ?_
  refine q_look (look_move rfl rfl) ?_
  refine q_lookg rfl rfl rfl (fun hq => look_move rfl rfl) ?_
  refine q_lookg rfl rfl rfl (fun hq => look_nilCheck rfl hq) ?_
  refine q_lookg rfl rfl rfl (fun hq => look_fieldAddr Try.underlying63 rfl (fun _ _ => rfl) rfl hq) ?_
  refine q_lookg rfl rfl rfl (fun hq => look_load1 Try.underlying3 rfl rfl hq (ext_cell (hB.cell rfl))) ?_
  refine q_lookg rfl rfl rfl (fun hq => look_move rfl rfl) ?_
  refine q_lookg rfl rfl rfl (fun hq => look_nilCheck rfl hq) ?_
  refine q_lookg rfl rfl rfl (fun hq => look_fieldAddr Try.underlying63 rfl (fun _ _ => rfl) rfl hq) ?_
  refine q_lookg rfl rfl rfl (fun hq => look_load1 Try.underlying9 rfl rfl hq (ext_cell (hB.cell rfl))) ?_
  refine q_lookg rfl rfl rfl (fun hq => Look.as (look_len_string Try.underlying9 rfl hq) (by rw [ofL_size]) (v' := .int .i64 (S.length : Int))) ?_
  refine q_lookg rfl rfl rfl (fun hq => look_lss rfl hq rfl hq) ?_
  refine q_look (look_and rfl rfl rfl rfl) ?_
  refine q_nil ?_
  intro w1 hw1
  replace hX := hX.comp hw1
  replace hB := hB.ext hw1
  refine then_normal ?_
  refine cond_split rfl (fun hc21 => ?_) (fun hc21 => ?_)
  · have hc : e0 = 0 ∧ 0 < (S.drop at').length := by rw [Bool.and_eq_true] at hc21; have := nn_t hc21.1; have := nn_t hc21.2; rw [List.length_drop]; omega
    refine wp_seq ?_
    refine region_s ?_
    refine q_look (look_assign rfl rfl) ?_
    refine q_nil ?_
    rintro _ rfl
    refine then_normal ?_
    refine wp_ret ?_
    refine then_ret ?_
    exact res1 Try.results35 rfl ⟨ret_int (by unfold endP; rw [if_pos hc]), hX⟩
  · have hc : ¬ (e0 = 0 ∧ 0 < (S.drop at').length) := fun h => by rw [decide_eq_true h.1, Bool.true_and] at hc21; have := nn_f hc21; have := h.2; rw [List.length_drop] at this; omega
    refine wp_skip ?_
    refine then_normal ?_
    refine wp_seq ?_
    refine region_s ?_
    refine q_look (look_move rfl rfl) ?_
    refine q_look (look_nilCheck rfl rfl) ?_
    refine q_look (look_fieldAddr Try.underlying63 rfl (fun _ _ => rfl) rfl rfl) ?_
    refine q_look (look_load1 Try.underlying32 rfl rfl rfl (eqc (hB.cell rfl))) ?_
    refine q_look (look_assign rfl rfl) ?_
    refine q_nil ?_
    rintro _ rfl
    refine then_normal ?_
    refine wp_ret ?_
    exact res1 Try.results35 rfl ⟨ret_int (by unfold endP; rw [if_neg hc]), hX⟩

theorem refnew_any (s : List UInt8) (w : World)  :
    Calls Try.prog 28 #[.string (ofL s)] w fun e w' => ∃ g, e = .returned (.pointer (some ⟨g, 0, none⟩)) ∧ Ext w w' ∧ Blk w' g 63 (rfc s 0 0) ∧ w.heap.size ≤ g := by
  refine calls_act Try.func28 rfl Try.ntmps28 rfl rfl ?_
  show Code.wp _ _ _ (act 6 [(0, true, .string (ofL s))] _) _
  have hX : Ext w w := Ext.rfl' w
  refine wp_seq ?_
  refine region_s ?_
  refine q_look (look_assign rfl rfl) ?_
  refine q_nil ?_
  rintro _ rfl
  refine then_normal ?_
  refine wp_seq ?_
  refine wp_region_lit ?_
  refine s_look (look_move rfl rfl) ?_
  refine s_look (look_build (pl := [(0, 1), (1, 1), (2, 1)]) (parts := [(0, .tmp 3)]) (vs := [(0, _)]) (cells := rfc s 0 0) Try.underlying63 zeTry_63 (by kernel_rfl) ⟨⟨_, rfl, rfl⟩, trivial⟩ rfl (by kernel_rfl)) ?_
  refine s_box rfl ?_
  intro g1 u1 hu1 hB1 hg1 hs1
  replace hB1 : Blk u1 g1 63 (rfc s 0 0) := hB1
  have ge_g1 : w.heap.size ≤ g1 := by have := hX.size; omega
  replace hX := hX.comp hu1
  refine s_look (look_assign rfl rfl) ?_
  refine s_nil ?_
  refine then_normal ?_
  refine wp_ret ?_
  exact res1 Try.results28 rfl ⟨_, rfl, hX, hB1, ge_g1⟩

end Go.Proofs.Ytcneinajeapbhaa
