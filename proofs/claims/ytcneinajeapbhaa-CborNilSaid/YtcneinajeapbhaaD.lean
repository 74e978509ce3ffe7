/- The walks of chapter 05 (cbor), fourth part: what comes next. -/
import Derived.Test.YtcneinajeapbhaaC
namespace Go.Proofs.Ytcneinajeapbhaa
open Go Go.RowKit Core
set_option linter.unusedVariables false
set_option linter.unusedSimpArgs false
attribute [local irreducible] wpQuiet wpList wpH wpT Code.wp Calls bodyPost act


def beval (l : List UInt8) : Int := l.foldl (fun v b => 256 * v + (b.toNat : Int)) 0
def peekP (r : List UInt8) (one two : Int) : Int × Int × Int × Int :=
  match r with
  | [] => (0, 0, 0, 3)
  | b :: t =>
    if ((b.toNat : Int) / 32 ≠ one ∧ (b.toNat : Int) / 32 ≠ two) ∨ (b.toNat : Int) % 32 > 27 then (0, 0, 0, 5)
    else if (b.toNat : Int) % 32 < 24 then ((b.toNat : Int) / 32, (b.toNat : Int) % 32, 1, 0)
    else if (r.length : Int) < 1 + ((2 ^ ((b.toNat : Int) % 32 - 24).toNat : Nat) : Int) then (0, 0, 0, 3)
    else if headP ((b.toNat : Int) / 32) (beval (t.take (2 ^ ((b.toNat : Int) % 32 - 24).toNat))) ≠ r.take (1 + 2 ^ ((b.toNat : Int) % 32 - 24).toNat) then (0, 0, 0, 5)
    else ((b.toNat : Int) / 32, beval (t.take (2 ^ ((b.toNat : Int) % 32 - 24).toNat)), 1 + ((2 ^ ((b.toNat : Int) % 32 - 24).toNat : Nat) : Int), 0)
theorem beval_snoc (l : List UInt8) (b : UInt8) : beval (l ++ [b]) = 256 * beval l + (b.toNat : Int) := by simp [beval]
theorem beval_bd : ∀ (n : Nat) (l : List UInt8), l.length = n → 0 ≤ beval l ∧ beval l < ((256 ^ n : Nat) : Int)
  | 0, l, h => by rw [List.eq_nil_of_length_eq_zero h]; simp [beval]
  | n + 1, l, h => by
    obtain ⟨k, b, rfl⟩ : ∃ k b, l = k ++ [b] := ⟨l.dropLast, l.getLast (by intro e; subst e; simp at h), (List.dropLast_concat_getLast (by intro e; subst e; simp at h)).symm⟩
    have ih := beval_bd n k (by simpa using h)
    rw [beval_snoc, Nat.pow_succ]
    have := b.toNat_lt
    have hb : (b.toNat : Int) < 256 := by omega
    have e : (((256 ^ n * 256 : Nat)) : Int) = ((256 ^ n : Nat) : Int) * 256 := by rw [Int.natCast_mul]; rfl
    rw [e]
    generalize ((256 ^ n : Nat) : Int) = M at ih
    omega


theorem shr5 (b : UInt8) : (b.toNat : Int).fdiv (2 ^ (min ((5 : Int)).toNat IntKind.u8.bits)) = (b.toNat : Int) / 32 := by
  show (b.toNat : Int).fdiv 32 = _
  exact Int.fdiv_eq_ediv_of_nonneg _ (by omega)
theorem and31 (b : UInt8) : IntKind.u8.wrap ((((b.toNat : Int) % 2 ^ IntKind.u8.bits).toNat &&& ((31 : Int) % 2 ^ IntKind.u8.bits).toNat : Nat) : Int) = (b.toNat : Int) % 32 := by
  have hb := b.toNat_lt
  have h := and_low (b := (b.toNat : Int)) 5 8 (by omega) (by omega) (by omega)
  show IntKind.u8.wrap ((((b.toNat : Int) % 2 ^ 8).toNat &&& ((31 : Int) % 2 ^ 8).toNat : Nat) : Int) = _
  have h' : ((((b.toNat : Int) % 2 ^ 8).toNat &&& ((31 : Int) % 2 ^ 8).toNat : Nat) : Int) = (b.toNat : Int) % 32 := h
  rw [h', wrap_u8, u8of_int]; omega
theorem shl8or {v : Int} {b : UInt8} (h0 : 0 ≤ v) (h1 : v < 72057594037927936) : IntKind.u64.wrap (((256 * v % 2 ^ IntKind.u64.bits).toNat ||| ((b.toNat : Int) % 2 ^ IntKind.u64.bits).toNat : Nat) : Int) = 256 * v + (b.toNat : Int) := by
  have hb := b.toNat_lt
  have h : (((256 * v % 2 ^ 64).toNat ||| ((b.toNat : Int) % 2 ^ 64).toNat : Nat) : Int) = 256 * v + (b.toNat : Int) := or_sum v.toNat 8 64 (by omega) (by omega) (by omega) (by omega)
  show IntKind.u64.wrap (((256 * v % 2 ^ 64).toNat ||| ((b.toNat : Int) % 2 ^ 64).toNat : Nat) : Int) = _
  rw [h, wrap_u64_in (by omega) (by omega)]

theorem peek_any (g : Nat) (r : List UInt8) (e0 one two : Int) (w : World) (hB : Blk w g 57 (rcell r e0)) (hr0 : r.length ≤ 1000000) :
    Calls Try.prog 41 #[.pointer (some ⟨g, 0, none⟩), .int .i64 one, .int .i64 two] w fun e w' => e = .returned (.tuple #[.int .i64 (peekP r one two).1, .int .u64 (peekP r one two).2.1, .int .i64 (peekP r one two).2.2.1, .int .i64 (peekP r one two).2.2.2]) ∧ Ext w w' := by
  refine calls_act Try.func41 rfl Try.ntmps41 rfl rfl ?_
  show Code.wp _ _ _ (act 98 [(0, true, .pointer (some ⟨g, 0, none⟩)), (1, true, .int .i64 one), (2, true, .int .i64 two)] _) _
  have hX : Ext w w := Ext.rfl' w
  refine wp_seq ?_
  refine region_s ?_
  refine q_look (look_assign rfl rfl) ?_
  refine q_look (look_assign rfl rfl) ?_
  refine q_look (look_assign rfl rfl) ?_
  refine q_look (look_assign rfl rfl) ?_
  refine q_nil ?_
  rintro _ rfl
  refine then_normal ?_
  refine wp_seq ?_
  refine wp_seq ?_
  refine region_s ?_
  refine q_look (look_move rfl rfl) ?_
  refine q_look (look_nilCheck rfl rfl) ?_
  refine q_look (look_fieldAddr Try.underlying57 rfl (fun _ _ => rfl) rfl rfl) ?_
  refine q_look (look_fieldAddr Try.underlying55 rfl (fun _ _ => rfl) rfl rfl) ?_
  refine q_look (look_load1 Try.underlying9 rfl rfl rfl (eqc (hB.cell rfl))) ?_
  refine q_look (look_eql_str rfl rfl rfl rfl) ?_
  refine q_nil ?_
  rintro _ rfl
  refine then_normal ?_
  refine cond_split rfl (fun hc18 => ?_) (fun hc18 => ?_)
  · have hr : r = [] := ofL_inj.1 (of_decide_eq_true hc18)
    refine wp_seq ?_
    refine region_s ?_
    refine q_look (look_assign rfl rfl) ?_
    refine q_look (look_assign rfl rfl) ?_
    refine q_look (look_assign rfl rfl) ?_
    refine q_look (look_assign rfl rfl) ?_
    refine q_nil ?_
    rintro _ rfl
    refine then_normal ?_
    refine wp_ret ?_
    refine then_ret ?_
    subst hr
    exact res4 Try.results41 rfl rfl rfl rfl ⟨rfl, hX⟩
  · have hr : ¬ r = [] := fun h => of_decide_eq_false hc18 (by rw [h]; rfl)
    obtain ⟨b, t, rfl⟩ : ∃ b t, r = b :: t := by cases r with
      | nil => exact absurd rfl hr
      | cons b t => exact ⟨b, t, rfl⟩
    have hb := b.toNat_lt
    refine wp_skip ?_
    refine then_normal ?_
    refine wp_seq ?_
    refine region_s ?_
    refine q_look (look_move rfl rfl) ?_
    refine q_look (look_nilCheck rfl rfl) ?_
    refine q_look (look_fieldAddr Try.underlying57 rfl (fun _ _ => rfl) rfl rfl) ?_
    refine q_look (look_fieldAddr Try.underlying55 rfl (fun _ _ => rfl) rfl rfl) ?_
    refine q_look (look_load1 Try.underlying9 rfl rfl rfl (eqc (hB.cell rfl))) ?_
    refine q_look (look_index_str (i := 0) Try.underlying9 rfl rfl rfl rfl rfl rfl) ?_
    refine q_look (look_shr rfl rfl rfl rfl (by omega) (shr5 b)) ?_
    refine q_look (look_conv_int Try.underlying3 Try.underlying5 rfl rfl (wrap_I64 (by unfold I64; omega))) ?_
    refine q_look (look_assign rfl rfl) ?_
    refine q_nil ?_
    rintro _ rfl
    refine then_normal ?_
    refine wp_seq ?_
    refine region_s ?_
    refine q_look (look_move rfl rfl) ?_
    refine q_look (look_nilCheck rfl rfl) ?_
    refine q_look (look_fieldAddr Try.underlying57 rfl (fun _ _ => rfl) rfl rfl) ?_
    refine q_look (look_fieldAddr Try.underlying55 rfl (fun _ _ => rfl) rfl rfl) ?_
    refine q_look (look_load1 Try.underlying9 rfl rfl rfl (eqc (hB.cell rfl))) ?_
    refine q_look (look_index_str (i := 0) Try.underlying9 rfl rfl rfl rfl rfl rfl) ?_
    refine q_look (look_and_ rfl rfl rfl rfl (and31 b)) ?_
    refine q_look (look_conv_int Try.underlying3 Try.underlying5 rfl rfl (wrap_I64 (by unfold I64; omega))) ?_
    refine q_look (look_assign rfl rfl) ?_
    refine q_nil ?_
    rintro _ rfl
    refine then_normal ?_
    refine wp_seq ?_
    refine wp_seq ?_
    refine region_s ?_
    refine q_look (look_move rfl rfl) ?_
    refine q_look (look_move rfl rfl) ?_
    refine q_look (look_neq rfl rfl rfl rfl) ?_
    refine q_look (look_move rfl rfl) ?_
    refine q_lookg rfl rfl rfl (fun hq => look_move rfl rfl) ?_
    refine q_lookg rfl rfl rfl (fun hq => look_move rfl rfl) ?_
    refine q_lookg rfl rfl rfl (fun hq => look_neq rfl hq rfl hq) ?_
    refine q_look (look_and rfl rfl rfl rfl) ?_
    refine q_look (look_move rfl rfl) ?_
    refine q_lookg rfl rfl rfl (fun hq => look_move rfl rfl) ?_
    refine q_lookg rfl rfl rfl (fun hq => look_gtr rfl hq rfl rfl) ?_
    refine q_look (look_or rfl rfl rfl rfl) ?_
    refine q_nil ?_
    rintro _ rfl
    refine then_normal ?_
    refine cond_split rfl (fun hc46 => ?_) (fun hc46 => ?_)
    · have h1 : ((b.toNat : Int) / 32 ≠ one ∧ (b.toNat : Int) / 32 ≠ two) ∨ (b.toNat : Int) % 32 > 27 := by simp only [Bool.or_eq_true, Bool.and_eq_true, Bool.not_eq_true', decide_eq_true_eq, decide_eq_false_iff_not] at hc46; omega
      refine wp_seq ?_
      refine region_s ?_
      refine q_look (look_assign rfl rfl) ?_
      refine q_look (look_assign rfl rfl) ?_
      refine q_look (look_assign rfl rfl) ?_
      refine q_look (look_assign rfl rfl) ?_
      refine q_nil ?_
      rintro _ rfl
      refine then_normal ?_
      refine wp_ret ?_
      refine then_ret ?_
      have hp4 : peekP (b :: t) one two = (0, 0, 0, 5) := by
        simp only [peekP]; rw [if_pos h1]
      exact res4 Try.results41 rfl rfl rfl rfl ⟨by rw [hp4], hX⟩
    · have h1 : ¬ (((b.toNat : Int) / 32 ≠ one ∧ (b.toNat : Int) / 32 ≠ two) ∨ (b.toNat : Int) % 32 > 27) := by
        intro h
        rw [← Bool.not_eq_true] at hc46
        apply hc46
        simp only [Bool.or_eq_true, Bool.and_eq_true, Bool.not_eq_true', decide_eq_true_eq, decide_eq_false_iff_not]
        omega
      refine wp_skip ?_
      refine then_normal ?_
      refine wp_seq ?_
      refine wp_seq ?_
      refine region_s ?_
      refine q_look (look_move rfl rfl) ?_
      refine q_look (look_lss rfl rfl rfl rfl) ?_
      refine q_nil ?_
      rintro _ rfl
      refine then_normal ?_
      refine cond_split rfl (fun hc48 => ?_) (fun hc48 => ?_)
      · have h2 : (b.toNat : Int) % 32 < 24 := by simpa using hc48
        refine wp_seq ?_
        refine region_s ?_
        refine q_look (look_move rfl rfl) ?_
        refine q_look (look_move rfl rfl) ?_
        refine q_look (look_conv_int Try.underlying52 Try.underlying3 rfl rfl (wrap_u64_in (by omega) (by omega))) ?_
        refine q_look (look_assign rfl rfl) ?_
        refine q_look (look_assign rfl rfl) ?_
        refine q_look (look_assign rfl rfl) ?_
        refine q_look (look_assign rfl rfl) ?_
        refine q_nil ?_
        rintro _ rfl
        refine then_normal ?_
        refine wp_ret ?_
        refine then_ret ?_
        have hp4 : peekP (b :: t) one two = (((b.toNat : Int) / 32), ((b.toNat : Int) % 32), 1, 0) := by
          simp only [peekP]; rw [if_neg h1, if_pos h2]
        exact res4 Try.results41 rfl rfl rfl rfl ⟨by rw [hp4], hX⟩
      · have h2 : ¬ (b.toNat : Int) % 32 < 24 := by simpa using hc48
        obtain ⟨z, hz⟩ : ∃ z : Nat, (b.toNat : Int) % 32 - 24 = (z : Int) := ⟨((b.toNat : Int) % 32 - 24).toNat, by omega⟩
        obtain ⟨N, hN⟩ : ∃ N, N = 2 ^ z := ⟨_, rfl⟩
        have hp : 1 ≤ N ∧ N ≤ 8 := by rw [hN]; rcases (by omega : z = 0 ∨ z = 1 ∨ z = 2 ∨ z = 3) with rfl | rfl | rfl | rfl <;> decide
        have hsl : IntKind.i64.wrap (1 * 2 ^ (min ((b.toNat : Int) % 32 - 24).toNat IntKind.i64.bits)) = (N : Int) := by
          rw [hz, hN]; rcases (by omega : z = 0 ∨ z = 1 ∨ z = 2 ∨ z = 3) with rfl | rfl | rfl | rfl <;> rfl
        have hNz : 2 ^ ((b.toNat : Int) % 32 - 24).toNat = N := by rw [hz, hN]; rfl
        refine wp_skip ?_
        refine then_normal ?_
        refine wp_seq ?_
        refine region_s ?_
        refine q_look (look_move rfl rfl) ?_
        refine q_look (look_sub rfl rfl rfl rfl (by unfold I64; omega)) ?_
        refine q_look (look_shl rfl rfl rfl rfl (by omega) hsl) ?_
        refine q_look (look_add rfl rfl rfl rfl (by unfold I64; omega)) ?_
        refine q_look (look_assign rfl rfl) ?_
        refine q_nil ?_
        rintro _ rfl
        refine then_normal ?_
        refine wp_seq ?_
        refine wp_seq ?_
        refine region_s ?_
        refine q_look (look_move rfl rfl) ?_
        refine q_look (look_nilCheck rfl rfl) ?_
        refine q_look (look_fieldAddr Try.underlying57 rfl (fun _ _ => rfl) rfl rfl) ?_
        refine q_look (look_fieldAddr Try.underlying55 rfl (fun _ _ => rfl) rfl rfl) ?_
        refine q_look (look_load1 Try.underlying9 rfl rfl rfl (eqc (hB.cell rfl))) ?_
        refine q_look (Look.as (look_len_string Try.underlying9 rfl rfl) (by rw [ofL_size]) (v' := .int .i64 ((b :: t).length : Int))) ?_
        refine q_look (look_move rfl rfl) ?_
        refine q_look (look_lss rfl rfl rfl rfl) ?_
        refine q_nil ?_
        rintro _ rfl
        refine then_normal ?_
        refine cond_split rfl (fun hc63 => ?_) (fun hc63 => ?_)
        · have h3 : ((b :: t).length : Int) < 1 + (N : Int) := by simpa using hc63
          refine wp_seq ?_
          refine region_s ?_
          refine q_look (look_assign rfl rfl) ?_
          refine q_look (look_assign rfl rfl) ?_
          refine q_look (look_assign rfl rfl) ?_
          refine q_look (look_assign rfl rfl) ?_
          refine q_nil ?_
          rintro _ rfl
          refine then_normal ?_
          refine wp_ret ?_
          refine then_ret ?_
          have hp4 : peekP (b :: t) one two = (0, 0, 0, 3) := by
            simp only [peekP]; rw [if_neg h1, if_neg h2, hNz, if_pos h3]
          exact res4 Try.results41 rfl rfl rfl rfl ⟨by rw [hp4], hX⟩
        · have h3 : ¬ ((b :: t).length : Int) < 1 + (N : Int) := of_decide_eq_false hc63
          have hN1 : (1 + N : Nat) ≤ (b :: t).length := by omega
          have htk : (((b :: t).take (1 + N)).drop 1) = t.take N := by rw [Nat.add_comm, List.take_succ_cons]; rfl
          have htl : (t.take N).length = N := by simp only [List.length_cons] at hN1; rw [List.length_take]; omega
          refine wp_skip ?_
          refine then_normal ?_
          refine wp_seq ?_
          refine wp_seq ?_
          refine wp_region_lit ?_
          refine s_look (look_move rfl rfl) ?_
          refine s_look (look_nilCheck rfl rfl) ?_
          refine s_look (look_fieldAddr Try.underlying57 rfl (fun _ _ => rfl) rfl rfl) ?_
          refine s_look (look_fieldAddr Try.underlying55 rfl (fun _ _ => rfl) rfl rfl) ?_
          refine s_look (look_load1 Try.underlying9 rfl rfl rfl (eqc (hB.cell rfl))) ?_
          refine s_look (look_move rfl rfl) ?_
          refine s_look (Look.as (look_slice_str_lh (lo := 1) (hi := 1 + N) Try.underlying9 rfl rfl rfl rfl rfl rfl rfl (by omega) (by omega) hN1) (congrArg (fun q => Value.string (ofL q)) htk)) ?_
          refine s_str_bytes Try.underlying9 Try.underlying50 Try.underlying5 rfl ?_
          intro gb cb u2 hu2 hSb
          replace hX := hX.comp hu2
          replace hB := hB.ext hu2
          refine s_look (look_len_slice Try.underlying50 rfl rfl) ?_
          refine s_look (look_move rfl rfl) ?_
          refine s_nil ?_
          refine then_normal ?_
          refine wp_block ?_
          refine loop_act (fun (k : Nat) => [(0, .pointer (some ⟨g, 0, none⟩)), (6, .int .i64 ((b.toNat : Int) / 32)), (7, .int .u64 (beval ((t.take N).take k))), (8, .int .i64 (1 + (N : Int))), (71, .slice (some ⟨gb, 0, none⟩) (t.take N).length cb), (72, .int .i64 ((t.take N).length : Int)), (73, .int .i64 (k : Int))]) (fun k w' => (Ext w w') ∧ (Blk w' g 57 (rcell (b :: t) e0)) ∧ (Sl bcell 1 w' (some ⟨gb, 0, none⟩) (t.take N)) ∧ (k ≤ N)) (fun k => N - k) (0) ?_ ?_ ?_
          · exact ⟨rfl, rfl, rfl, rfl, rfl, rfl, rfl, trivial⟩
          · exact ⟨hX, hB, hSb, Nat.zero_le _⟩
          · rintro k σ wr hF
            obtain ⟨hX, hB, hSb, hk⟩ : (Ext w wr) ∧ (Blk wr g 57 (rcell (b :: t) e0)) ∧ (Sl bcell 1 wr (some ⟨gb, 0, none⟩) (t.take N)) ∧ (k ≤ N) := hF
            show Code.wp _ _ _ (act 98 [(0, true, .pointer (some ⟨g, 0, none⟩)), (6, true, .int .i64 ((b.toNat : Int) / 32)), (7, true, .int .u64 (beval ((t.take N).take k))), (8, true, .int .i64 (1 + (N : Int))), (71, true, .slice (some ⟨gb, 0, none⟩) (t.take N).length cb), (72, true, .int .i64 ((t.take N).length : Int)), (73, true, .int .i64 (k : Int))] _) _
            refine wp_seq ?_
            refine region_s ?_
            refine q_look (look_lss rfl rfl rfl rfl) ?_
            refine q_nil ?_
            rintro _ rfl
            refine then_normal ?_
            refine wp_seq ?_
            refine cond_split rfl (fun hc74 => ?_) (fun hc74 => ?_)
            · have hlt : k < N := by simp at hc74; omega
              obtain ⟨y, hy⟩ := get_lt (show k < (t.take N).length by omega)
              have hbd := beval_bd k ((t.take N).take k) (by rw [List.length_take]; omega)
              have hbd2 : beval ((t.take N).take k) < 72057594037927936 := Int.lt_of_lt_of_le hbd.2 (Int.le_trans (Int.ofNat_le.2 (Nat.pow_le_pow_right (by omega) (show k ≤ 7 by omega))) (by decide))
              have hyb := y.toNat_lt
              refine wp_skip ?_
              refine then_normal ?_
              refine wp_seq ?_
              refine wp_block ?_
              refine wp_seq ?_
              refine region_s ?_
              refine q_look (look_indexAddr _ Try.underlying50 szTry_5 rfl rfl rfl rfl rfl (by omega)) ?_
              refine q_look (look_load1 Try.underlying5 rfl rfl rfl (eqc ((hSb.rd k y hy) 0 _ rfl))) ?_
              refine q_look (look_assign rfl rfl) ?_
              refine q_nil ?_
              rintro _ rfl
              refine then_normal ?_
              refine region_s ?_
              refine q_look (look_move rfl rfl) ?_
              refine q_look (look_shl rfl rfl rfl rfl (by omega) (show IntKind.u64.wrap (beval ((t.take N).take k) * 2 ^ 8) = 256 * beval ((t.take N).take k) by rw [wrap_u64_in (by omega) (by omega)]; omega)) ?_
              refine q_look (look_move rfl rfl) ?_
              refine q_look (look_conv_int Try.underlying52 Try.underlying5 rfl rfl (wrap_u64_in (by omega) (by omega))) ?_
              refine q_look (look_or_ rfl rfl rfl rfl (shl8or hbd.1 hbd2)) ?_
              refine q_look (look_assign rfl rfl) ?_
              refine q_nil ?_
              rintro _ rfl
              refine inB_normal ?_
              refine then_normal ?_
              refine region_s ?_
              refine q_look (look_add rfl rfl rfl rfl (by unfold I64; omega)) ?_
              refine q_look (look_move rfl rfl) ?_
              refine q_nil ?_
              rintro _ rfl
              exact loop_end (k + 1) (by omega) ⟨rfl, rfl, (by rw [take_get hy, beval_snoc]; rfl), rfl, rfl, rfl, rfl, trivial⟩ ⟨hX, hB, hSb, by omega⟩
            · have hge : ¬ k < N := by have := of_decide_eq_false hc74; omega
              have hbd := beval_bd k ((t.take N).take k) (by rw [List.length_take]; omega)
              have hvb : U64 (beval ((t.take N).take k)) := by
                exact ⟨hbd.1, Int.lt_of_lt_of_le hbd.2 (Int.le_trans (Int.ofNat_le.2 (Nat.pow_le_pow_right (by omega) (show k ≤ 8 by omega))) (by decide))⟩
              refine wp_exit ?_
              refine then_exit ?_
              refine then_exit ?_
              refine inB_exit_same ?_
              refine then_normal ?_
              refine wp_seq ?_
              refine wp_seq ?_
              refine region_h (fun W => Ext w W ∧ Blk W g 57 (rcell (b :: t) e0) ∧ Sl bcell 1 W (some ⟨gb, 0, none⟩) (t.take N)) [(0, true), (1, true), (4, true), (5, true), (6, true), (7, true), (8, true), (9, true), (10, true), (2, false), (3, false), (11, true)] mixed (by kernel_rfl) rfl (by kernel_rfl) (by repeat (first | exact pk_body | refine pk_then ?_ | refine pk_block ?_)) ?_
              intro u3 hR3
              replace hX := hX.comp hR3
              replace hB := hB.ext hR3
              replace hSb := hSb.ext hR3
              refine ⟨⟨hX, hB, hSb⟩, ?_⟩
              refine h_look rfl (look_move rfl rfl) ?_
              refine h_look rfl (look_move rfl rfl) ?_
              refine h_look rfl (look_move rfl rfl) ?_
              refine h_look rfl (look_nilCheck rfl rfl) ?_
              refine h_look rfl (look_fieldAddr Try.underlying57 rfl (fun _ _ => rfl) rfl rfl) ?_
              refine h_look rfl (look_fieldAddr Try.underlying55 rfl (fun _ _ => rfl) rfl rfl) ?_
              refine h_look rfl (look_load1 Try.underlying9 rfl rfl rfl (fun w' hS => (hS.2.1).cell rfl)) ?_
              refine h_look rfl (look_move rfl rfl) ?_
              refine h_look rfl (look_slice_str_h (hi := 1 + N) Try.underlying9 rfl rfl rfl rfl (by omega) hN1) ?_
              refine h_seq rfl ?_ ⟨hX, hB, hSb⟩
              refine s_call (vs := [_, _, _]) enTry_37 ⟨⟨_, rfl, rfl⟩, ⟨_, rfl, rfl⟩, ⟨_, rfl, rfl⟩, trivial⟩ (head_any ((b.toNat : Int) / 32) (beval ((t.take N).take k)) _ (by omega) (hvb)) ?_
              rintro _ u4 ⟨v4, rfl, hc4, hO⟩
              refine ⟨_, rfl, ?_⟩
              replace hO := hO.weak hX.size
              replace hX := hX.comp hc4
              replace hB := hB.ext hc4
              replace hSb := hSb.ext hc4
              obtain ⟨A_hO, c_hO, rfl, _, _, _, hnil_hO⟩ := hO.sl hce_b
              refine s_nil ?_
              refine then_normal ?_
              refine ⟨⟨hX, hB, hSb⟩, ?_⟩
              refine h_seq rfl ?_ ⟨hX, hB, hSb⟩
              refine s_look (look_bytes_str (bs := (headP ((b.toNat : Int) / 32) (beval ((t.take N).take k)))) Try.underlying50 Try.underlying5 Try.underlying9 rfl rfl hnil_hO (fun w' e => e ▸ (hO.slOf hce_b).1)) ?_
              refine s_nil ?_
              refine then_normal ?_
              refine ⟨⟨hX, hB, hSb⟩, ?_⟩
              refine h_look rfl (look_neq_str rfl rfl rfl rfl) ?_
              refine h_nil ?_
              refine then_normal ?_
              refine cond_split rfl (fun hc94 => ?_) (fun hc94 => ?_)
              · have htt : (t.take N).take k = t.take N := List.take_of_length_le (by omega)
                rw [htt] at hc94
                have h4 : headP ((b.toNat : Int) / 32) (beval (t.take N)) ≠ (b :: t).take (1 + N) := fun h => by rw [h] at hc94; simp at hc94
                refine wp_seq ?_
                refine region_s ?_
                refine q_look (look_assign rfl rfl) ?_
                refine q_look (look_assign rfl rfl) ?_
                refine q_look (look_assign rfl rfl) ?_
                refine q_look (look_assign rfl rfl) ?_
                refine q_nil ?_
                rintro _ rfl
                refine then_normal ?_
                refine wp_ret ?_
                refine then_ret ?_
                have hp4 : peekP (b :: t) one two = (0, 0, 0, 5) := by
                  simp only [peekP]; rw [if_neg h1, if_neg h2, hNz, if_neg h3, if_pos h4]
                exact res4 Try.results41 rfl rfl rfl rfl ⟨by rw [hp4], hX⟩
              · have htt : (t.take N).take k = t.take N := List.take_of_length_le (by omega)
                rw [htt] at hc94
                have h4 : ¬ headP ((b.toNat : Int) / 32) (beval (t.take N)) ≠ (b :: t).take (1 + N) := fun h => by rw [decide_eq_false (fun e => h (ofL_inj.1 e))] at hc94; cases hc94
                refine wp_skip ?_
                refine then_normal ?_
                refine wp_seq ?_
                refine region_s ?_
                refine q_look (look_move rfl rfl) ?_
                refine q_look (look_move rfl rfl) ?_
                refine q_look (look_move rfl rfl) ?_
                refine q_look (look_assign rfl rfl) ?_
                refine q_look (look_assign rfl rfl) ?_
                refine q_look (look_assign rfl rfl) ?_
                refine q_look (look_assign rfl rfl) ?_
                refine q_nil ?_
                rintro _ rfl
                refine then_normal ?_
                refine wp_ret ?_
                rw [htt]
                have hp4 : peekP (b :: t) one two = (((b.toNat : Int) / 32), beval (t.take N), 1 + (N : Int), 0) := by
                  simp only [peekP]; rw [if_neg h1, if_neg h2, hNz, if_neg h3, if_neg h4]
                exact res4 Try.results41 rfl rfl rfl rfl ⟨by rw [hp4], hX⟩

end Go.Proofs.Ytcneinajeapbhaa
