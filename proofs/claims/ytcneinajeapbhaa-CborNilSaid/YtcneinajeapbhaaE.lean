/- The walks of chapter 05 (cbor), fifth part: what a reader reads. -/
import Derived.Test.YtcneinajeapbhaaD
import Derived.Test.YtcneinajeapbhaaMut
namespace Go.Proofs.Ytcneinajeapbhaa
open Go Go.RowKit Core
set_option linter.unusedVariables false
set_option linter.unusedSimpArgs false
attribute [local irreducible] wpQuiet wpList wpH wpT Code.wp Calls bodyPost act


theorem nd_t {p : Prop} [Decidable p] (h : (!decide p) = true) : ¬ p := fun hp => by rw [decide_eq_true hp] at h; cases h
theorem nd_f {p : Prop} [Decidable p] (h : (!decide p) = false) : p := by by_cases hp : p; exact hp; rw [decide_eq_false hp] at h; cases h
theorem nn_t {p : Prop} [Decidable p] (h : decide p = true) : p := of_decide_eq_true h
theorem nn_f {p : Prop} [Decidable p] (h : decide p = false) : ¬ p := of_decide_eq_false h
def EOk (e : Int) : Prop := e = 0 ∨ e = 3 ∨ e = 5
theorem peek_ok (r : List UInt8) (one two : Int) {k v z e : Int} (h : peekP r one two = (k, v, z, e)) (h1 : 0 ≤ one ∧ one ≤ 7) (h2 : 0 ≤ two ∧ two ≤ 7) : EOk e ∧ U64 v ∧ 0 ≤ z ∧ (e = 0 → (k = one ∨ k = two) ∧ 1 ≤ z ∧ z ≤ (r.length : Int) ∧ r.take z.toNat = headP k v) := by
  unfold peekP at h
  split at h
  · cases h; exact ⟨.inr (.inl rfl), ⟨by omega, by omega⟩, by omega, fun h => by cases h⟩
  · rename_i b t
    have hb := b.toNat_lt
    split at h
    · cases h; exact ⟨.inr (.inr rfl), ⟨by omega, by omega⟩, by omega, fun h => by cases h⟩
    · rename_i hk
      split at h
      · rename_i hlo
        cases h
        refine ⟨.inl rfl, ⟨by omega, by omega⟩, by omega, fun _ => ⟨by omega, by omega, by simp only [List.length_cons]; omega, ?_⟩⟩
        unfold headP
        rw [if_pos hlo]
        have e1 : 32 * ((b.toNat : Int) / 32) + (b.toNat : Int) % 32 = (b.toNat : Int) := by omega
        rw [e1, u8of_u8]
        rfl
      · rename_i hlo
        obtain ⟨N, hN⟩ : ∃ N, N = 2 ^ ((b.toNat : Int) % 32 - 24).toNat := ⟨_, rfl⟩
        have hp : 1 ≤ N ∧ N ≤ 8 := by
          rw [hN]
          rcases (by omega : ((b.toNat : Int) % 32 - 24).toNat = 0 ∨ ((b.toNat : Int) % 32 - 24).toNat = 1 ∨ ((b.toNat : Int) % 32 - 24).toNat = 2 ∨ ((b.toNat : Int) % 32 - 24).toNat = 3) with e | e | e | e <;> rw [e] <;> decide
        rw [← hN] at h
        split at h
        · cases h; exact ⟨.inr (.inl rfl), ⟨by omega, by omega⟩, by omega, fun h => by cases h⟩
        · rename_i hlen
          split at h
          · cases h; exact ⟨.inr (.inr rfl), ⟨by omega, by omega⟩, by omega, fun h => by cases h⟩
          · rename_i hh
            cases h
            have hl : (t.take N).length ≤ 8 := by rw [List.length_take]; omega
            have hv : U64 (beval (t.take N)) := by
              have hbd := beval_bd _ (t.take N) rfl
              exact ⟨hbd.1, Int.lt_of_lt_of_le hbd.2 (Int.le_trans (Int.ofNat_le.2 (Nat.pow_le_pow_right (by omega) hl)) (by decide))⟩
            refine ⟨.inl rfl, hv, by omega, fun _ => ⟨by omega, by omega, by simp only [List.length_cons] at hlen ⊢; omega, ?_⟩⟩
            have hh' : headP ((b.toNat : Int) / 32) (beval (t.take N)) = (b :: t).take (1 + N) := Decidable.byContradiction hh
            rw [hh']
            congr 1
/-- What Int reads: the value, how many bytes, the error. -/
def intQ (k v z e low high : Int) : Int × Nat × Int :=
  if e ≠ 0 then (0, 0, e) else if 9223372036854775808 ≤ v then (0, 0, 5) else
  if (if k = 1 then -1 - v else v) < low ∨ high < (if k = 1 then -1 - v else v) then (0, 0, 9) else (if k = 1 then -1 - v else v, z.toNat, 0)
def intR (r : List UInt8) (e0 low high : Int) : Int × Nat × Int :=
  if e0 = 0 then intQ (peekP r 0 1).1 (peekP r 0 1).2.1 (peekP r 0 1).2.2.1 (peekP r 0 1).2.2.2 low high else (0, 0, e0)
def countQ (len v z e most : Int) (follow : Bool) : Int × Nat × Int :=
  if e ≠ 0 then (0, 0, e) else if most < 0 ∨ most < v then (0, 0, 4) else if follow = true ∧ len - z < v then (0, 0, 3) else (v, z.toNat, 0)
def countR (r : List UInt8) (e0 k most : Int) (follow : Bool) : Int × Nat × Int :=
  if e0 = 0 then countQ (r.length : Int) (peekP r k k).2.1 (peekP r k k).2.2.1 (peekP r k k).2.2.2 most follow else (0, 0, e0)
def textR (r : List UInt8) (e0 most : Int) : List UInt8 × Nat × Int :=
  ((r.drop (countR r e0 2 most true).2.1).take (countR r e0 2 most true).1.toNat, (countR r e0 2 most true).2.1 + (countR r e0 2 most true).1.toNat, (countR r e0 2 most true).2.2)
def boolR (r : List UInt8) (e0 : Int) : Bool × Nat × Int :=
  if e0 = 0 then
    match r with
    | [] => (false, 0, 3)
    | b :: _ => if b = 244 then (false, 1, 0) else if b = 245 then (true, 1, 0) else (false, 0, 5)
  else (false, 0, e0)
theorem wrap_in (v : Int) : I64 (IntKind.i64.wrap v) := by
  unfold I64
  simp only [IntKind.wrap, IntKind.signed, IntKind.bits]
  simp
  omega

theorem int_reads (g : Nat) (r : List UInt8) (e0 : Int) (low high : Int) (w : World) (hB : Blk w g 57 (rcell r e0)) (hr0 : r.length ≤ 1000000) :
    Calls Try.prog 22 #[.pointer (some ⟨g, 0, none⟩), .int .i64 low, .int .i64 high] w fun e w' => e = .returned (.int .i64 (intR r e0 low high).1) ∧ Mut g w w' ∧ Blk w' g 57 (rcell (r.drop (intR r e0 low high).2.1) (intR r e0 low high).2.2) := by
  refine calls_act Try.func22 rfl Try.ntmps22 rfl rfl ?_
  show Code.wp _ _ _ (act 66 [(0, true, .pointer (some ⟨g, 0, none⟩)), (1, true, .int .i64 low), (2, true, .int .i64 high)] _) _
  have hX : Mut g w w := Mut.rfl' g w
  obtain ⟨k, v, z, e, hp⟩ : ∃ k v z e, peekP r 0 1 = (k, v, z, e) := ⟨_, _, _, _, rfl⟩
  have hpk : ∀ w, Blk w g 57 (rcell r e0) → Calls Try.prog 41 #[.pointer (some ⟨g, 0, none⟩), .int .i64 0, .int .i64 1] w fun q w' => q = .returned (.tuple #[.int .i64 k, .int .u64 v, .int .i64 z, .int .i64 e]) ∧ Ext w w' := fun w h => by have := peek_any g r e0 0 1 w h hr0; rw [hp] at this; exact this
  obtain ⟨hok, hv, hz0, hok2⟩ := peek_ok r 0 1 hp (by omega) (by omega)
  have hv2 := hv
  unfold U64 at hv2
  refine wp_seq ?_
  refine region_s ?_
  refine q_look (look_assign rfl rfl) ?_
  refine q_nil ?_
  rintro _ rfl
  refine then_normal ?_
  refine wp_seq ?_
  refine wp_seq ?_
  refine region_q ?_
  refine q_look (look_move rfl rfl) ?_
  refine q_call (vs := [_]) enTry_40 ⟨⟨_, rfl, rfl⟩, trivial⟩ (fun wc hw => cext hw (open_any g r e0 wc (hB.ext hw))) ?_
  refine q_look (look_not rfl rfl) ?_
  refine q_nil ?_
  intro w1 hw1
  replace hX := hX.comp hw1
  replace hB := hB.ext hw1
  refine then_normal ?_
  refine cond_split rfl (fun hc14 => ?_) (fun hc14 => ?_)
  · have h0 : ¬ e0 = 0 := nd_t hc14
    refine wp_seq ?_
    refine region_s ?_
    refine q_look (look_assign rfl rfl) ?_
    refine q_nil ?_
    rintro _ rfl
    refine then_normal ?_
    refine wp_ret ?_
    refine then_ret ?_
    have hi : intR r e0 low high = (0, 0, e0) := by unfold intR; rw [if_neg h0]
    exact res1 Try.results22 rfl ⟨by rw [hi], hX, by rw [hi]; exact hB⟩
  · have h0 : e0 = 0 := nd_f hc14
    refine wp_skip ?_
    refine then_normal ?_
    refine wp_seq ?_
    refine region_q ?_
    refine q_look (look_move rfl rfl) ?_
    refine q_call (vs := [_, _, _]) enTry_41 ⟨⟨_, rfl, rfl⟩, ⟨_, rfl, rfl⟩, ⟨_, rfl, rfl⟩, trivial⟩ (fun wc hw => cext hw (hpk wc (hB.ext hw))) ?_
    refine q_look (look_move rfl rfl) ?_
    refine q_look (look_extract rfl rfl rfl) ?_
    refine q_look (look_extract rfl rfl rfl) ?_
    refine q_look (look_extract rfl rfl rfl) ?_
    refine q_look (look_extract rfl rfl rfl) ?_
    refine q_look (look_assign rfl rfl) ?_
    refine q_look (look_assign rfl rfl) ?_
    refine q_look (look_assign rfl rfl) ?_
    refine q_look (look_assign rfl rfl) ?_
    refine q_nil ?_
    intro w2 hw2
    replace hX := hX.comp hw2
    replace hB := hB.ext hw2
    refine then_normal ?_
    refine seq_cut (n := 66) (fun (e1 : Int) => [(0, .pointer (some ⟨g, 0, none⟩)), (1, .int .i64 low), (2, .int .i64 high), (7, .int .i64 k), (8, .int .u64 v), (9, .int .i64 z), (10, .int .i64 e1)]) (fun e1 w' => (Mut g w w') ∧ (Blk w' g 57 (rcell r e0)) ∧ (e1 = if e = 0 ∧ 9223372036854775808 ≤ v then 5 else e)) ?_ ?_
    · refine wp_seq ?_
      refine region_s ?_
      refine q_look (look_move rfl rfl) ?_
      refine q_look (look_eql rfl rfl rfl rfl) ?_
      refine q_look (look_move rfl rfl) ?_
      refine q_lookg rfl rfl rfl (fun hq => look_move rfl rfl) ?_
      refine q_lookg rfl rfl rfl (fun hq => look_shr rfl hq rfl rfl (by omega) (show v.fdiv 9223372036854775808 = v / 9223372036854775808 from Int.fdiv_eq_ediv_of_nonneg _ (by omega))) ?_
      refine q_lookg rfl rfl rfl (fun hq => look_neq rfl hq rfl rfl) ?_
      refine q_look (look_and rfl rfl rfl rfl) ?_
      refine q_nil ?_
      rintro _ rfl
      refine then_normal ?_
      refine cond_split rfl (fun hc28 => ?_) (fun hc28 => ?_)
      · have h1 : e = 0 ∧ 9223372036854775808 ≤ v := by rw [Bool.and_eq_true] at hc28; have a := nn_t hc28.1; have b := nd_t hc28.2; omega
        refine region_s ?_
        refine q_look (look_assign rfl rfl) ?_
        refine q_nil ?_
        rintro _ rfl
        exact cut_end _ ⟨rfl, rfl, rfl, rfl, rfl, rfl, rfl, trivial⟩ ⟨hX, hB, by first | rw [if_pos h1] | rw [if_neg h1]⟩
      · have h1 : ¬ (e = 0 ∧ 9223372036854775808 ≤ v) := fun h => by rw [decide_eq_true h.1, Bool.true_and] at hc28; have := nd_f hc28; omega
        refine wp_skip ?_
        exact cut_end _ ⟨rfl, rfl, rfl, rfl, rfl, rfl, rfl, trivial⟩ ⟨hX, hB, by first | rw [if_pos h1] | rw [if_neg h1]⟩
    · rintro e1 σ wr hF
      obtain ⟨hX, hB, he1⟩ : (Mut g w wr) ∧ (Blk wr g 57 (rcell r e0)) ∧ (e1 = if e = 0 ∧ 9223372036854775808 ≤ v then 5 else e) := hF
      obtain ⟨n0, hn0⟩ : ∃ n0, IntKind.i64.wrap v = n0 := ⟨_, rfl⟩
      have hI : I64 n0 := hn0 ▸ wrap_in v
      have hnv : v < 9223372036854775808 → n0 = v := fun h => by rw [← hn0]; exact wrap_I64 (by unfold I64; omega)
      show Code.wp _ _ _ (act 66 [(0, true, .pointer (some ⟨g, 0, none⟩)), (1, true, .int .i64 low), (2, true, .int .i64 high), (7, true, .int .i64 k), (8, true, .int .u64 v), (9, true, .int .i64 z), (10, true, .int .i64 e1)] _) _
      refine wp_seq ?_
      refine region_s ?_
      refine q_look (look_move rfl rfl) ?_
      refine q_look (look_conv_int Try.underlying3 Try.underlying52 rfl rfl hn0) ?_
      refine q_look (look_assign rfl rfl) ?_
      refine q_nil ?_
      rintro _ rfl
      refine then_normal ?_
      refine seq_cut (n := 66) (fun (x : Int) => [(0, .pointer (some ⟨g, 0, none⟩)), (1, .int .i64 low), (2, .int .i64 high), (7, .int .i64 k), (8, .int .u64 v), (9, .int .i64 z), (10, .int .i64 e1), (11, .int .i64 x)]) (fun x w' => (Mut g w w') ∧ (Blk w' g 57 (rcell r e0)) ∧ (x = if k = 1 then -1 - n0 else n0)) ?_ ?_
      · refine wp_seq ?_
        refine region_s ?_
        refine q_look (look_move rfl rfl) ?_
        refine q_look (look_eql rfl rfl rfl rfl) ?_
        refine q_nil ?_
        rintro _ rfl
        refine then_normal ?_
        refine cond_split rfl (fun hc32 => ?_) (fun hc32 => ?_)
        · have hk : k = 1 := nn_t hc32
          refine region_s ?_
          refine q_look (look_move rfl rfl) ?_
          refine q_look (look_unxor rfl rfl hI) ?_
          refine q_look (look_assign rfl rfl) ?_
          refine q_nil ?_
          rintro _ rfl
          exact cut_end _ ⟨rfl, rfl, rfl, rfl, rfl, rfl, rfl, rfl, trivial⟩ ⟨hX, hB, by first | rw [if_pos hk] | rw [if_neg hk]⟩
        · have hk : ¬ k = 1 := nn_f hc32
          refine wp_skip ?_
          exact cut_end _ ⟨rfl, rfl, rfl, rfl, rfl, rfl, rfl, rfl, trivial⟩ ⟨hX, hB, by first | rw [if_pos hk] | rw [if_neg hk]⟩
      · rintro x σ wr hF
        obtain ⟨hX, hB, hx⟩ : (Mut g w wr) ∧ (Blk wr g 57 (rcell r e0)) ∧ (x = if k = 1 then -1 - n0 else n0) := hF
        show Code.wp _ _ _ (act 66 [(0, true, .pointer (some ⟨g, 0, none⟩)), (1, true, .int .i64 low), (2, true, .int .i64 high), (7, true, .int .i64 k), (8, true, .int .u64 v), (9, true, .int .i64 z), (10, true, .int .i64 e1), (11, true, .int .i64 x)] _) _
        refine seq_cut (n := 66) (fun (e2 : Int) => [(0, .pointer (some ⟨g, 0, none⟩)), (1, .int .i64 low), (2, .int .i64 high), (7, .int .i64 k), (8, .int .u64 v), (9, .int .i64 z), (10, .int .i64 e2), (11, .int .i64 x)]) (fun e2 w' => (Mut g w w') ∧ (Blk w' g 57 (rcell r e0)) ∧ (e2 = if e1 = 0 ∧ (x < low ∨ high < x) then 9 else e1)) ?_ ?_
        · refine wp_seq ?_
          refine region_s ?_
          refine q_look (look_move rfl rfl) ?_
          refine q_look (look_eql rfl rfl rfl rfl) ?_
          refine q_look (look_move rfl rfl) ?_
          refine q_lookg rfl rfl rfl (fun hq => look_move rfl rfl) ?_
          refine q_lookg rfl rfl rfl (fun hq => look_move rfl rfl) ?_
          refine q_lookg rfl rfl rfl (fun hq => look_lss rfl hq rfl hq) ?_
          refine q_lookg rfl rfl rfl (fun hq => look_move rfl hq) ?_
          refine q_lookg rfl rfl rfl (fun hq => look_move rfl rfl) ?_
          refine q_lookg rfl rfl rfl (fun hq => look_move rfl rfl) ?_
          refine q_lookg rfl rfl rfl (fun hq => look_gtr rfl hq rfl hq) ?_
          refine q_lookg rfl rfl rfl (fun hq => look_or rfl hq rfl hq) ?_
          refine q_look (look_and rfl rfl rfl rfl) ?_
          refine q_nil ?_
          rintro _ rfl
          refine then_normal ?_
          refine cond_split rfl (fun hc46 => ?_) (fun hc46 => ?_)
          · have h2 : e1 = 0 ∧ (x < low ∨ high < x) := by simp only [Bool.and_eq_true, Bool.or_eq_true, decide_eq_true_eq] at hc46; exact hc46
            refine region_s ?_
            refine q_look (look_assign rfl rfl) ?_
            refine q_nil ?_
            rintro _ rfl
            exact cut_end _ ⟨rfl, rfl, rfl, rfl, rfl, rfl, rfl, rfl, trivial⟩ ⟨hX, hB, by first | rw [if_pos h2] | rw [if_neg h2]⟩
          · have h2 : ¬ (e1 = 0 ∧ (x < low ∨ high < x)) := fun h => by rw [← Bool.not_eq_true] at hc46; apply hc46; simp only [Bool.and_eq_true, Bool.or_eq_true, decide_eq_true_eq]; exact h
            refine wp_skip ?_
            exact cut_end _ ⟨rfl, rfl, rfl, rfl, rfl, rfl, rfl, rfl, trivial⟩ ⟨hX, hB, by first | rw [if_pos h2] | rw [if_neg h2]⟩
        · rintro e2 σ wr hF
          obtain ⟨hX, hB, he2⟩ : (Mut g w wr) ∧ (Blk wr g 57 (rcell r e0)) ∧ (e2 = if e1 = 0 ∧ (x < low ∨ high < x) then 9 else e1) := hF
          have hi : intR r e0 low high = if e2 = 0 then (x, z.toNat, 0) else (0, 0, e2) := by
            unfold intR
            rw [if_pos h0, hp]
            unfold intQ
            simp only []
            by_cases h : e = 0
            · by_cases h4 : 9223372036854775808 ≤ v
              · have : e1 = 5 := by rw [he1, if_pos ⟨h, h4⟩]
                have : e2 = 5 := by rw [he2, if_neg (by omega)]; exact this
                rw [if_neg (by omega), if_pos h4, if_neg (by omega), this]
              · have h5 : e1 = 0 := by rw [he1, if_neg (by omega)]; exact h
                have h6 : x = if k = 1 then -1 - v else v := by rw [hx, hnv (by omega)]
                rw [if_neg (by omega), if_neg h4, ← h6]
                by_cases h7 : x < low ∨ high < x
                · have : e2 = 9 := by rw [he2, if_pos ⟨h5, h7⟩]
                  rw [if_pos h7, if_neg (by omega), this]
                · have : e2 = 0 := by rw [he2, if_neg (by omega)]; exact h5
                  rw [if_neg h7, if_pos this]
            · have h5 : e1 = e := by rw [he1, if_neg (by omega)]
              have : e2 = e := by rw [he2, if_neg (by omega)]; exact h5
              rw [if_pos h, if_neg (by omega), this]
          show Code.wp _ _ _ (act 66 [(0, true, .pointer (some ⟨g, 0, none⟩)), (1, true, .int .i64 low), (2, true, .int .i64 high), (7, true, .int .i64 k), (8, true, .int .u64 v), (9, true, .int .i64 z), (10, true, .int .i64 e2), (11, true, .int .i64 x)] _) _
          refine wp_seq ?_
          refine wp_seq ?_
          refine wp_region_lit ?_
          refine s_look (look_move rfl rfl) ?_
          refine s_look (look_move rfl rfl) ?_
          refine s_look (look_nilCheck rfl rfl) ?_
          refine s_look (look_fieldAddr Try.underlying57 rfl (fun _ _ => rfl) rfl rfl) ?_
          refine s_look (look_fieldAddr Try.underlying55 rfl (fun _ _ => rfl) rfl rfl) ?_
          refine s_store1 szTry_32 rfl rfl rfl rfl hB rfl ?_
          intro u1 hk1 hT1
          replace hX := hX.kp hk1 (by omega)
          clear hB
          have hB := hT1
          refine s_nil ?_
          refine then_normal ?_
          refine wp_seq ?_
          refine region_s ?_
          refine q_look (look_move rfl rfl) ?_
          refine q_look (look_neq rfl rfl rfl rfl) ?_
          refine q_nil ?_
          rintro _ rfl
          refine then_normal ?_
          refine cond_split rfl (fun hc53 => ?_) (fun hc53 => ?_)
          · have h3 : ¬ e2 = 0 := nd_t hc53
            rw [if_neg h3] at hi
            refine wp_seq ?_
            refine region_s ?_
            refine q_look (look_assign rfl rfl) ?_
            refine q_nil ?_
            rintro _ rfl
            refine then_normal ?_
            refine wp_ret ?_
            refine then_ret ?_
            exact res1 Try.results22 rfl ⟨by rw [hi], hX, by rw [hi]; exact hB⟩
          · have h3 : e2 = 0 := nd_f hc53
            rw [if_pos h3] at hi
            have he : e = 0 := by
              by_cases h : e = 0
              · exact h
              · rw [if_neg (by omega)] at he1; rw [if_neg (by omega)] at he2; omega
            obtain ⟨_, hz1, hz2, _⟩ := hok2 he
            refine wp_skip ?_
            refine then_normal ?_
            refine wp_seq ?_
            refine wp_region_lit ?_
            refine s_look (look_move rfl rfl) ?_
            refine s_look (look_move rfl rfl) ?_
            refine s_look (look_nilCheck rfl rfl) ?_
            refine s_look (look_fieldAddr Try.underlying57 rfl (fun _ _ => rfl) rfl rfl) ?_
            refine s_look (look_fieldAddr Try.underlying55 rfl (fun _ _ => rfl) rfl rfl) ?_
            refine s_look (look_load1 Try.underlying9 rfl rfl rfl (eqc (hB.cell rfl))) ?_
            refine s_look (look_move rfl rfl) ?_
            refine s_look (look_slice_str_l (lo := z.toNat) Try.underlying9 rfl rfl rfl rfl (by omega) (by omega)) ?_
            refine s_look (look_nilCheck rfl rfl) ?_
            refine s_look (look_fieldAddr Try.underlying57 rfl (fun _ _ => rfl) rfl rfl) ?_
            refine s_look (look_fieldAddr Try.underlying55 rfl (fun _ _ => rfl) rfl rfl) ?_
            refine s_store1 szTry_9 rfl rfl rfl rfl hB rfl ?_
            intro u2 hk2 hT2
            replace hX := hX.kp hk2 (by omega)
            clear hB
            have hB := hT2
            refine s_nil ?_
            refine then_normal ?_
            refine wp_seq ?_
            refine region_s ?_
            refine q_look (look_move rfl rfl) ?_
            refine q_look (look_assign rfl rfl) ?_
            refine q_nil ?_
            rintro _ rfl
            refine then_normal ?_
            refine wp_ret ?_
            exact res1 Try.results22 rfl ⟨by rw [hi], hX, by rw [hi, ← h3]; exact hB⟩


theorem count_ok {r : List UInt8} {e0 kd most n : Int} {follow : Bool} {c : Nat} {e : Int} (hk : 0 ≤ kd ∧ kd ≤ 7) (hm : I64 most) (h : countR r e0 kd most follow = (n, c, e)) : 0 ≤ n ∧ I64 n ∧ c ≤ r.length ∧ (follow = true → (c : Int) + n ≤ (r.length : Int)) ∧ (n ≤ most ∨ n = 0) ∧ (e ≠ 0 → n = 0 ∧ c = 0) := by
  have hm2 := hm
  unfold I64 at hm2
  unfold countR at h
  split at h
  · obtain ⟨k, v, z, e', hp⟩ : ∃ k v z e', peekP r kd kd = (k, v, z, e') := ⟨_, _, _, _, rfl⟩
    obtain ⟨hok, hv, hz0, hok2⟩ := peek_ok r kd kd hp hk hk
    have hv2 := hv
    unfold U64 at hv2
    rw [hp] at h
    simp only [countQ] at h
    split at h
    · cases h; exact ⟨by omega, by unfold I64; omega, by omega, fun _ => by omega, .inr rfl, fun _ => ⟨rfl, rfl⟩⟩
    · split at h
      · cases h; exact ⟨by omega, by unfold I64; omega, by omega, fun _ => by omega, .inr rfl, fun _ => ⟨rfl, rfl⟩⟩
      · split at h
        · cases h; exact ⟨by omega, by unfold I64; omega, by omega, fun _ => by omega, .inr rfl, fun _ => ⟨rfl, rfl⟩⟩
        · rename_i h1 h2 h3
          cases h
          obtain ⟨_, hz1, hz2, _⟩ := hok2 (by omega)
          exact ⟨by omega, by unfold I64; omega, by omega, fun hf => by have : ¬ ((r.length : Int) - z < n) := fun hh => h3 ⟨hf, hh⟩; omega, .inl (by omega), fun h => absurd rfl h⟩
  · cases h; exact ⟨by omega, by unfold I64; omega, by omega, fun _ => by omega, .inr rfl, fun _ => ⟨rfl, rfl⟩⟩

theorem count_reads (g : Nat) (r : List UInt8) (e0 : Int) (kd most : Int) (follow : Bool) (w : World) (hB : Blk w g 57 (rcell r e0)) (hr0 : r.length ≤ 1000000) (hkd : 0 ≤ kd ∧ kd ≤ 7) (hm : I64 most) :
    Calls Try.prog 39 #[.pointer (some ⟨g, 0, none⟩), .int .i64 kd, .int .i64 most, .bool follow] w fun e w' => e = .returned (.int .i64 (countR r e0 kd most follow).1) ∧ Mut g w w' ∧ Blk w' g 57 (rcell (r.drop (countR r e0 kd most follow).2.1) (countR r e0 kd most follow).2.2) := by
  refine calls_act Try.func39 rfl Try.ntmps39 rfl rfl ?_
  show Code.wp _ _ _ (act 72 [(0, true, .pointer (some ⟨g, 0, none⟩)), (1, true, .int .i64 kd), (2, true, .int .i64 most), (3, true, .bool follow)] _) _
  have hX : Mut g w w := Mut.rfl' g w
  obtain ⟨k, v, z, e, hp⟩ : ∃ k v z e, peekP r kd kd = (k, v, z, e) := ⟨_, _, _, _, rfl⟩
  have hpk : ∀ w, Blk w g 57 (rcell r e0) → Calls Try.prog 41 #[.pointer (some ⟨g, 0, none⟩), .int .i64 kd, .int .i64 kd] w fun q w' => q = .returned (.tuple #[.int .i64 k, .int .u64 v, .int .i64 z, .int .i64 e]) ∧ Ext w w' := fun w h => by have := peek_any g r e0 kd kd w h hr0; rw [hp] at this; exact this
  obtain ⟨hok, hv, hz0, hok2⟩ := peek_ok r kd kd hp (by omega) (by omega)
  have hv2 := hv
  unfold U64 at hv2
  have hm2 := hm
  unfold I64 at hm2
  refine wp_seq ?_
  refine region_s ?_
  refine q_look (look_assign rfl rfl) ?_
  refine q_nil ?_
  rintro _ rfl
  refine then_normal ?_
  refine wp_seq ?_
  refine wp_seq ?_
  refine region_q ?_
  refine q_look (look_move rfl rfl) ?_
  refine q_call (vs := [_]) enTry_40 ⟨⟨_, rfl, rfl⟩, trivial⟩ (fun wc hw => cext hw (open_any g r e0 wc (hB.ext hw))) ?_
  refine q_look (look_not rfl rfl) ?_
  refine q_nil ?_
  intro w1 hw1
  replace hX := hX.comp hw1
  replace hB := hB.ext hw1
  refine then_normal ?_
  refine cond_split rfl (fun hc15 => ?_) (fun hc15 => ?_)
  · have h0 : ¬ e0 = 0 := nd_t hc15
    refine wp_seq ?_
    refine region_s ?_
    refine q_look (look_assign rfl rfl) ?_
    refine q_nil ?_
    rintro _ rfl
    refine then_normal ?_
    refine wp_ret ?_
    refine then_ret ?_
    have hi : countR r e0 kd most follow = (0, 0, e0) := by unfold countR; rw [if_neg h0]
    exact res1 Try.results39 rfl ⟨by rw [hi], hX, by rw [hi]; exact hB⟩
  · have h0 : e0 = 0 := nd_f hc15
    refine wp_skip ?_
    refine then_normal ?_
    refine wp_seq ?_
    refine region_q ?_
    refine q_look (look_move rfl rfl) ?_
    refine q_look (look_move rfl rfl) ?_
    refine q_look (look_move rfl rfl) ?_
    refine q_call (vs := [_, _, _]) enTry_41 ⟨⟨_, rfl, rfl⟩, ⟨_, rfl, rfl⟩, ⟨_, rfl, rfl⟩, trivial⟩ (fun wc hw => cext hw (hpk wc (hB.ext hw))) ?_
    refine q_look (look_move rfl rfl) ?_
    refine q_look (look_extract rfl rfl rfl) ?_
    refine q_look (look_extract rfl rfl rfl) ?_
    refine q_look (look_extract rfl rfl rfl) ?_
    refine q_look (look_extract rfl rfl rfl) ?_
    refine q_look (look_assign rfl rfl) ?_
    refine q_look (look_assign rfl rfl) ?_
    refine q_look (look_assign rfl rfl) ?_
    refine q_look (look_assign rfl rfl) ?_
    refine q_nil ?_
    intro w2 hw2
    replace hX := hX.comp hw2
    replace hB := hB.ext hw2
    refine then_normal ?_
    refine seq_cut (n := 72) (fun (e1 : Int) => [(0, .pointer (some ⟨g, 0, none⟩)), (1, .int .i64 kd), (2, .int .i64 most), (3, .bool follow), (10, .int .u64 v), (11, .int .i64 z), (12, .int .i64 e1)]) (fun e1 w' => (Mut g w w') ∧ (Blk w' g 57 (rcell r e0)) ∧ (e1 = if e ≠ 0 then e else if most < 0 ∨ most < v then 4 else if follow = true ∧ (r.length : Int) - z < v then 3 else 0)) ?_ ?_
    · refine wp_block ?_
      refine wp_seq ?_
      refine region_s ?_
      refine q_look (look_move rfl rfl) ?_
      refine q_look (look_neq rfl rfl rfl rfl) ?_
      refine q_look (look_assign rfl rfl) ?_
      refine q_nil ?_
      rintro _ rfl
      refine then_normal ?_
      refine cond_split rfl (fun hc25 => ?_) (fun hc25 => ?_)
      · have h1 : ¬ e = 0 := nd_t hc25
        refine wp_skip ?_
        refine inB_normal ?_
        exact cut_end _ ⟨rfl, rfl, rfl, rfl, rfl, rfl, rfl, trivial⟩ ⟨hX, hB, by first | rw [if_pos h1] | rw [if_neg (by omega), if_pos h2] | rw [if_neg (by omega), if_neg h2, if_pos h3] | rw [if_neg (by omega), if_neg h2, if_neg h3]; exact h1⟩
      · have h1 : e = 0 := nd_f hc25
        obtain ⟨_, hz1, hz2, _⟩ := hok2 h1
        refine wp_seq ?_
        refine region_s ?_
        refine q_look (look_move rfl rfl) ?_
        refine q_look (look_lss rfl rfl rfl rfl) ?_
        refine q_look (look_move rfl rfl) ?_
        refine q_lookg rfl rfl rfl (fun hq => look_move rfl rfl) ?_
        refine q_lookg rfl rfl rfl (fun hq => look_move rfl rfl) ?_
        refine q_lookg rfl rfl rfl (fun hq => look_conv_int Try.underlying52 Try.underlying3 rfl hq (wrap_u64_in (by have := nn_f (gqR hq); omega) (by omega))) ?_
        refine q_lookg rfl rfl rfl (fun hq => look_gtr rfl hq rfl hq) ?_
        refine q_look (look_or rfl rfl rfl rfl) ?_
        refine q_look (look_assign rfl rfl) ?_
        refine q_nil ?_
        rintro _ rfl
        refine then_normal ?_
        refine cond_split rfl (fun hc28 => ?_) (fun hc28 => ?_)
        · have h2 : most < 0 ∨ most < v := by simp only [Bool.or_eq_true, decide_eq_true_eq] at hc28; omega
          refine region_s ?_
          refine q_look (look_assign rfl rfl) ?_
          refine q_nil ?_
          rintro _ rfl
          refine inB_normal ?_
          exact cut_end _ ⟨rfl, rfl, rfl, rfl, rfl, rfl, rfl, trivial⟩ ⟨hX, hB, by first | rw [if_pos h1] | rw [if_neg (by omega), if_pos h2] | rw [if_neg (by omega), if_neg h2, if_pos h3] | rw [if_neg (by omega), if_neg h2, if_neg h3]; exact h1⟩
        · have h2 : ¬ (most < 0 ∨ most < v) := fun h => by rw [← Bool.not_eq_true] at hc28; apply hc28; simp only [Bool.or_eq_true, decide_eq_true_eq]; omega
          refine wp_seq ?_
          refine region_s ?_
          refine q_look (look_move rfl rfl) ?_
          refine q_look (look_move rfl rfl) ?_
          refine q_lookg rfl rfl rfl (fun hq => look_move rfl rfl) ?_
          refine q_lookg rfl rfl rfl (fun hq => look_move rfl rfl) ?_
          refine q_lookg rfl rfl rfl (fun hq => look_nilCheck rfl hq) ?_
          refine q_lookg rfl rfl rfl (fun hq => look_fieldAddr Try.underlying57 rfl (fun _ _ => rfl) rfl hq) ?_
          refine q_lookg rfl rfl rfl (fun hq => look_fieldAddr Try.underlying55 rfl (fun _ _ => rfl) rfl hq) ?_
          refine q_lookg rfl rfl rfl (fun hq => look_load1 Try.underlying9 rfl rfl hq (eqc (hB.cell rfl))) ?_
          refine q_lookg rfl rfl rfl (fun hq => Look.as (look_len_string Try.underlying9 rfl hq) (by rw [ofL_size]) (v' := .int .i64 (r.length : Int))) ?_
          refine q_lookg rfl rfl rfl (fun hq => look_move rfl rfl) ?_
          refine q_lookg rfl rfl rfl (fun hq => look_sub rfl hq rfl hq (by unfold I64; omega)) ?_
          refine q_lookg rfl rfl rfl (fun hq => look_conv_int Try.underlying52 Try.underlying3 rfl hq (wrap_u64_in (by omega) (by omega))) ?_
          refine q_lookg rfl rfl rfl (fun hq => look_gtr rfl hq rfl hq) ?_
          refine q_look (look_and rfl rfl rfl rfl) ?_
          refine q_look (look_assign rfl rfl) ?_
          refine q_nil ?_
          rintro _ rfl
          refine then_normal ?_
          refine cond_split rfl (fun hc37 => ?_) (fun hc37 => ?_)
          · have h3 : follow = true ∧ (r.length : Int) - z < v := by rw [Bool.and_eq_true] at hc37; exact ⟨hc37.1, nn_t hc37.2⟩
            refine region_s ?_
            refine q_look (look_assign rfl rfl) ?_
            refine q_nil ?_
            rintro _ rfl
            refine inB_normal ?_
            exact cut_end _ ⟨rfl, rfl, rfl, rfl, rfl, rfl, rfl, trivial⟩ ⟨hX, hB, by first | rw [if_pos h1] | rw [if_neg (by omega), if_pos h2] | rw [if_neg (by omega), if_neg h2, if_pos h3] | rw [if_neg (by omega), if_neg h2, if_neg h3]; exact h1⟩
          · have h3 : ¬ (follow = true ∧ (r.length : Int) - z < v) := fun h => by rw [h.1, Bool.true_and] at hc37; exact nn_f hc37 h.2
            refine wp_skip ?_
            refine inB_normal ?_
            exact cut_end _ ⟨rfl, rfl, rfl, rfl, rfl, rfl, rfl, trivial⟩ ⟨hX, hB, by first | rw [if_pos h1] | rw [if_neg (by omega), if_pos h2] | rw [if_neg (by omega), if_neg h2, if_pos h3] | rw [if_neg (by omega), if_neg h2, if_neg h3]; exact h1⟩
    · rintro e1 σ wr hF
      obtain ⟨hX, hB, he1⟩ : (Mut g w wr) ∧ (Blk wr g 57 (rcell r e0)) ∧ (e1 = if e ≠ 0 then e else if most < 0 ∨ most < v then 4 else if follow = true ∧ (r.length : Int) - z < v then 3 else 0) := hF
      have hi : countR r e0 kd most follow = if e1 = 0 then (v, z.toNat, 0) else (0, 0, e1) := by
        unfold countR
        rw [if_pos h0, hp, he1]
        simp only [countQ]
        by_cases h1 : e ≠ 0
        · rw [if_pos h1, if_pos h1, if_neg h1]
        · rw [if_neg h1, if_neg h1]
          by_cases h2 : most < 0 ∨ most < v
          · rw [if_pos h2, if_pos h2]; rfl
          · rw [if_neg h2, if_neg h2]
            by_cases h3 : follow = true ∧ (r.length : Int) - z < v
            · rw [if_pos h3, if_pos h3]; rfl
            · rw [if_neg h3, if_neg h3]; rfl
      show Code.wp _ _ _ (act 72 [(0, true, .pointer (some ⟨g, 0, none⟩)), (1, true, .int .i64 kd), (2, true, .int .i64 most), (3, true, .bool follow), (10, true, .int .u64 v), (11, true, .int .i64 z), (12, true, .int .i64 e1)] _) _
      refine wp_seq ?_
      refine wp_seq ?_
      refine wp_region_lit ?_
      refine s_look (look_move rfl rfl) ?_
      refine s_look (look_move rfl rfl) ?_
      refine s_look (look_nilCheck rfl rfl) ?_
      refine s_look (look_fieldAddr Try.underlying57 rfl (fun _ _ => rfl) rfl rfl) ?_
      refine s_look (look_fieldAddr Try.underlying55 rfl (fun _ _ => rfl) rfl rfl) ?_
      refine s_store1 szTry_32 rfl rfl rfl rfl hB rfl ?_
      intro u1 hk1 hT1
      replace hX := hX.kp hk1 (by omega)
      clear hB
      have hB := hT1
      refine s_nil ?_
      refine then_normal ?_
      refine wp_seq ?_
      refine region_s ?_
      refine q_look (look_move rfl rfl) ?_
      refine q_look (look_neq rfl rfl rfl rfl) ?_
      refine q_nil ?_
      rintro _ rfl
      refine then_normal ?_
      refine cond_split rfl (fun hc58 => ?_) (fun hc58 => ?_)
      · have h4 : ¬ e1 = 0 := nd_t hc58
        rw [if_neg h4] at hi
        refine wp_seq ?_
        refine region_s ?_
        refine q_look (look_assign rfl rfl) ?_
        refine q_nil ?_
        rintro _ rfl
        refine then_normal ?_
        refine wp_ret ?_
        refine then_ret ?_
        exact res1 Try.results39 rfl ⟨by rw [hi], hX, by rw [hi]; exact hB⟩
      · have h4 : e1 = 0 := nd_f hc58
        rw [if_pos h4] at hi
        have he : e = 0 := by
          by_cases h : e = 0
          · exact h
          · rw [if_pos h] at he1; omega
        obtain ⟨_, hz1, hz2, _⟩ := hok2 he
        have hvm : v ≤ most := by
          rw [if_neg (by omega)] at he1
          by_cases h : most < 0 ∨ most < v
          · rw [if_pos h] at he1; omega
          · omega
        refine wp_skip ?_
        refine then_normal ?_
        refine wp_seq ?_
        refine wp_region_lit ?_
        refine s_look (look_move rfl rfl) ?_
        refine s_look (look_move rfl rfl) ?_
        refine s_look (look_nilCheck rfl rfl) ?_
        refine s_look (look_fieldAddr Try.underlying57 rfl (fun _ _ => rfl) rfl rfl) ?_
        refine s_look (look_fieldAddr Try.underlying55 rfl (fun _ _ => rfl) rfl rfl) ?_
        refine s_look (look_load1 Try.underlying9 rfl rfl rfl (eqc (hB.cell rfl))) ?_
        refine s_look (look_move rfl rfl) ?_
        refine s_look (look_slice_str_l (lo := z.toNat) Try.underlying9 rfl rfl rfl rfl (by omega) (by omega)) ?_
        refine s_look (look_nilCheck rfl rfl) ?_
        refine s_look (look_fieldAddr Try.underlying57 rfl (fun _ _ => rfl) rfl rfl) ?_
        refine s_look (look_fieldAddr Try.underlying55 rfl (fun _ _ => rfl) rfl rfl) ?_
        refine s_store1 szTry_9 rfl rfl rfl rfl hB rfl ?_
        intro u2 hk2 hT2
        replace hX := hX.kp hk2 (by omega)
        clear hB
        have hB := hT2
        refine s_nil ?_
        refine then_normal ?_
        refine wp_seq ?_
        refine region_s ?_
        refine q_look (look_move rfl rfl) ?_
        refine q_look (look_conv_int Try.underlying3 Try.underlying52 rfl rfl (wrap_I64 (by unfold I64; omega))) ?_
        refine q_look (look_assign rfl rfl) ?_
        refine q_nil ?_
        rintro _ rfl
        refine then_normal ?_
        refine wp_ret ?_
        exact res1 Try.results39 rfl ⟨by rw [hi], hX, by rw [hi, ← h4]; exact hB⟩

theorem list_reads (g : Nat) (r : List UInt8) (e0 : Int) (most : Int) (w : World) (hB : Blk w g 57 (rcell r e0)) (hr0 : r.length ≤ 1000000) (hm : I64 most) :
    Calls Try.prog 21 #[.pointer (some ⟨g, 0, none⟩), .int .i64 most] w fun e w' => e = .returned (.int .i64 (countR r e0 4 most false).1) ∧ Mut g w w' ∧ Blk w' g 57 (rcell (r.drop (countR r e0 4 most false).2.1) (countR r e0 4 most false).2.2) := by
  refine calls_act Try.func21 rfl Try.ntmps21 rfl rfl ?_
  show Code.wp _ _ _ (act 8 [(0, true, .pointer (some ⟨g, 0, none⟩)), (1, true, .int .i64 most)] _) _
  have hX : Mut g w w := Mut.rfl' g w
  refine wp_seq ?_
  refine region_s ?_
  refine q_look (look_assign rfl rfl) ?_
  refine q_nil ?_
  rintro _ rfl
  refine then_normal ?_
  refine wp_seq ?_
  refine wp_region_lit ?_
  refine s_look (look_move rfl rfl) ?_
  refine s_look (look_move rfl rfl) ?_
  refine s_call (vs := [_, _, _, _]) enTry_39 ⟨⟨_, rfl, rfl⟩, ⟨_, rfl, rfl⟩, ⟨_, rfl, rfl⟩, ⟨_, rfl, rfl⟩, trivial⟩ (count_reads g r e0 4 most false _ hB hr0 (by omega) hm) ?_
  rintro _ u1 ⟨rfl, hm1, hT1⟩
  refine ⟨_, rfl, ?_⟩
  replace hX := hX.mut hm1 (by omega)
  clear hB
  have hB := hT1
  refine s_look (look_assign rfl rfl) ?_
  refine s_nil ?_
  refine then_normal ?_
  refine wp_ret ?_
  exact res1 Try.results21 rfl ⟨rfl, hX, hB⟩

theorem text_reads (g : Nat) (r : List UInt8) (e0 : Int) (most : Int) (w : World) (hB : Blk w g 57 (rcell r e0)) (hr0 : r.length ≤ 1000000) (hm : I64 most) :
    Calls Try.prog 26 #[.pointer (some ⟨g, 0, none⟩), .int .i64 most] w fun e w' => e = .returned (.string (ofL (textR r e0 most).1)) ∧ Mut g w w' ∧ Blk w' g 57 (rcell (r.drop (textR r e0 most).2.1) (textR r e0 most).2.2) := by
  refine calls_act Try.func26 rfl Try.ntmps26 rfl rfl ?_
  show Code.wp _ _ _ (act 31 [(0, true, .pointer (some ⟨g, 0, none⟩)), (1, true, .int .i64 most)] _) _
  have hX : Mut g w w := Mut.rfl' g w
  obtain ⟨n, c, e, hc⟩ : ∃ n c e, countR r e0 2 most true = (n, c, e) := ⟨_, _, _, rfl⟩
  have hcr : ∀ w, Blk w g 57 (rcell r e0) → Calls Try.prog 39 #[.pointer (some ⟨g, 0, none⟩), .int .i64 2, .int .i64 most, .bool true] w fun q w' => q = .returned (.int .i64 n) ∧ Mut g w w' ∧ Blk w' g 57 (rcell (r.drop c) e) := fun w h => by have := count_reads g r e0 2 most true w h hr0 (by omega) hm; rw [hc] at this; exact this
  obtain ⟨hn0, hnI, hc0, hcn, _⟩ := count_ok (by omega) hm hc
  replace hcn := hcn rfl
  have ht : textR r e0 most = ((r.drop c).take n.toNat, c + n.toNat, e) := by unfold textR; rw [hc]
  refine wp_seq ?_
  refine region_s ?_
  refine q_look (look_assign rfl rfl) ?_
  refine q_nil ?_
  rintro _ rfl
  refine then_normal ?_
  refine wp_seq ?_
  refine wp_region_lit ?_
  refine s_look (look_move rfl rfl) ?_
  refine s_look (look_move rfl rfl) ?_
  refine s_call (vs := [_, _, _, _]) enTry_39 ⟨⟨_, rfl, rfl⟩, ⟨_, rfl, rfl⟩, ⟨_, rfl, rfl⟩, ⟨_, rfl, rfl⟩, trivial⟩ (hcr _ hB) ?_
  rintro _ u1 ⟨rfl, hm1, hT1⟩
  refine ⟨_, rfl, ?_⟩
  replace hX := hX.mut hm1 (by omega)
  clear hB
  have hB := hT1
  refine s_look (look_assign rfl rfl) ?_
  refine s_nil ?_
  refine then_normal ?_
  refine wp_seq ?_
  refine wp_seq ?_
  refine region_s ?_
  refine q_look (look_move rfl rfl) ?_
  refine q_look (look_eql rfl rfl rfl rfl) ?_
  refine q_nil ?_
  rintro _ rfl
  refine then_normal ?_
  refine cond_split rfl (fun hc11 => ?_) (fun hc11 => ?_)
  · have h1 : n = 0 := nn_t hc11
    refine wp_seq ?_
    refine region_s ?_
    refine q_look (look_assign rfl rfl) ?_
    refine q_nil ?_
    rintro _ rfl
    refine then_normal ?_
    refine wp_ret ?_
    refine then_ret ?_
    exact res1 Try.results26 rfl ⟨by rw [ht, h1]; rfl, hX, by rw [ht, h1]; exact hB⟩
  · have h1 : ¬ n = 0 := nn_f hc11
    refine wp_skip ?_
    refine then_normal ?_
    refine wp_seq ?_
    refine region_s ?_
    refine q_look (look_move rfl rfl) ?_
    refine q_look (look_nilCheck rfl rfl) ?_
    refine q_look (look_fieldAddr Try.underlying57 rfl (fun _ _ => rfl) rfl rfl) ?_
    refine q_look (look_fieldAddr Try.underlying55 rfl (fun _ _ => rfl) rfl rfl) ?_
    refine q_look (look_load1 Try.underlying9 rfl rfl rfl (eqc (hB.cell rfl))) ?_
    refine q_look (look_move rfl rfl) ?_
    refine q_look (look_slice_str_h (hi := n.toNat) Try.underlying9 rfl rfl rfl rfl (by omega) (by rw [List.length_drop]; omega)) ?_
    refine q_look (look_assign rfl rfl) ?_
    refine q_nil ?_
    rintro _ rfl
    refine then_normal ?_
    refine wp_seq ?_
    refine wp_region_lit ?_
    refine s_look (look_move rfl rfl) ?_
    refine s_look (look_move rfl rfl) ?_
    refine s_look (look_nilCheck rfl rfl) ?_
    refine s_look (look_fieldAddr Try.underlying57 rfl (fun _ _ => rfl) rfl rfl) ?_
    refine s_look (look_fieldAddr Try.underlying55 rfl (fun _ _ => rfl) rfl rfl) ?_
    refine s_look (look_load1 Try.underlying9 rfl rfl rfl (eqc (hB.cell rfl))) ?_
    refine s_look (look_move rfl rfl) ?_
    refine s_look (look_slice_str_l (lo := n.toNat) Try.underlying9 rfl rfl rfl rfl (by omega) (by rw [List.length_drop]; omega)) ?_
    refine s_look (look_nilCheck rfl rfl) ?_
    refine s_look (look_fieldAddr Try.underlying57 rfl (fun _ _ => rfl) rfl rfl) ?_
    refine s_look (look_fieldAddr Try.underlying55 rfl (fun _ _ => rfl) rfl rfl) ?_
    refine s_store1 szTry_9 rfl rfl rfl rfl hB rfl ?_
    intro u2 hk2 hT2
    replace hX := hX.kp hk2 (by omega)
    clear hB
    have hB := hT2
    refine s_nil ?_
    refine then_normal ?_
    refine wp_seq ?_
    refine region_s ?_
    refine q_look (look_move rfl rfl) ?_
    refine q_look (look_assign rfl rfl) ?_
    refine q_nil ?_
    rintro _ rfl
    refine then_normal ?_
    refine wp_ret ?_
    exact res1 Try.results26 rfl ⟨by rw [ht], hX, by rw [ht, ← List.drop_drop]; exact hB⟩

theorem bool_reads (g : Nat) (r : List UInt8) (e0 : Int) (w : World) (hB : Blk w g 57 (rcell r e0)) :
    Calls Try.prog 27 #[.pointer (some ⟨g, 0, none⟩)] w fun e w' => e = .returned (.bool (boolR r e0).1) ∧ Mut g w w' ∧ Blk w' g 57 (rcell (r.drop (boolR r e0).2.1) (boolR r e0).2.2) := by
  refine calls_act Try.func27 rfl Try.ntmps27 rfl rfl ?_
  show Code.wp _ _ _ (act 45 [(0, true, .pointer (some ⟨g, 0, none⟩))] _) _
  have hX : Mut g w w := Mut.rfl' g w
  refine wp_seq ?_
  refine region_s ?_
  refine q_look (look_assign rfl rfl) ?_
  refine q_nil ?_
  rintro _ rfl
  refine then_normal ?_
  refine wp_seq ?_
  refine wp_seq ?_
  refine region_q ?_
  refine q_look (look_move rfl rfl) ?_
  refine q_call (vs := [_]) enTry_40 ⟨⟨_, rfl, rfl⟩, trivial⟩ (fun wc hw => cext hw (open_any g r e0 wc (hB.ext hw))) ?_
  refine q_look (look_not rfl rfl) ?_
  refine q_nil ?_
  intro w1 hw1
  replace hX := hX.comp hw1
  replace hB := hB.ext hw1
  refine then_normal ?_
  refine cond_split rfl (fun hc6 => ?_) (fun hc6 => ?_)
  · have h0 : ¬ e0 = 0 := nd_t hc6
    refine wp_seq ?_
    refine region_s ?_
    refine q_look (look_assign rfl rfl) ?_
    refine q_nil ?_
    rintro _ rfl
    refine then_normal ?_
    refine wp_ret ?_
    refine then_ret ?_
    have hi : boolR r e0 = (false, 0, e0) := by unfold boolR; rw [if_neg h0]
    exact res1 Try.results27 rfl ⟨by rw [hi], hX, by rw [hi]; exact hB⟩
  · have h0 : e0 = 0 := nd_f hc6
    subst h0
    refine wp_skip ?_
    refine then_normal ?_
    refine wp_seq ?_
    refine wp_seq ?_
    refine region_s ?_
    refine q_look (look_move rfl rfl) ?_
    refine q_look (look_nilCheck rfl rfl) ?_
    refine q_look (look_fieldAddr Try.underlying57 rfl (fun _ _ => rfl) rfl rfl) ?_
    refine q_look (look_fieldAddr Try.underlying55 rfl (fun _ _ => rfl) rfl rfl) ?_
    refine q_look (look_load1 Try.underlying9 rfl rfl rfl (eqc (hB.cell rfl))) ?_
    refine q_look (look_eql_str rfl rfl rfl rfl) ?_
    refine q_nil ?_
    rintro _ rfl
    refine then_normal ?_
    refine cond_split rfl (fun hc12 => ?_) (fun hc12 => ?_)
    · have hr : r = [] := ofL_inj.1 (nn_t hc12)
      subst hr
      refine wp_seq ?_
      refine wp_region_lit ?_
      refine s_look (look_move rfl rfl) ?_
      refine s_look (look_nilCheck rfl rfl) ?_
      refine s_look (look_fieldAddr Try.underlying57 rfl (fun _ _ => rfl) rfl rfl) ?_
      refine s_look (look_fieldAddr Try.underlying55 rfl (fun _ _ => rfl) rfl rfl) ?_
      refine s_store1 szTry_32 rfl rfl rfl rfl hB rfl ?_
      intro u1 hk1 hT1
      replace hX := hX.kp hk1 (by omega)
      clear hB
      have hB := hT1
      refine s_nil ?_
      refine then_normal ?_
      refine wp_seq ?_
      refine region_s ?_
      refine q_look (look_assign rfl rfl) ?_
      refine q_nil ?_
      rintro _ rfl
      refine then_normal ?_
      refine wp_ret ?_
      refine then_ret ?_
      exact res1 Try.results27 rfl ⟨rfl, hX, hB⟩
    · have hr : ¬ r = [] := fun h => nn_f hc12 (by rw [h]; rfl)
      obtain ⟨b, t, rfl⟩ : ∃ b t, r = b :: t := by cases r with
        | nil => exact absurd rfl hr
        | cons b t => exact ⟨b, t, rfl⟩
      have hb := b.toNat_lt
      have hbe : ∀ n : Nat, (b.toNat : Int) = (n : Int) → b = UInt8.ofNat n := fun n h => by rw [show n = b.toNat by omega]; simp
      refine wp_skip ?_
      refine then_normal ?_
      refine wp_seq ?_
      refine region_s ?_
      refine q_look (look_move rfl rfl) ?_
      refine q_look (look_nilCheck rfl rfl) ?_
      refine q_look (look_fieldAddr Try.underlying57 rfl (fun _ _ => rfl) rfl rfl) ?_
      refine q_look (look_fieldAddr Try.underlying55 rfl (fun _ _ => rfl) rfl rfl) ?_
      refine q_look (look_load1 Try.underlying9 rfl rfl rfl (eqc (hB.cell rfl))) ?_
      refine q_look (look_index_str (i := 0) Try.underlying9 rfl rfl rfl rfl rfl rfl) ?_
      refine q_look (look_assign rfl rfl) ?_
      refine q_nil ?_
      rintro _ rfl
      refine then_normal ?_
      refine wp_seq ?_
      refine wp_seq ?_
      refine region_s ?_
      refine q_look (look_move rfl rfl) ?_
      refine q_look (look_neq rfl rfl rfl rfl) ?_
      refine q_look (look_move rfl rfl) ?_
      refine q_lookg rfl rfl rfl (fun hq => look_move rfl rfl) ?_
      refine q_lookg rfl rfl rfl (fun hq => look_neq rfl hq rfl rfl) ?_
      refine q_look (look_and rfl rfl rfl rfl) ?_
      refine q_nil ?_
      rintro _ rfl
      refine then_normal ?_
      refine cond_split rfl (fun hc28 => ?_) (fun hc28 => ?_)
      · have h1 : ¬ b = 244 ∧ ¬ b = 245 := by rw [Bool.and_eq_true] at hc28; exact ⟨fun h => nd_t hc28.1 (by rw [h]; rfl), fun h => nd_t hc28.2 (by rw [h]; rfl)⟩
        refine wp_seq ?_
        refine wp_region_lit ?_
        refine s_look (look_move rfl rfl) ?_
        refine s_look (look_nilCheck rfl rfl) ?_
        refine s_look (look_fieldAddr Try.underlying57 rfl (fun _ _ => rfl) rfl rfl) ?_
        refine s_look (look_fieldAddr Try.underlying55 rfl (fun _ _ => rfl) rfl rfl) ?_
        refine s_store1 szTry_32 rfl rfl rfl rfl hB rfl ?_
        intro u2 hk2 hT2
        replace hX := hX.kp hk2 (by omega)
        clear hB
        have hB := hT2
        refine s_nil ?_
        refine then_normal ?_
        refine wp_seq ?_
        refine region_s ?_
        refine q_look (look_assign rfl rfl) ?_
        refine q_nil ?_
        rintro _ rfl
        refine then_normal ?_
        refine wp_ret ?_
        refine then_ret ?_
        have hi : boolR (b :: t) 0 = (false, 0, 5) := by unfold boolR; rw [if_pos rfl]; show (if b = 244 then (false, 1, 0) else if b = 245 then (true, 1, 0) else (false, 0, 5)) = ((false, 0, 5) : Bool × Nat × Int); rw [if_neg h1.1, if_neg h1.2]
        exact res1 Try.results27 rfl ⟨by rw [hi], hX, by rw [hi]; exact hB⟩
      · have h1 : b = 244 ∨ b = 245 := by rw [Bool.and_eq_false_iff] at hc28; rcases hc28 with h | h; exact .inl (hbe 244 (nd_f h)); exact .inr (hbe 245 (nd_f h))
        refine wp_skip ?_
        refine then_normal ?_
        refine wp_seq ?_
        refine wp_region_lit ?_
        refine s_look (look_move rfl rfl) ?_
        refine s_look (look_move rfl rfl) ?_
        refine s_look (look_nilCheck rfl rfl) ?_
        refine s_look (look_fieldAddr Try.underlying57 rfl (fun _ _ => rfl) rfl rfl) ?_
        refine s_look (look_fieldAddr Try.underlying55 rfl (fun _ _ => rfl) rfl rfl) ?_
        refine s_look (look_load1 Try.underlying9 rfl rfl rfl (eqc (hB.cell rfl))) ?_
        refine s_look (look_slice_str_l (lo := 1) Try.underlying9 rfl rfl rfl rfl rfl (by simp only [List.length_cons]; omega)) ?_
        refine s_look (look_nilCheck rfl rfl) ?_
        refine s_look (look_fieldAddr Try.underlying57 rfl (fun _ _ => rfl) rfl rfl) ?_
        refine s_look (look_fieldAddr Try.underlying55 rfl (fun _ _ => rfl) rfl rfl) ?_
        refine s_store1 szTry_9 rfl rfl rfl rfl hB rfl ?_
        intro u3 hk3 hT3
        replace hX := hX.kp hk3 (by omega)
        clear hB
        have hB := hT3
        refine s_nil ?_
        refine then_normal ?_
        refine wp_seq ?_
        refine region_s ?_
        refine q_look (look_move rfl rfl) ?_
        refine q_look (look_eql rfl rfl rfl rfl) ?_
        refine q_look (look_assign rfl rfl) ?_
        refine q_nil ?_
        rintro _ rfl
        refine then_normal ?_
        refine wp_ret ?_
        rcases h1 with rfl | rfl
        · exact res1 Try.results27 rfl ⟨rfl, hX, hB⟩
        · exact res1 Try.results27 rfl ⟨rfl, hX, hB⟩

theorem int_nil (low high : Int) (w : World)  :
    Calls Try.prog 22 #[.pointer none, .int .i64 low, .int .i64 high] w fun e w' => e = .returned (.int .i64 (0)) ∧ Ext w w' := by
  refine calls_act Try.func22 rfl Try.ntmps22 rfl rfl ?_
  show Code.wp _ _ _ (act 66 [(0, true, .pointer none), (1, true, .int .i64 low), (2, true, .int .i64 high)] _) _
  have hX : Ext w w := Ext.rfl' w
  refine wp_seq ?_
  refine region_s ?_
  refine q_look (look_assign rfl rfl) ?_
  refine q_nil ?_
  rintro _ rfl
  refine then_normal ?_
  refine wp_seq ?_
  refine wp_seq ?_
  refine region_q ?_
  refine q_look (look_move rfl rfl) ?_
  refine q_call (vs := [_]) enTry_40 ⟨⟨_, rfl, rfl⟩, trivial⟩ (fun wc hw => cext hw (open_nil wc)) ?_
  refine q_look (look_not rfl rfl) ?_
  refine q_nil ?_
  intro w1 hw1
  replace hX := hX.comp hw1
  refine then_normal ?_
  refine cond_true rfl rfl ?_
  refine wp_seq ?_
  refine region_s ?_
  refine q_look (look_assign rfl rfl) ?_
  refine q_nil ?_
  rintro _ rfl
  refine then_normal ?_
  refine wp_ret ?_
  refine then_ret ?_
  exact res1 Try.results22 rfl ⟨rfl, hX⟩

theorem count_nil (kd most : Int) (follow : Bool) (w : World)  :
    Calls Try.prog 39 #[.pointer none, .int .i64 kd, .int .i64 most, .bool follow] w fun e w' => e = .returned (.int .i64 (0)) ∧ Ext w w' := by
  refine calls_act Try.func39 rfl Try.ntmps39 rfl rfl ?_
  show Code.wp _ _ _ (act 72 [(0, true, .pointer none), (1, true, .int .i64 kd), (2, true, .int .i64 most), (3, true, .bool follow)] _) _
  have hX : Ext w w := Ext.rfl' w
  refine wp_seq ?_
  refine region_s ?_
  refine q_look (look_assign rfl rfl) ?_
  refine q_nil ?_
  rintro _ rfl
  refine then_normal ?_
  refine wp_seq ?_
  refine wp_seq ?_
  refine region_q ?_
  refine q_look (look_move rfl rfl) ?_
  refine q_call (vs := [_]) enTry_40 ⟨⟨_, rfl, rfl⟩, trivial⟩ (fun wc hw => cext hw (open_nil wc)) ?_
  refine q_look (look_not rfl rfl) ?_
  refine q_nil ?_
  intro w1 hw1
  replace hX := hX.comp hw1
  refine then_normal ?_
  refine cond_true rfl rfl ?_
  refine wp_seq ?_
  refine region_s ?_
  refine q_look (look_assign rfl rfl) ?_
  refine q_nil ?_
  rintro _ rfl
  refine then_normal ?_
  refine wp_ret ?_
  refine then_ret ?_
  exact res1 Try.results39 rfl ⟨rfl, hX⟩

theorem text_nil (most : Int) (w : World)  :
    Calls Try.prog 26 #[.pointer none, .int .i64 most] w fun e w' => e = .returned (.string (ofL ([]))) ∧ Ext w w' := by
  refine calls_act Try.func26 rfl Try.ntmps26 rfl rfl ?_
  show Code.wp _ _ _ (act 31 [(0, true, .pointer none), (1, true, .int .i64 most)] _) _
  have hX : Ext w w := Ext.rfl' w
  refine wp_seq ?_
  refine region_s ?_
  refine q_look (look_assign rfl rfl) ?_
  refine q_nil ?_
  rintro _ rfl
  refine then_normal ?_
  refine wp_seq ?_
  refine region_q ?_
  refine q_look (look_move rfl rfl) ?_
  refine q_look (look_move rfl rfl) ?_
  refine q_call (vs := [_, _, _, _]) enTry_39 ⟨⟨_, rfl, rfl⟩, ⟨_, rfl, rfl⟩, ⟨_, rfl, rfl⟩, ⟨_, rfl, rfl⟩, trivial⟩ (fun wc hw => cext hw (count_nil 2 most true wc)) ?_
  refine q_look (look_assign rfl rfl) ?_
  refine q_nil ?_
  intro w1 hw1
  replace hX := hX.comp hw1
  refine then_normal ?_
  refine wp_seq ?_
  refine wp_seq ?_
  refine region_s ?_
  refine q_look (look_move rfl rfl) ?_
  refine q_look (look_eql rfl rfl rfl rfl) ?_
  refine q_nil ?_
  rintro _ rfl
  refine then_normal ?_
  refine cond_true rfl rfl ?_
  refine wp_seq ?_
  refine region_s ?_
  refine q_look (look_assign rfl rfl) ?_
  refine q_nil ?_
  rintro _ rfl
  refine then_normal ?_
  refine wp_ret ?_
  refine then_ret ?_
  exact res1 Try.results26 rfl ⟨rfl, hX⟩

theorem bool_nil  (w : World)  :
    Calls Try.prog 27 #[.pointer none] w fun e w' => e = .returned (.bool (false)) ∧ Ext w w' := by
  refine calls_act Try.func27 rfl Try.ntmps27 rfl rfl ?_
  show Code.wp _ _ _ (act 45 [(0, true, .pointer none)] _) _
  have hX : Ext w w := Ext.rfl' w
  refine wp_seq ?_
  refine region_s ?_
  refine q_look (look_assign rfl rfl) ?_
  refine q_nil ?_
  rintro _ rfl
  refine then_normal ?_
  refine wp_seq ?_
  refine wp_seq ?_
  refine region_q ?_
  refine q_look (look_move rfl rfl) ?_
  refine q_call (vs := [_]) enTry_40 ⟨⟨_, rfl, rfl⟩, trivial⟩ (fun wc hw => cext hw (open_nil wc)) ?_
  refine q_look (look_not rfl rfl) ?_
  refine q_nil ?_
  intro w1 hw1
  replace hX := hX.comp hw1
  refine then_normal ?_
  refine cond_true rfl rfl ?_
  refine wp_seq ?_
  refine region_s ?_
  refine q_look (look_assign rfl rfl) ?_
  refine q_nil ?_
  rintro _ rfl
  refine then_normal ?_
  refine wp_ret ?_
  refine then_ret ?_
  exact res1 Try.results27 rfl ⟨rfl, hX⟩

theorem list_nil (most : Int) (w : World)  :
    Calls Try.prog 21 #[.pointer none, .int .i64 most] w fun e w' => e = .returned (.int .i64 (0)) ∧ Ext w w' := by
  refine calls_act Try.func21 rfl Try.ntmps21 rfl rfl ?_
  show Code.wp _ _ _ (act 8 [(0, true, .pointer none), (1, true, .int .i64 most)] _) _
  have hX : Ext w w := Ext.rfl' w
  refine wp_seq ?_
  refine region_s ?_
  refine q_look (look_assign rfl rfl) ?_
  refine q_nil ?_
  rintro _ rfl
  refine then_normal ?_
  refine wp_seq ?_
  refine region_q ?_
  refine q_look (look_move rfl rfl) ?_
  refine q_look (look_move rfl rfl) ?_
  refine q_call (vs := [_, _, _, _]) enTry_39 ⟨⟨_, rfl, rfl⟩, ⟨_, rfl, rfl⟩, ⟨_, rfl, rfl⟩, ⟨_, rfl, rfl⟩, trivial⟩ (fun wc hw => cext hw (count_nil 4 most false wc)) ?_
  refine q_look (look_assign rfl rfl) ?_
  refine q_nil ?_
  intro w1 hw1
  replace hX := hX.comp hw1
  refine then_normal ?_
  refine wp_ret ?_
  exact res1 Try.results21 rfl ⟨rfl, hX⟩

theorem left_nil  (w : World)  :
    Calls Try.prog 24 #[.pointer none] w fun e w' => e = .returned (.int .i64 (0)) ∧ Ext w w' := by
  refine calls_act Try.func24 rfl Try.ntmps24 rfl rfl ?_
  show Code.wp _ _ _ (act 11 [(0, true, .pointer none)] _) _
  have hX : Ext w w := Ext.rfl' w
  refine wp_seq ?_
  refine region_s ?_
  refine q_look (look_assign rfl rfl) ?_
  refine q_nil ?_
  rintro _ rfl
  refine then_normal ?_
  refine wp_seq ?_
  refine wp_seq ?_
  refine region_s ?_
  refine q_look (look_move rfl rfl) ?_
  refine q_look (look_eql_nil Try.underlying28 rfl rfl rfl rfl) ?_
  refine q_nil ?_
  rintro _ rfl
  refine then_normal ?_
  refine cond_true rfl rfl ?_
  refine wp_seq ?_
  refine region_s ?_
  refine q_look (look_assign rfl rfl) ?_
  refine q_nil ?_
  rintro _ rfl
  refine then_normal ?_
  refine wp_ret ?_
  refine then_ret ?_
  exact res1 Try.results24 rfl ⟨rfl, hX⟩

theorem err_nil  (w : World)  :
    Calls Try.prog 23 #[.pointer none] w fun e w' => e = .returned (.int .i64 (1)) ∧ Ext w w' := by
  refine calls_act Try.func23 rfl Try.ntmps23 rfl rfl ?_
  show Code.wp _ _ _ (act 10 [(0, true, .pointer none)] _) _
  have hX : Ext w w := Ext.rfl' w
  refine wp_seq ?_
  refine region_s ?_
  refine q_look (look_assign rfl rfl) ?_
  refine q_nil ?_
  rintro _ rfl
  refine then_normal ?_
  refine wp_seq ?_
  refine wp_seq ?_
  refine region_s ?_
  refine q_look (look_move rfl rfl) ?_
  refine q_look (look_eql_nil Try.underlying28 rfl rfl rfl rfl) ?_
  refine q_nil ?_
  rintro _ rfl
  refine then_normal ?_
  refine cond_true rfl rfl ?_
  refine wp_seq ?_
  refine region_s ?_
  refine q_look (look_assign rfl rfl) ?_
  refine q_nil ?_
  rintro _ rfl
  refine then_normal ?_
  refine wp_ret ?_
  refine then_ret ?_
  exact res1 Try.results23 rfl ⟨rfl, hX⟩

theorem end_nil  (w : World)  :
    Calls Try.prog 25 #[.pointer none] w fun e w' => e = .returned (.int .i64 (1)) ∧ Ext w w' := by
  refine calls_act Try.func25 rfl Try.ntmps25 rfl rfl ?_
  show Code.wp _ _ _ (act 14 [(0, true, .pointer none)] _) _
  have hX : Ext w w := Ext.rfl' w
  refine wp_seq ?_
  refine region_s ?_
  refine q_look (look_assign rfl rfl) ?_
  refine q_nil ?_
  rintro _ rfl
  refine then_normal ?_
  refine wp_seq ?_
  refine region_q ?_
  refine q_look (look_move rfl rfl) ?_
  refine q_call (vs := [_]) enTry_23 ⟨⟨_, rfl, rfl⟩, trivial⟩ (fun wc hw => cext hw (err_nil wc)) ?_
  refine q_look (look_assign rfl rfl) ?_
  refine q_nil ?_
  intro w1 hw1
  replace hX := hX.comp hw1
  refine then_normal ?_
  refine wp_seq ?_
  refine wp_seq ?_
  refine region_q ?_
  refine q_look (look_move rfl rfl) ?_
  refine q_look (look_eql rfl rfl rfl rfl) ?_
  refine q_look (look_move rfl rfl) ?_
  refine q_lookg rfl rfl rfl (fun hq => look_move rfl rfl) ?_
  refine q_callg (vs := [_]) rfl rfl rfl enTry_24 (fun hq => ⟨⟨_, rfl, hq⟩, trivial⟩) (fun hq wc hw => cext hw (left_nil wc)) ?_
  refine q_lookg rfl rfl rfl (fun hq => look_gtr rfl hq rfl rfl) ?_
  refine q_look (look_and rfl rfl rfl rfl) ?_
  refine q_nil ?_
  intro w2 hw2
  replace hX := hX.comp hw2
  refine then_normal ?_
  refine cond_false rfl rfl ?_
  refine wp_skip ?_
  refine then_normal ?_
  refine wp_seq ?_
  refine region_s ?_
  refine q_look (look_move rfl rfl) ?_
  refine q_look (look_assign rfl rfl) ?_
  refine q_nil ?_
  rintro _ rfl
  refine then_normal ?_
  refine wp_ret ?_
  exact res1 Try.results25 rfl ⟨rfl, hX⟩

end Go.Proofs.Ytcneinajeapbhaa
