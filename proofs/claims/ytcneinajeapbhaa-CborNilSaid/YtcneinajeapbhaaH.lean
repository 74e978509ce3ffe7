/- Chapter 05 (cbor): plain laws on heads: what was encoded is read again. -/
import Derived.Test.YtcneinajeapbhaaG
namespace Go.Proofs.Ytcneinajeapbhaa
open Go Go.RowKit Core
set_option linter.unusedVariables false
set_option linter.unusedSimpArgs false
attribute [local irreducible] wpQuiet wpList wpH wpT Code.wp Calls bodyPost act


def icell (x : Int) : List Value := [.int .i64 x]
def tcell (t : List UInt8) : List Value := [.string (ofL t)]
def bocell (b : Bool) : List Value := [.bool b]
structure Ac where
  d : Int
  lo : Int
  hi : Int
def acell (a : Ac) : List Value := [.int .i64 a.d, .int .i64 a.lo, .int .i64 a.hi]
theorem beval_bytes : ∀ (n : Nat) (v : Int), 0 ≤ v → v < ((256 ^ n : Nat) : Int) → beval (bytesP v n) = v
  | 0, v, h0, h1 => by
    have : v = 0 := by simp at h1; omega
    rw [this]; rfl
  | n + 1, v, h0, h1 => by
    have e : (((256 ^ (n + 1) : Nat)) : Int) = ((256 ^ n : Nat) : Int) * 256 := by rw [Nat.pow_succ, Int.natCast_mul]; rfl
    rw [e] at h1
    have ih := beval_bytes n (v / 256) (by omega) (Int.ediv_lt_of_lt_mul (by omega) h1)
    rw [bytesP, beval_snoc, ih, u8of_int]
    omega
theorem head_form {k v : Int} (hv : U64 v) : (v < 24 ∧ headP k v = [u8of (32 * k + v)]) ∨ ∃ z N : Nat, z ≤ 3 ∧ N = 2 ^ z ∧ ¬ v < 24 ∧ headP k v = u8of (32 * k + (24 + (z : Int))) :: bytesP v N ∧ v < ((256 ^ N : Nat) : Int) := by
  unfold U64 at hv
  unfold headP
  by_cases h1 : v < 24
  · rw [if_pos h1]; exact .inl ⟨h1, rfl⟩
  · rw [if_neg h1]
    right
    by_cases h2 : v ≤ 255
    · rw [if_pos h2]; exact ⟨0, 1, by omega, rfl, h1, rfl, by rw [show (256 ^ 1 : Nat) = 256 from rfl]; omega⟩
    · rw [if_neg h2]
      by_cases h3 : v ≤ 65535
      · rw [if_pos h3]; exact ⟨1, 2, by omega, rfl, h1, rfl, by rw [show (256 ^ 2 : Nat) = 65536 from rfl]; omega⟩
      · rw [if_neg h3]
        by_cases h4 : v ≤ 4294967295
        · rw [if_pos h4]; exact ⟨2, 4, by omega, rfl, h1, rfl, by rw [show (256 ^ 4 : Nat) = 4294967296 from rfl]; omega⟩
        · rw [if_neg h4]; exact ⟨3, 8, by omega, rfl, h1, rfl, by rw [show (256 ^ 8 : Nat) = 18446744073709551616 from rfl]; omega⟩
theorem first_byte {k f : Int} (hk : 0 ≤ k ∧ k ≤ 7) (hf : 0 ≤ f ∧ f < 32) : ((u8of (32 * k + f)).toNat : Int) / 32 = k ∧ ((u8of (32 * k + f)).toNat : Int) % 32 = f := by
  rw [u8of_int]; omega
theorem peek_head {k v one two : Int} (hk : 0 ≤ k ∧ k ≤ 7) (hv : U64 v) (h : k = one ∨ k = two) (rest : List UInt8) : peekP (headP k v ++ rest) one two = (k, v, ((headP k v).length : Int), 0) := by
  have hv2 := hv
  unfold U64 at hv2
  rcases head_form (k := k) hv with ⟨h1, e⟩ | ⟨z, N, hz, hN, h1, e, hb⟩
  · obtain ⟨f1, f2⟩ := first_byte hk (f := v) (by omega)
    rw [e]
    simp only [List.cons_append, List.nil_append, peekP]
    rw [f1, f2, if_neg (by omega), if_pos h1]
    rfl
  · obtain ⟨f1, f2⟩ := first_byte hk (f := 24 + (z : Int)) (by omega)
    have hn : 2 ^ ((24 + (z : Int)) - 24).toNat = N := by rw [show ((24 + (z : Int)) - 24).toNat = z by omega, hN]
    have ht : (bytesP v N ++ rest).take N = bytesP v N := by rw [List.take_append_of_le_length (by rw [bytes_len]; omega), List.take_of_length_le (by rw [bytes_len]; omega)]
    have hl : (headP k v).length = 1 + N := by rw [e, List.length_cons, bytes_len]; omega
    have ht2 : (u8of (32 * k + (24 + (z : Int))) :: (bytesP v N ++ rest)).take (1 + N) = headP k v := by rw [Nat.add_comm, List.take_succ_cons, ht, e]
    rw [hl]
    conv => lhs; rw [e]
    simp only [List.cons_append, peekP]
    rw [f1, f2, hn, ht, beval_bytes N v hv2.1 hb, if_neg (by omega), if_neg (by omega), if_neg (by simp only [List.length_cons, List.length_append, bytes_len]; omega), if_neg (fun h => h ht2.symm)]
    congr 3
theorem peek_cut {k v one two : Int} (hk : 0 ≤ k ∧ k ≤ 7) (hv : U64 v) (h : k = one ∨ k = two) {m : Nat} (hm : m < (headP k v).length) : peekP ((headP k v).take m) one two = (0, 0, 0, 3) := by
  have hv2 := hv
  unfold U64 at hv2
  cases m with
  | zero => rfl
  | succ m =>
    rcases head_form (k := k) hv with ⟨h1, e⟩ | ⟨z, N, hz, hN, h1, e, hb⟩
    · rw [e] at hm; simp at hm
    · obtain ⟨f1, f2⟩ := first_byte hk (f := 24 + (z : Int)) (by omega)
      have hn : 2 ^ ((24 + (z : Int)) - 24).toNat = N := by rw [show ((24 + (z : Int)) - 24).toNat = z by omega, hN]
      rw [e, List.length_cons, bytes_len] at hm
      rw [e, List.take_succ_cons]
      simp only [peekP]
      rw [f1, f2, hn, if_neg (by omega), if_neg (by omega), if_pos (by simp only [List.length_cons, List.length_take, bytes_len]; omega)]
theorem int_form {x : Int} (hx : I64 x) : ∃ k v, (k = 0 ∨ k = 1) ∧ U64 v ∧ v < 9223372036854775808 ∧ intP x = headP k v ∧ x = if k = 1 then -1 - v else v := by
  unfold I64 at hx
  by_cases h : x < 0
  · exact ⟨1, -1 - x, .inr rfl, by unfold U64; omega, by omega, by unfold intP; rw [if_pos h], by rw [if_pos rfl]; omega⟩
  · exact ⟨0, x, .inl rfl, by unfold U64; omega, by omega, by unfold intP; rw [if_neg h], by rw [if_neg (by omega)]⟩
theorem int_len (x : Int) : 1 ≤ (intP x).length ∧ (intP x).length ≤ 9 := by unfold intP; split <;> exact head_len _ _
theorem int_head {x low high : Int} (hx : I64 x) (hl : low ≤ x) (hh : x ≤ high) (rest : List UInt8) : intR (intP x ++ rest) 0 low high = (x, (intP x).length, 0) := by
  obtain ⟨k, v, hk, hv, hv3, e, e2⟩ := int_form hx
  unfold intR
  rw [if_pos rfl, e, peek_head (by omega) hv hk]
  simp only [intQ]
  rw [← e2, if_neg (fun h => h rfl), if_neg (by omega), if_neg (by omega)]
  rfl
theorem int_cut {x low high : Int} (hx : I64 x) {m : Nat} (hm : m < (intP x).length) : intR ((intP x).take m) 0 low high = (0, 0, 3) := by
  obtain ⟨k, v, hk, hv, hv3, e, e2⟩ := int_form hx
  rw [e] at hm ⊢
  unfold intR
  rw [if_pos rfl, peek_cut (by omega) hv hk hm]
  rfl
theorem count_head {kd v most : Int} (hk : 0 ≤ kd ∧ kd ≤ 7) (hv : U64 v) (hm : v ≤ most) {f : Bool} (rest : List UInt8) (hf : f = true → v ≤ (rest.length : Int)) : countR (headP kd v ++ rest) 0 kd most f = (v, (headP kd v).length, 0) := by
  have hv2 := hv
  unfold U64 at hv2
  unfold countR
  rw [if_pos rfl, peek_head hk hv (.inl rfl)]
  simp only [countQ]
  rw [if_neg (fun h => h rfl), if_neg (by omega), if_neg (fun h => by have := hf h.1; have := h.2; rw [List.length_append] at this; omega)]
  rfl
theorem count_cut {kd v most : Int} (hk : 0 ≤ kd ∧ kd ≤ 7) (hv : U64 v) {f : Bool} {m : Nat} (hm : m < (headP kd v).length) : countR ((headP kd v).take m) 0 kd most f = (0, 0, 3) := by
  unfold countR
  rw [if_pos rfl, peek_cut hk hv (.inl rfl) hm]
  rfl
theorem text_head {t : List UInt8} (ht : t.length ≤ 1000000) (rest : List UInt8) : textR (textP t ++ rest) 0 (t.length : Int) = (t, (textP t).length, 0) := by
  have hc : countR (textP t ++ rest) 0 2 (t.length : Int) true = ((t.length : Int), (headP 2 (t.length : Int)).length, 0) := by
    unfold textP
    rw [List.append_assoc]
    exact count_head (by omega) (by unfold U64; omega) (Int.le_refl _) _ (fun _ => by rw [List.length_append]; omega)
  unfold textR
  rw [hc]
  unfold textP
  simp only [List.append_assoc, List.drop_left, Int.toNat_natCast, List.take_left, List.length_append]
theorem bool_head (b : Bool) (rest : List UInt8) : boolR (boolP b ++ rest) 0 = (b, 1, 0) := by cases b <;> rfl
theorem flat_len {α : Type} (f : α → List UInt8) (n : Nat) : ∀ l : List α, (∀ x ∈ l, (f x).length ≤ n) → (l.flatMap f).length ≤ n * l.length
  | [], _ => by simp
  | x :: l, h => by
    have ih := flat_len f n l (fun y hy => h y (.tail _ hy))
    have := h x (.head _)
    rw [List.flatMap_cons, List.length_append, List.length_cons, Nat.mul_succ]
    omega
theorem flat_take {α : Type} (f : α → List UInt8) {l : List α} {i : Nat} {x : α} (hx : l[i]? = some x) : (l.take (i + 1)).flatMap f = (l.take i).flatMap f ++ f x := by rw [take_get hx]; simp
theorem flat_drop {α : Type} (f : α → List UInt8) {l : List α} {i : Nat} {x : α} (hx : l[i]? = some x) : (l.drop i).flatMap f = f x ++ (l.drop (i + 1)).flatMap f := by rw [drop_get hx, List.flatMap_cons]
theorem end_eq (more : List UInt8) : decide (endP more 0 = 0) = decide (ofL more = ⟨#[]⟩) := by
  cases more with
  | nil => rfl
  | cons b t =>
    have h : endP (b :: t) 0 = 4 := by unfold endP; rw [if_pos ⟨rfl, by simp⟩]
    have h2 : ¬ ofL (b :: t) = ⟨#[]⟩ := fun h => by have := ofL_inj (b := []) |>.1 h; cases this
    rw [h, decide_eq_false h2]; rfl
theorem mem_get {α : Type} {l : List α} {i : Nat} {x : α} (h : l[i]? = some x) : x ∈ l := List.mem_of_getElem? h
theorem listP_eq (n : Nat) : listP (n : Int) = headP 4 (n : Int) := by unfold listP; rw [if_neg (by omega)]
/-- What is left of an encoding that was cut. -/
def CutInv (Y rest : List UInt8) (e : Int) : Prop := e = 3 ∨ (e = 0 ∧ ∃ m, m < Y.length ∧ rest = Y.take m)
theorem cut_take {P Y : List UInt8} {m : Nat} (h : m < (P ++ Y).length) : (m < P.length ∧ (P ++ Y).take m = P.take m) ∨ (∃ j, m = P.length + j ∧ j < Y.length ∧ (P ++ Y).take m = P ++ Y.take j) := by
  by_cases h1 : m < P.length
  · exact .inl ⟨h1, List.take_append_of_le_length (by omega)⟩
  · obtain ⟨j, rfl⟩ : ∃ j, m = P.length + j := ⟨m - P.length, by omega⟩
    rw [List.length_append] at h
    exact .inr ⟨j, rfl, by omega, by rw [List.take_append, List.take_of_length_le (by omega)]; congr 2; omega⟩
theorem cut_int {x : Int} (hx : I64 x) {Y rest : List UInt8} {e : Int} (h : CutInv (intP x ++ Y) rest e) : CutInv Y (rest.drop (intR rest e (-9223372036854775808) 9223372036854775807).2.1) (intR rest e (-9223372036854775808) 9223372036854775807).2.2 := by
  have hx2 := hx
  unfold I64 at hx2
  rcases h with rfl | ⟨rfl, m, hm, rfl⟩
  · left; rfl
  · rcases cut_take hm with ⟨h1, e1⟩ | ⟨j, rfl, h2, e1⟩
    · rw [e1, int_cut hx h1]; left; rfl
    · rw [e1, int_head hx hx2.1 hx2.2]
      exact .inr ⟨rfl, j, h2, by simp only [List.drop_left]⟩
theorem cut_list {n : Nat} (hn : n ≤ 100) {Y : List UInt8} {m : Nat} (hm : m < (listP (n : Int) ++ Y).length) : ((countR ((listP (n : Int) ++ Y).take m) 0 4 100 false).1 = (n : Int) ∨ (countR ((listP (n : Int) ++ Y).take m) 0 4 100 false).1 = 0) ∧ CutInv Y (((listP (n : Int) ++ Y).take m).drop (countR ((listP (n : Int) ++ Y).take m) 0 4 100 false).2.1) (countR ((listP (n : Int) ++ Y).take m) 0 4 100 false).2.2 := by
  rw [listP_eq] at hm ⊢
  have hv : U64 (n : Int) := by unfold U64; omega
  rcases cut_take hm with ⟨h1, e1⟩ | ⟨j, rfl, h2, e1⟩
  · rw [e1, count_cut (by omega) hv h1]; exact ⟨.inr rfl, .inl rfl⟩
  · rw [e1, count_head (by omega) hv (by omega) _ (fun h => by cases h)]
    exact ⟨.inl rfl, .inr ⟨rfl, j, h2, by simp only [List.drop_left]⟩⟩

end Go.Proofs.Ytcneinajeapbhaa
