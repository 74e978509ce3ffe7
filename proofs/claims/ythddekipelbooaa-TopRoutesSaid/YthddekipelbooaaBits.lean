/- The calculus, more: shifts, bits, bytes, strings. No program in sight. -/
import Derived.Test.YthddekipelbooaaFork
import Derived.Laws.BytesArg
import Derived.Laws.BytesString
import Derived.Lib.ConvBytes
import Derived.Lib.AppendStr
namespace Go.Proofs.Core
open Go Go.RowKit Go.Deep Go.WideShapes
variable {ds : List Deferred}
set_option linter.unusedVariables false
set_option linter.unusedSimpArgs false

section
variable {P : Program} {C : World → Prop} {n : Nat} {l : List (Nat × Bool × Value)} {σ : Nat → Value}
  {d : Option Tmp} {ty : TypeId} {pos : String} {after : Array Edge} {g : Option (Nat × Bool)} {p q r : Bool}
theorem look_shl {t t' : TypeId} {x y : Operand} {k k' : IntKind} {m m' z : Int} (hx : ev n l x = some (p, .int k m)) (hp : p = true) (hy : ev n l y = some (q, .int k' m')) (hq : q = true) (h0 : 0 ≤ m') (hz : k.wrap (m * 2 ^ (min m'.toNat k.bits)) = z) :
    Look P C n l σ ⟨d, .binOp .shl t x y t', ty, pos, after, g⟩ (.int k z) := fun w _ => by
  have h1 : ¬ m' < 0 := by omega
  simp [execOp, eval_ev hx hp, eval_ev hy hq, eqGuard, binOp, Op.shift, h1, hz]
theorem look_shr {t t' : TypeId} {x y : Operand} {k k' : IntKind} {m m' z : Int} (hx : ev n l x = some (p, .int k m)) (hp : p = true) (hy : ev n l y = some (q, .int k' m')) (hq : q = true) (h0 : 0 ≤ m') (hz : m.fdiv (2 ^ (min m'.toNat k.bits)) = z) :
    Look P C n l σ ⟨d, .binOp .shr t x y t', ty, pos, after, g⟩ (.int k z) := fun w _ => by
  have h1 : ¬ m' < 0 := by omega
  simp [execOp, eval_ev hx hp, eval_ev hy hq, eqGuard, binOp, Op.shift, h1, hz]
theorem look_or_ {t t' : TypeId} {x y : Operand} {k : IntKind} {m m' z : Int} (hx : ev n l x = some (p, .int k m)) (hp : p = true) (hy : ev n l y = some (q, .int k m')) (hq : q = true) (hz : k.wrap (((m % 2 ^ k.bits).toNat ||| (m' % 2 ^ k.bits).toNat : Nat) : Int) = z) :
    Look P C n l σ ⟨d, .binOp .or t x y t', ty, pos, after, g⟩ (.int k z) := fun w _ => by
  simp only [execOp, eval_ev hx hp, eval_ev hy hq, eqGuard, binOp]
  simp [Op.intBits, hz]
theorem look_and_ {t t' : TypeId} {x y : Operand} {k : IntKind} {m m' z : Int} (hx : ev n l x = some (p, .int k m)) (hp : p = true) (hy : ev n l y = some (q, .int k m')) (hq : q = true) (hz : k.wrap (((m % 2 ^ k.bits).toNat &&& (m' % 2 ^ k.bits).toNat : Nat) : Int) = z) :
    Look P C n l σ ⟨d, .binOp .and t x y t', ty, pos, after, g⟩ (.int k z) := fun w _ => by
  simp only [execOp, eval_ev hx hp, eval_ev hy hq, eqGuard, binOp]
  simp [Op.intBits, hz]
theorem look_unxor {t : TypeId} {x : Operand} {m : Int} (hx : ev n l x = some (p, .int .i64 m)) (hp : p = true) (hm : I64 m) :
    Look P C n l σ ⟨d, .unOp .xor t x, ty, pos, after, g⟩ (.int .i64 (-1 - m)) := fun w _ => by
  have h1 : IntKind.i64.wrap ((BitVec.ofInt 64 (-1) ^^^ BitVec.ofInt 64 m).toNat : Int) = -1 - m := by
    have e : (BitVec.ofInt 64 (-1) ^^^ BitVec.ofInt 64 m) = ~~~ (BitVec.ofInt 64 m) := by
      rw [show BitVec.ofInt 64 (-1) = BitVec.allOnes 64 by decide, BitVec.allOnes_xor]
    rw [e, BitVec.toNat_not, BitVec.toNat_ofInt]
    have hm' := hm
    unfold I64 at hm'
    have h64 : ((2 ^ 64 : Nat) : Int) = 18446744073709551616 := by decide
    have hb : 0 ≤ m % ((2 ^ 64 : Nat) : Int) ∧ m % ((2 ^ 64 : Nat) : Int) < 18446744073709551616 := by rw [h64]; omega
    have e2 : ((2 ^ 64 - 1 - (m % ((2 ^ 64 : Nat) : Int)).toNat : Nat) : Int) = 18446744073709551615 - m % 18446744073709551616 := by rw [h64] at *; omega
    rw [e2]
    simp only [IntKind.wrap, IntKind.signed, IntKind.bits]
    simp
    omega
  have h2 : (Op.intBits .xor .i64 (-1) m).run P w = .ok (.int .i64 (-1 - m)) w := by
    rw [show Op.intBits .xor .i64 (-1) m = pure (.int .i64 (IntKind.i64.wrap ((BitVec.ofInt 64 (-1) ^^^ BitVec.ofInt 64 m).toNat : Int))) from rfl, h1]; simp
  simp only [execOp, eval_ev hx hp]
  simp [Op.unary, IntKind.signed, h2]
theorem look_addz {t t' : TypeId} {x y : Operand} {k : IntKind} {m m' z : Int} (hx : ev n l x = some (p, .int k m)) (hp : p = true) (hy : ev n l y = some (q, .int k m')) (hq : q = true) (hz : k.wrap (m + m') = z) :
    Look P C n l σ ⟨d, .binOp .add t x y t', ty, pos, after, g⟩ (.int k z) := (look_addw hx hp hy hq).as (by rw [hz])
theorem look_subz {t t' : TypeId} {x y : Operand} {k : IntKind} {m m' z : Int} (hx : ev n l x = some (p, .int k m)) (hp : p = true) (hy : ev n l y = some (q, .int k m')) (hq : q = true) (hz : k.wrap (m - m') = z) :
    Look P C n l σ ⟨d, .binOp .sub t x y t', ty, pos, after, g⟩ (.int k z) := (look_subw hx hp hy hq).as (by rw [hz])
theorem look_mulz {t t' : TypeId} {x y : Operand} {k : IntKind} {m m' z : Int} (hx : ev n l x = some (p, .int k m)) (hp : p = true) (hy : ev n l y = some (q, .int k m')) (hq : q = true) (hz : k.wrap (m * m') = z) :
    Look P C n l σ ⟨d, .binOp .mul t x y t', ty, pos, after, g⟩ (.int k z) := (look_mulw hx hp hy hq).as (by rw [hz])
theorem look_quo_k {t t' : TypeId} {x y : Operand} {k : IntKind} {m m' : Int} (hx : ev n l x = some (p, .int k m)) (hp : p = true) (hy : ev n l y = some (q, .int k m')) (hq : q = true) (h0 : 0 ≤ m) (h1 : 1 ≤ m') (hz : k.wrap (m / m') = m / m') :
    Look P C n l σ ⟨d, .binOp .quo t x y t', ty, pos, after, g⟩ (.int k (m / m')) := fun w _ => by
  have hne : ¬ m' = 0 := by omega
  simp [execOp, eval_ev hx hp, eval_ev hy hq, eqGuard, binOp, Op.intDiv, hne, Int.tdiv_eq_ediv_of_nonneg h0, hz]

theorem look_eql_nil {t t' e : TypeId} {x y : Operand} {a : Option Addr} (ht : P.underlying t = some (.pointer e)) (hx : ev n l x = some (p, .pointer a)) (hp : p = true) (hy : ev n l y = some (q, .pointer none)) (hq : q = true) :
    Look P C n l σ ⟨d, .binOp .eql t x y t', ty, pos, after, g⟩ (.bool a.isNone) := fun w _ => by
  have h1 : (Op.equal t (.pointer a) (.pointer none)).run P w = .ok a.isNone w := by
    unfold Op.equal Op.maxDepth
    rw [show (10000 : Nat) = 9999 + 1 from rfl, Op.equalIn]
    cases a <;> simp [run_underlying ht]
  simp only [execOp, eval_ev hx hp, eval_ev hy hq, eqGuard, binOp]
  simp [h1]
theorem look_neq_nil {t t' e : TypeId} {x y : Operand} {a : Option Addr} (ht : P.underlying t = some (.pointer e)) (hx : ev n l x = some (p, .pointer a)) (hp : p = true) (hy : ev n l y = some (q, .pointer none)) (hq : q = true) :
    Look P C n l σ ⟨d, .binOp .neq t x y t', ty, pos, after, g⟩ (.bool !a.isNone) := fun w _ => by
  have h1 : (Op.equal t (.pointer a) (.pointer none)).run P w = .ok a.isNone w := by
    unfold Op.equal Op.maxDepth
    rw [show (10000 : Nat) = 9999 + 1 from rfl, Op.equalIn]
    cases a <;> simp [run_underlying ht]
  simp only [execOp, eval_ev hx hp, eval_ev hy hq, eqGuard, binOp]
  simp [h1]

/-! ### Strings as lists of bytes -/
def ofL (l : List UInt8) : ByteArray := ⟨l.toArray⟩
theorem ofL_data (s : ByteArray) : ofL s.data.toList = s := by cases s; simp [ofL]
theorem ofL_size (l : List UInt8) : (ofL l).size = l.length := by simp [ofL, ByteArray.size]
theorem ofL_inj {a b : List UInt8} : ofL a = ofL b ↔ a = b := ⟨fun h => by have := congrArg (fun s => s.data.toList) h; simpa [ofL] using this, fun h => by rw [h]⟩
theorem ofL_append (a b : List UInt8) : ofL a ++ ofL b = ofL (a ++ b) := by
  apply bytes_inj
  simp [ofL, ByteArray.append_eq, ByteArray.data_append]
theorem look_concat {t t' : TypeId} {x y : Operand} {a b : List UInt8} (hx : ev n l x = some (p, .string (ofL a))) (hp : p = true) (hy : ev n l y = some (q, .string (ofL b))) (hq : q = true) (hs : a.length + b.length ≤ 9223372036854775807) :
    Look P C n l σ ⟨d, .binOp .add t x y t', ty, pos, after, g⟩ (.string (ofL (a ++ b))) := fun w _ => by
  have h1 : (Op.stringOp .add (ofL a) (ofL b)).run P w = .ok (.string (ofL (a ++ b))) w := by
    have hn : ¬ (((ofL a).size + (ofL b).size : Nat) : Int) > IntKind.i64.max := by
      rw [ofL_size, ofL_size]
      have : IntKind.i64.max = 9223372036854775807 := by decide
      omega
    simp only [Op.stringOp, if_neg hn, ofL_append, Sem.run_pure]
  simp only [execOp, eval_ev hx hp, eval_ev hy hq, eqGuard, binOp]
  simp [h1]
theorem look_index_str {t : TypeId} {x y : Operand} {a : List UInt8} {k : IntKind} {m : Int} {i : Nat} {b : UInt8} (ht : P.underlying t = some .string) (hx : ev n l x = some (p, .string (ofL a))) (hp : p = true) (hy : ev n l y = some (q, .int k m)) (hq : q = true) (hm : m = (i : Int)) (hb : a[i]? = some b) :
    Look P C n l σ ⟨d, .index t x y, ty, pos, after, g⟩ (.int .u8 b.toNat) := fun w _ => by
  subst hm
  have h1 : (ofL a)[i]? = some b := by
    obtain ⟨hlt, rfl⟩ := List.getElem?_eq_some_iff.1 hb
    have hs : i < (ofL a).size := by rw [ofL_size]; exact hlt
    rw [getElem?_pos (ofL a) i hs]
    rfl
  simp [execOp, Instr.index, run_underlying ht, eval_ev hx hp, eval_ev hy hq, asIntOf, h1]
theorem ofL_extract (a : List UInt8) (lo hi : Nat) : (ofL a).extract lo hi = ofL ((a.take hi).drop lo) := by
  apply bytes_inj
  simp [ofL, ByteArray.data_extract, List.drop_take]
theorem look_slice_str_l {t : TypeId} {x h : Operand} {a : List UInt8} {k : IntKind} {m : Int} {lo : Nat} (ht : P.underlying t = some .string) (hx : ev n l x = some (p, .string (ofL a))) (hp : p = true) (hh : ev n l h = some (q, .int k m)) (hq : q = true) (hm : m = (lo : Int)) (hle : lo ≤ a.length) :
    Look P C n l σ ⟨d, .slice t x (some h) none none, ty, pos, after, g⟩ (.string (ofL (a.drop lo))) := fun w _ => by
  subst hm
  have e : (ofL a).extract lo (ofL a).size = ofL (a.drop lo) := by rw [ofL_extract, ofL_size, List.take_length]
  have hle' : (lo : Int) ≤ ((ofL a).size : Int) := by rw [ofL_size]; omega
  simp [execOp, Instr.sliceAt, Instr.slice, run_underlying ht, eval_ev hx hp, eval_ev hh hq, Instr.sliceBounds, run_sliceBound, hle', e]
theorem look_slice_str_h {t : TypeId} {x h : Operand} {a : List UInt8} {k : IntKind} {m : Int} {hi : Nat} (ht : P.underlying t = some .string) (hx : ev n l x = some (p, .string (ofL a))) (hp : p = true) (hh : ev n l h = some (q, .int k m)) (hq : q = true) (hm : m = (hi : Int)) (hle : hi ≤ a.length) :
    Look P C n l σ ⟨d, .slice t x none (some h) none, ty, pos, after, g⟩ (.string (ofL (a.take hi))) := fun w _ => by
  subst hm
  have e : (ofL a).extract 0 hi = ofL (a.take hi) := by rw [ofL_extract]; rfl
  have hle' : (hi : Int) ≤ ((ofL a).size : Int) := by rw [ofL_size]; omega
  simp [execOp, Instr.sliceAt, Instr.slice, run_underlying ht, eval_ev hx hp, eval_ev hh hq, Instr.sliceBounds, run_sliceBound, hle', e]
theorem look_slice_str_lh {t : TypeId} {x h h' : Operand} {a : List UInt8} {k k' : IntKind} {m m' : Int} {lo hi : Nat} (ht : P.underlying t = some .string) (hx : ev n l x = some (p, .string (ofL a))) (hp : p = true) (hh : ev n l h = some (q, .int k m)) (hq : q = true) (hh' : ev n l h' = some (r, .int k' m')) (hr : r = true) (hm : m = (lo : Int)) (hm' : m' = (hi : Int)) (hle : lo ≤ hi) (hle2 : hi ≤ a.length) :
    Look P C n l σ ⟨d, .slice t x (some h) (some h') none, ty, pos, after, g⟩ (.string (ofL ((a.take hi).drop lo))) := fun w _ => by
  subst hm
  subst hm'
  have h1 : (lo : Int) ≤ (hi : Int) := by omega
  have h2 : (hi : Int) ≤ ((ofL a).size : Int) := by rw [ofL_size]; omega
  simp [execOp, Instr.sliceAt, Instr.slice, run_underlying ht, eval_ev hx hp, eval_ev hh hq, eval_ev hh' hr, Instr.sliceBounds, run_sliceBound, h1, h2, ofL_extract]

/-- A row of bytes. -/
def bcell (b : UInt8) : List Value := [.int .u8 b.toNat]
theorem hce_b : ∀ x, (bcell x).length = 1 := fun _ => rfl
theorem oneB8 (x : UInt8) : ∀ u ∈ bcell x, u.oneCell' = true := by simp [bcell, Value.oneCell']
theorem look_bytes_str {t t' e : TypeId} {x : Operand} {A : Option Addr} {bs : List UInt8} {cap : Nat} (ht : P.underlying t = some (.slice e)) (he : P.underlying e = some (.int .u8)) (ht' : P.underlying t' = some .string)
    (hx : ev n l x = some (p, .slice A bs.length cap)) (hp : p = true) (hn : A = none → cap = 0) (hS : ∀ w, C w → Sl bcell 1 w A bs) :
    Look P C n l σ ⟨d, .convert t t' x, ty, pos, after, g⟩ (.string (ofL bs)) := fun w hw => by
  have hc : (convert t t' (.slice A bs.length cap)).run P w = .ok (.string (ofL bs)) w := by
    rcases hS w hw with rfl | ⟨b, o, rfl, h2⟩
    · show _ = Result.ok (Value.string ByteArray.empty) w
      rw [List.length_nil, run_convert_bytes_string w t t' e _ 0 cap ht he ht']
      cases A <;> simp [Conv.bytesToString, loadCells]
      all_goals rfl
    · have := run_convert_bytes_arg (P := P) w t e ht he b o bs.length cap (bs.map fun c => (c.toNat : Int)) (by simp) (fun i hi => by
        have h3 := h2 i bs[i] (List.getElem?_eq_getElem hi) 0 _ rfl
        rw [Nat.mul_one, Nat.add_zero] at h3
        rw [h3]; simp [List.getD, hi]) t' ht'
      rw [this]
      congr 2
      apply bytes_inj
      rw [strOfNums_data]
      simp only [ofL, List.map_map]
      conv => rhs; rw [← List.map_id bs]
      refine List.map_congr_left fun c _ => ?_
      simp
  simp [execOp, eval_ev hx hp, hc]
end
theorem res4 {P : Program} {fn : Func} {R : Ending → World → Prop} {n : Nat} {l : List (Nat × Bool × Value)} {σ : Nat → Value} {w : World} {a b c d : Nat} {va vb vc vd : Value}
    (hr : fn.results = #[.tmp a, .tmp b, .tmp c, .tmp d]) (h1 : ev n l (.tmp a) = some (true, va)) (h2 : ev n l (.tmp b) = some (true, vb)) (h3 : ev n l (.tmp c) = some (true, vc)) (h4 : ev n l (.tmp d) = some (true, vd))
    (h : R (.returned (.tuple #[va, vb, vc, vd])) w) : bodyPost P fn R .ret (act (ds := []) n l σ) w := by
  refine bodyPost_ret (v := .tuple #[va, vb, vc, vd]) ?_ rfl h
  have e1 := eval_ev (ds := []) (σ := σ) (x := .tmp a) h1 rfl
  have e2 := eval_ev (ds := []) (σ := σ) (x := .tmp b) h2 rfl
  have e3 := eval_ev (ds := []) (σ := σ) (x := .tmp c) h3 rfl
  have e4 := eval_ev (ds := []) (σ := σ) (x := .tmp d) h4 rfl
  simp only [Act.eval] at e1 e2 e3 e4
  rw [Array.getD_eq_getD_getElem?] at e1 e2 e3 e4
  simp [results, hr, e1, e2, e3, e4]

/-! ### Numbers as bytes -/
def u8of (m : Int) : UInt8 := UInt8.ofNat (m % 256).toNat
theorem u8of_int (m : Int) : ((u8of m).toNat : Int) = m % 256 := by
  unfold u8of
  rw [UInt8.toNat_ofNat', Nat.mod_eq_of_lt (by omega)]
  omega
theorem wrap_u8 (m : Int) : IntKind.u8.wrap m = ((u8of m).toNat : Int) := by
  rw [u8of_int]
  simp only [IntKind.wrap, IntKind.signed, IntKind.bits]
  simp
theorem u8of_u8 (b : UInt8) : u8of (b.toNat : Int) = b := by
  unfold u8of
  have := b.toNat_lt
  rw [show (((b.toNat : Int) % 256).toNat) = b.toNat by omega]
  simp
theorem wrap_u64 (m : Int) : IntKind.u64.wrap m = m % 18446744073709551616 := by
  simp only [IntKind.wrap, IntKind.signed, IntKind.bits]
  simp
theorem wrap_u64_in {m : Int} (h0 : 0 ≤ m) (h1 : m < 18446744073709551616) : IntKind.u64.wrap m = m := by rw [wrap_u64]; omega
theorem wrap_i64_in {m : Int} (h : I64 m) : IntKind.i64.wrap m = m := wrap_I64 h
/-- 'or' of two numbers that share no bit: their sum. -/
theorem or_sum {a b : Int} (c i B : Nat) (ha : a = ((2 ^ i * c : Nat) : Int)) (h0 : 0 ≤ b) (hb : b < ((2 ^ i : Nat) : Int)) (hB : a + b < ((2 ^ B : Nat) : Int)) :
    (((a % 2 ^ B).toNat ||| (b % 2 ^ B).toNat : Nat) : Int) = a + b := by
  have hB' : ((2 : Int) ^ B) = ((2 ^ B : Nat) : Int) := by simp
  have ha0 : 0 ≤ a := by rw [ha]; exact Int.natCast_nonneg _
  have e1 : (a % 2 ^ B).toNat = 2 ^ i * c := by
    rw [hB', Int.emod_eq_of_lt ha0 (by omega), ha, Int.toNat_natCast]
  have e2 : (b % 2 ^ B).toNat = b.toNat := by rw [hB', Int.emod_eq_of_lt h0 (by omega)]
  rw [e1, e2, ← Nat.two_pow_add_eq_or_of_lt (by omega)]
  omega
theorem and_low {b : Int} (i B : Nat) (h0 : 0 ≤ b) (hB : b < ((2 ^ B : Nat) : Int)) (hi : i ≤ B) : (((b % 2 ^ B).toNat &&& ((((2 ^ i : Nat) : Int) - 1) % 2 ^ B).toNat : Nat) : Int) = b % ((2 ^ i : Nat) : Int) := by
  have hB' : ((2 : Int) ^ B) = ((2 ^ B : Nat) : Int) := by simp
  have hp : 2 ^ i ≤ 2 ^ B := Nat.pow_le_pow_right (by omega) hi
  have hp0 : 0 < 2 ^ i := Nat.two_pow_pos i
  rw [hB', Int.emod_eq_of_lt h0 hB, Int.emod_eq_of_lt (by omega) (by omega)]
  have : ((((2 ^ i : Nat) : Int) - 1)).toNat = 2 ^ i - 1 := by omega
  rw [this, Nat.and_two_pow_sub_one_eq_mod]
  rw [Int.natCast_emod, Int.toNat_of_nonneg h0]

section
variable {P : Program} {ops : Array Oper} {Q : Exit → Act → World → Prop} {n : Nat} {l : List (Nat × Bool × Value)} {σ : Nat → Value} {rest : List Oper} {w : World}
  {d : Tmp} {op : Op} {ty : TypeId} {pos : String} {after : Array Edge}
/-- '[]byte(s)': a new row that reads as the string. -/
theorem s_str_bytes {t t' e : TypeId} {x : Operand} {a : List UInt8} (ht : P.underlying t = some .string) (ht' : P.underlying t' = some (.slice e)) (he : P.underlying e = some (.int .u8)) (hx : ev n l x = some (true, .string (ofL a)))
    (next : ∀ b cap w', Ext w w' → Sl bcell 1 w' (some ⟨b, 0, none⟩) a → wpList P ops Q rest (act (ds := ds) n ((d, true, .slice (some ⟨b, 0, none⟩) a.length cap) :: l) σ) w') :
    wpList P ops Q (⟨some d, .convert t t' x, ty, pos, after, none⟩ :: rest) (act (ds := ds) n l σ) w := by
  have hr := Lib.run_convert_string_bytes (P := P) w t t' e (ofL a) ht ht' he
  rw [ofL_size] at hr
  refine s_val (w' := Lib.bytesWorld w e (ofL a)) ?_ (next w.heap.size (grownCap w a.length 0 e) _ ?_ ?_)
  · simp [execOp, eval_ev hx rfl, hr]
  · exact ⟨rfl, rfl, rfl, by rw [Lib.bytesWorld_size]; omega, fun k hk => Lib.bytesWorld_at_old w e (ofL a) k hk⟩
  · refine .inr ⟨w.heap.size, 0, rfl, fun i c hc j v hv => ?_⟩
    obtain ⟨hlt, rfl⟩ := List.getElem?_eq_some_iff.1 hc
    have hj : j = 0 := by
      have := (List.getElem?_eq_some_iff.1 hv).1
      simp [bcell] at this; omega
    subst hj
    obtain rfl : Value.int .u8 (a[i].toNat : Int) = v := by simpa [bcell] using hv
    rw [Nat.zero_add, Nat.mul_one, Nat.add_zero, Lib.bytesWorld_cell w e (ofL a) i (by rw [ofL_size]; exact hlt)]
    simp [ofL, List.getD, hlt]
theorem flat_bcell (a : List UInt8) : a.flatMap bcell = a.map fun b => Value.int .u8 b.toNat := by
  induction a with
  | nil => rfl
  | cons x r ih => rw [List.flatMap_cons, ih]; rfl
/-- 'append(b, s...)', s a string. -/
theorem s_append_str {s x : Operand} {t u e : TypeId} {v : Value} {base : Nat} {xs a : List UInt8} (ht : P.underlying t = some (.slice e)) (hu : P.underlying u = some .string) (hi' : (P.info? e).map (fun i => (i.zero, i.size, i.bytes)) = some (some (.int .u8 0), 1, 1))
    (hs : ev n l s = some (true, v)) (hown : Own bcell e 1 base w v xs) (hx : ev n l x = some (true, .string (ofL a))) (hb : xs.length + a.length ≤ 140737488355328) (hbase : base ≤ w.heap.size)
    (next : ∀ v' w', Own bcell e 1 base w' v' (xs ++ a) → w.grownBy w' v.ownBlock → wpList P ops Q rest (act (ds := ds) n ((d, true, v') :: l) σ) w') :
    wpList P ops Q (⟨some d, .call { callee := .builtin .append, args := #[s, x], argTypes := #[t, u] }, ty, pos, after, none⟩ :: rest) (act (ds := ds) n l σ) w := by
  obtain ⟨i, hi, hzz⟩ := info_of hi'
  simp only [Prod.mk.injEq] at hzz
  obtain ⟨v', w', hr, h1, h2, _⟩ := Go.Lib.run_append_own_string (P := P) w base t u ty e i ht hu hi hzz.1 hzz.2.1 hzz.2.2 v xs.length (xs.flatMap bcell) hown (ofL a) (by rw [ofL_size, maxLen_is]; omega) (by rw [ofL_size]; omega) hbase
  refine s_val (v := v') (w' := w') ?_ (next v' w' ?_ h2)
  · simp only [execOp, resolve, invoke, builtin, Sem.run_bind, Sem.run_pure, Result.andThen_ok, List.map_toArray, List.map_cons, List.map_nil, eval_ev hs rfl, eval_ev hx rfl, hr]
  · unfold Own
    rw [List.length_append, List.flatMap_append]
    rw [ofL_size] at h1
    have e : Go.Lib.strCells (ofL a) = a.flatMap bcell := by rw [flat_bcell]; rfl
    rw [← e]; exact h1
end
end Go.Proofs.Core
