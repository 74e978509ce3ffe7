/- The calculus, more: rows that the call has made whole; a store into a row; a queue (a row whose front is cut off). No program in sight. -/
import Derived.Test.YthddekipelbooaaMaps
import Derived.OwnWalk
import Derived.Laws.MakeOwn
namespace Go.Proofs.Core
open Go Go.RowKit Go.Deep Go.WideShapes
variable {ds : List Deferred}
set_option linter.unusedVariables false
set_option linter.unusedSimpArgs false
set_option linter.unusedSectionVars false
section
variable {P : Program} {ops : Array Oper} {Q : Exit → Act → World → Prop} {n : Nat} {l : List (Nat × Bool × Value)} {σ : Nat → Value} {rest : List Oper} {w : World}
  {d : Tmp} {op : Op} {ty : TypeId} {pos : String} {after : Array Edge}
theorem flat_rep {α : Type} {ce : α → List Value} {z : Value} {x : α} (h : ce x = [z]) : ∀ m : Nat, (List.replicate m x).flatMap ce = List.replicate m z
  | 0 => rfl
  | m + 1 => by rw [List.replicate_succ, List.flatMap_cons, flat_rep h m, h]; rfl
/-- 'make([]T, m)' at elements of one cell. -/
theorem s_make {α : Type} {ce : α → List Value} {t e : TypeId} {x y : Operand} {z : Value} {bytes m : Nat} {zx : α} {kx ky : IntKind} {mx my : Int} (ht : P.underlying t = some (.slice e)) (hi' : (P.info? e).map (fun i => (i.zero, i.size, i.bytes)) = some (some z, 1, bytes)) (hz : z.cells = #[z]) (hzx : ce zx = [z])
    (hx : ev n l x = some (true, .int kx mx)) (hy : ev n l y = some (true, .int ky my)) (hmx : mx = (m : Int)) (hmy : my = (m : Int)) (hb : bytes * m ≤ 281474976710656) (hm : m ≤ maxLen)
    (next : ∀ g w', Ext w w' → Own ce e 1 w.heap.size w' (.slice (some ⟨g, 0, none⟩) m m) (List.replicate m zx) → w.heap.size ≤ g → wpList P ops Q rest (act (ds := ds) n ((d, true, .slice (some ⟨g, 0, none⟩) m m) :: l) σ) w') :
    wpList P ops Q (⟨some d, .makeSlice t x y, ty, pos, after, none⟩ :: rest) (act (ds := ds) n l σ) w := by
  subst hmx
  subst hmy
  obtain ⟨i, hi, h1, h2, h3⟩ := info_parts hi'
  obtain ⟨w', hr, h4, h5⟩ := run_make_full (P := P) w w.heap.size t e i z 1 ht hi h1 h2 kx ky m (by rw [h3]; exact hb) hm (Nat.le_refl _)
  refine s_val (v := .slice (some ⟨w.heap.size, 0, none⟩) m m) (w' := w') ?_ (next _ w' ⟨h5.os, h5.tape, h5.output, h5.size, fun k hk => h5.block k hk (by simp)⟩ ?_ (Nat.le_refl _))
  · simp only [execOp, eval_ev hx rfl, eval_ev hy rfl, hr, Sem.run_bind, Result.andThen_ok, Sem.run_pure]
  · unfold Own
    rw [List.length_replicate, flat_rep hzx]
    rw [hz, Nat.mul_one, toList_madeCells_one] at h4
    exact h4
theorem flat_set {α : Type} {ce : α → List Value} {kv : α → Value} (h : ∀ x, ce x = [kv x]) (xs : List α) (j : Nat) (u : α) : (xs.flatMap ce).set j (kv u) = (xs.set j u).flatMap ce := by
  have e : ∀ ys : List α, ys.flatMap ce = ys.map kv := fun ys => by induction ys with
    | nil => rfl
    | cons y r ih => rw [List.flatMap_cons, ih, h]; rfl
  rw [e, e, List.map_set]
/-- A store into a row of one's own, at elements of one cell. -/
theorem s_storeRow {α : Type} {ce : α → List Value} {kv : α → Value} {t e : TypeId} {x y : Operand} {g off j k cap base : Nat} {u : α} {xs : List α} (hi' : (P.info? t).map (fun i => i.size) = some 1) (hce : ∀ x, ce x = [kv x]) (hc1 : (kv u).cells = #[kv u]) (hone : (kv u).oneCell' = true)
    (hx : ev n l x = some (true, .pointer (some ⟨g, off, none⟩))) (hy : ev n l y = some (true, kv u)) (hO : Own ce e 1 base w (.slice (some ⟨g, 0, none⟩) k cap) xs) (hoff : off = j) (hj : j < xs.length)
    (next : ∀ w', Kp g w w' → Own ce e 1 base w' (.slice (some ⟨g, 0, none⟩) k cap) (xs.set j u) → wpList P ops Q rest (act (ds := ds) n l σ) w') :
    wpList P ops Q (⟨none, .store t x y, ty, pos, after, none⟩ :: rest) (act (ds := ds) n l σ) w := by
  subst hoff
  obtain ⟨ti, hi, hz0⟩ := info_of hi'
  obtain ⟨hS, hk, _⟩ := hO.slOf (fun x => by rw [hce]; rfl)
  subst hk
  obtain ⟨h4, h5⟩ := World.ownsRow.stored hO off (kv u)
  obtain ⟨y0, hy0⟩ := get_lt hj
  have hc : w.cell? ⟨g, off, none⟩ = some (kv y0) := by
    have := hS.rd off y0 hy0 0 (kv y0) (by rw [hce]; rfl)
    rw [Nat.zero_add, Nat.mul_one, Nat.add_zero] at this
    exact this
  have hst : (store ⟨g, off, none⟩ (kv u)).run P w = .ok () (w.setCell ⟨g, off, none⟩ (kv u)) := by
    rw [run_store P w ⟨g, off, none⟩ (kv u) .plain hone]
    simp [hc, World.ownsRow.frozenAt hO off]
  have hkp : Kp g w (w.setCell ⟨g, off, none⟩ (kv u)) := ⟨rfl, rfl, rfl, by simp [World.setCell], fun k hk => Below.heap_setCell w _ (kv u) k hk⟩
  refine wpList_step fun K hK => ?_
  simp only [Region.wanted, if_true]
  unfold Oper.wp
  have e0 : (⟨g, off, none⟩ : Addr).add 0 = ⟨g, off, none⟩ := rfl
  have hr : (execOp (act (ds := ds) n l σ).eval ⟨none, .store t x y, ty, pos, after, none⟩).run P w = .ok .skip (w.setCell ⟨g, off, none⟩ (kv u)) := by
    simp [execOp, Instr.storeAt, Instr.sureAddr, eval_ev hx rfl, eval_ev hy rfl, storeVar, sizeOf, typeInfo, hi, hz0, hc1, storeCells, e0, hst, program, Sem.run]
  rw [hr]
  show K _ _
  refine hK _ _ (next _ hkp ?_)
  unfold Own
  rw [List.length_set, ← flat_set hce]
  exact h4
end

/-! ### A queue -/
section
variable {α : Type}
/-- A slice of one-cell elements, within a row of the call's own, with room behind it. -/
def Que (kv : α → Value) (e : TypeId) (base : Nat) (w : World) (v : Value) (l : List α) : Prop :=
  ∃ g off cap cur, v = .slice (some ⟨g, off, none⟩) l.length cap ∧ base ≤ g ∧ w.heap[g]? = some (.cells cur e (0, 0)) ∧ l.length ≤ cap ∧ off + cap ≤ cur.size ∧ cap ≤ maxLen ∧ ∀ (i : Nat) (x : α), l[i]? = some x → cur[off + i]? = some (kv x)
variable {kv : α → Value} {e : TypeId} {base g : Nat} {w w' : World} {v : Value} {l : List α}
theorem Que.ge (h : Que kv e base w v l) {k : Nat} (hk : v.ownBlock = some k) : base ≤ k ∧ k < w.heap.size := by
  obtain ⟨g, off, cap, cur, rfl, hb, hg, _⟩ := h
  simp only [Value.ownBlock, Option.some.injEq] at hk
  subst hk
  exact ⟨hb, (Array.getElem?_eq_some_iff.1 hg).1⟩
theorem Que.grown {row : Option Nat} (h : Que kv e base w v l) (hg : w.grownBy w' row) (hne : v.ownBlock = none ∨ v.ownBlock ≠ row) : Que kv e base w' v l := by
  obtain ⟨g, off, cap, cur, rfl, hb, hg', rest⟩ := h
  refine ⟨g, off, cap, cur, rfl, hb, (hg.block g (Array.getElem?_eq_some_iff.1 hg').1 (fun e => ?_)).trans hg', rest⟩
  rcases hne with hn | hn
  · cases hn
  · exact hn e
theorem Que.ext (h : Que kv e base w v l) (x : Ext w w') : Que kv e base w' v l := h.grown (row := none) ⟨x.os, x.tape, x.output, x.size, fun k hk _ => x.block k hk⟩ (.inr (by obtain ⟨g, off, cap, cur, rfl, _⟩ := h; simp [Value.ownBlock]))
theorem Que.kp (h : Que kv e base w v l) (k : Kp g w w') (hne : v.ownBlock ≠ some g) : Que kv e base w' v l := h.grown (row := some g) ⟨k.os, k.tape, k.output, by rw [k.size]; exact Nat.le_refl _, fun i _ hi => k.block i (fun e => hi (by rw [e]))⟩ (.inr hne)
theorem Que.mut (h : Que kv e base w v l) (k : Mut g w w') (hne : v.ownBlock ≠ some g) : Que kv e base w' v l := h.grown k.gb (.inr hne)
theorem Que.ne_new (h : Que kv e base w v l) (hg : w.heap.size ≤ g) : v.ownBlock ≠ some g := fun e => by have := h.ge e; omega
theorem Que.ne_old (h : Que kv e base w v l) (hg : g < base) : v.ownBlock ≠ some g := fun e => by have := h.ge e; omega
theorem Que.weak {b : Nat} (h : Que kv e base w v l) (hb : b ≤ base) : Que kv e b w v l := by
  obtain ⟨g, off, cap, cur, rfl, hb', rest⟩ := h
  exact ⟨g, off, cap, cur, rfl, Nat.le_trans hb hb', rest⟩
theorem Que.one {x : α} (hB : Blk w g e [kv x]) (hb : base ≤ g) : Que kv e base w (.slice (some ⟨g, 0, none⟩) 1 1) [x] :=
  ⟨g, 0, 1, [kv x].toArray, rfl, hb, hB, Nat.le_refl _, by simp, by decide, fun i y hy => by
    cases i with
    | zero => simp at hy; subst hy; rfl
    | succ i => simp at hy⟩
theorem Que.sl (h : Que kv e base w v l) : ∃ b o cap, v = .slice (some ⟨b, o, none⟩) l.length cap ∧ l.length ≤ cap ∧ ∀ (i : Nat) (x : α), l[i]? = some x → w.cell? ⟨b, o + i, none⟩ = some (kv x) := by
  obtain ⟨g, off, cap, cur, rfl, hb, hg, h1, h2, h3, h4⟩ := h
  exact ⟨g, off, cap, rfl, h1, fun i x hx => by simp [World.cell?, hg, h4 i x hx]⟩
theorem Que.sl1 {ce : α → List Value} (hce : ∀ x, ce x = [kv x]) (h : Que kv e base w v l) : ∃ b o cap, v = .slice (some ⟨b, o, none⟩) l.length cap ∧ l.length ≤ cap ∧ Sl ce 1 w (some ⟨b, o, none⟩) l := by
  obtain ⟨b, o, cap, h1, h2, h3⟩ := h.sl
  refine ⟨b, o, cap, h1, h2, .inr ⟨b, o, rfl, fun i x hx j u hu => ?_⟩⟩
  rw [hce] at hu
  cases j with
  | zero => simp at hu; subst hu; rw [Nat.mul_one, Nat.add_zero]; exact h3 i x hx
  | succ j => simp at hu
theorem Que.tail {A : Option Addr} {m cap : Nat} {x : α} (h : Que kv e base w (.slice A m cap) (x :: l)) : Que kv e base w (.slice (cutA A cap 1 1) (m - 1) (cap - 1)) l := by
  obtain ⟨g, off, cap', cur, he, hb, hg, h1, h2, h3, h4⟩ := h
  simp only [Value.slice.injEq] at he
  obtain ⟨rfl, rfl, rfl⟩ := he
  simp only [List.length_cons] at h1 ⊢
  unfold cutA
  by_cases hc : cap = 1
  · rw [if_pos hc]
    have hl : l = [] := List.eq_nil_of_length_eq_zero (by omega)
    subst hl
    exact ⟨g, off, cap - 1, cur, by simp, hb, hg, by simp, by omega, by omega, fun i y hy => by simp at hy⟩
  · rw [if_neg hc]
    refine ⟨g, off + 1, cap - 1, cur, by simp [addAt], hb, hg, by omega, by omega, by omega, fun i y hy => ?_⟩
    have := h4 (i + 1) y (by simpa using hy)
    rw [← this]; congr 1; omega
theorem Que.grow {w0 : World} (h : Ext w0 w) (ho : Que kv e base w v l) (hB : w0.heap.size ≤ base) (hg : w.grownBy w' v.ownBlock) : Ext w0 w' :=
  ⟨hg.os.trans h.os, hg.tape.trans h.tape, hg.output.trans h.output, Nat.le_trans h.size hg.size, fun k hk => (hg.block k (Nat.lt_of_lt_of_le hk h.size) (fun e => by have := (ho.ge e.symm).1; omega)).trans (h.block k hk)⟩
section
variable {P : Program}
theorem run_append_que {t ty : TypeId} {i : TypeInfo} {z : Value} {bytes : Nat} (ht : P.underlying t = some (.slice e)) (hi : P.info? e = some i) (hz : i.zero = some z) (hsize : i.size = 1) (hby : i.bytes = bytes) (hzs : z.cells.size = 1)
    (hQ : Que kv e base w v l) {x : α} {a : Addr} {c : Nat} (hx : w.cell? a = some (kv x)) (hone : (kv x).oneCell' = true) (h63 : l.length + 1 ≤ maxLen) (hbytes : (l.length + 1) * bytes ≤ 140737488355328) (hbase : base ≤ w.heap.size) :
    ∃ v' w', (Builtin.append_ #[t, t] ty #[v, .slice (some a) 1 c]).run P w = .ok v' w' ∧ Que kv e base w' v' (l ++ [x]) ∧ w.grownBy w' v.ownBlock ∧ (v'.ownBlock = v.ownBlock ∨ v'.ownBlock = some w.heap.size) := by
  subst hby
  obtain ⟨g, off, cap, cur, rfl, hb, hg, h1, h2, h3, h4⟩ := hQ
  have hn : ∀ (j : Nat) (u : Value), [kv x][j]? = some u → w.cell? (a.add j) = some u := fun j u hu => by
    cases j with
    | zero => simp at hu; subst hu; have e0 : a.add 0 = a := by cases a; rfl
              rw [e0]; exact hx
    | succ j => simp at hu
  by_cases hroom : l.length + 1 ≤ cap
  · have hf := run_firstCells_some (P := P) w i.size 1 a 1 c [kv x] (by rw [hsize]; rfl) hn
    have hst := run_storeCells_at P g (off + l.length) e [kv x] 0 cur w hg (by simp; omega) (by simpa using hone)
    simp only [Nat.add_zero] at hst
    have hr : (Builtin.append_ #[t, t] ty #[.slice (some ⟨g, off, none⟩) l.length cap, .slice (some a) 1 c]).run P w = .ok (.slice (some ⟨g, off, none⟩) (l.length + 1) cap) (w.setRow g (cur.toList.take (off + l.length) ++ [kv x] ++ cur.toList.drop (off + l.length + [kv x].length)).toArray) := by
      rw [hsize] at hf
      have hst' : (storeCells ⟨g, off + l.length, none⟩ [kv x]).run P w = .ok () (w.setRow g (cur.toList.take (off + l.length) ++ kv x :: cur.toList.drop (off + l.length + 1)).toArray) := by simpa using hst
      simp [Builtin.append_, run_underlying ht, sizeOf, typeInfo, hi, hsize, Builtin.lenOf, hroom, hf, Addr.add_lit, hst']
    refine ⟨_, _, hr, ⟨g, off, cap, _, by simp, hb, setRow_heap w g cur _ e _ hg, by simpa using hroom, ?_, h3, ?_⟩, ⟨rfl, rfl, rfl, by simp, fun k _ hk => setRow_other w g k _ (fun e => hk (by simp [Value.ownBlock, e]))⟩, .inl rfl⟩
    · simp only [List.size_toArray, List.length_append, List.length_take, List.length_drop, Array.length_toList, List.length_cons, List.length_nil]
      omega
    · intro j y hy
      have hlen : (cur.toList.take (off + l.length)).length = off + l.length := by rw [List.length_take, Array.length_toList (xs := cur)]; omega
      rw [List.getElem?_toArray, List.append_assoc]
      by_cases hj : j < l.length
      · rw [List.getElem?_append_left hj] at hy
        rw [List.getElem?_append_left (by omega), List.getElem?_take, if_pos (by omega), Array.getElem?_toList]
        exact h4 j y hy
      · rw [List.getElem?_append_right (by omega)] at hy
        have : j = l.length := by
          have := (List.getElem?_eq_some_iff.1 hy).1
          simp at this; omega
        subst this
        simp at hy
        subst hy
        rw [List.getElem?_append_right (by omega), hlen, Nat.sub_self]
        rfl
  · have holds : ∀ (j : Nat) (u : Value), (l.map kv)[j]? = some u → w.cell? ((⟨g, off, none⟩ : Addr).add j) = some u := fun j u hu => by
      rw [List.getElem?_map] at hu
      obtain ⟨y, hy, rfl⟩ := Option.map_eq_some_iff.1 hu
      rw [Addr.add_lit]
      simp [World.cell?, hg, h4 j y hy]
    have hr := run_append_grow (P := P) w t ty e i z ht hi hz ⟨g, off, none⟩ l.length cap (l.map kv) (by rw [List.length_map, hsize, Nat.mul_one]) holds a 1 c [kv x] (by rw [hsize]; rfl) hn (by omega) (by rw [show maxLen = 9223372036854775807 from rfl] at h63; omega) (growslice_fits (by omega) hbytes)
    have hge := grownCap_ge w (l.length + 1) cap e
    refine ⟨_, _, hr, ⟨w.heap.size, 0, grownCap w (l.length + 1) cap e, _, by simp, hbase, heap_alloc_new w.drew _, by simpa using hge, ?_, grownCap_le_maxLen w _ cap e h63, ?_⟩, ⟨rfl, rfl, rfl, by simp, fun k hk _ => Go.heap_alloc_old w.drew _ hk⟩, .inr rfl⟩
    · simp only [Array.size_append, List.size_toArray, List.length_map, List.length_cons, List.length_nil, size_zeroCells, hzs]
      omega
    · intro j y hy
      rw [Nat.zero_add]
      have e1 : ((l.map kv).toArray ++ [kv x].toArray) = ((l ++ [x]).map kv).toArray := by simp
      rw [e1]
      have hj : j < (l ++ [x]).length := (List.getElem?_eq_some_iff.1 hy).1
      rw [Array.getElem?_append_left (by simpa using hj)]
      simp only [List.getElem?_toArray, List.getElem?_map, hy, Option.map_some]
variable {ops : Array Oper} {Q : Exit → Act → World → Prop} {n : Nat} {fl : List (Nat × Bool × Value)} {σ : Nat → Value} {rest : List Oper} {d : Tmp} {op : Op} {ty : TypeId} {pos : String} {after : Array Edge}
theorem s_appendQ {t : TypeId} {s y : Operand} {z : Value} {bytes gb c : Nat} {x : α} (ht : P.underlying t = some (.slice e)) (hi' : (P.info? e).map (fun i => (i.zero, i.size, i.bytes)) = some (some z, 1, bytes)) (hz : z.cells.size = 1)
    (hs : ev n fl s = some (true, v)) (hQ : Que kv e base w v l) (hy : ev n fl y = some (true, .slice (some ⟨gb, 0, none⟩) 1 c)) (hB : Blk w gb e [kv x]) (hone : (kv x).oneCell' = true) (h63 : l.length + 1 ≤ maxLen) (hb : (l.length + 1) * bytes ≤ 140737488355328) (hbase : base ≤ w.heap.size)
    (next : ∀ v' w', Que kv e base w' v' (l ++ [x]) → w.grownBy w' v.ownBlock → (v'.ownBlock = v.ownBlock ∨ v'.ownBlock = some w.heap.size) → wpList P ops Q rest (act (ds := ds) n ((d, true, v') :: fl) σ) w') :
    wpList P ops Q (⟨some d, .call { callee := .builtin .append, args := #[s, y], argTypes := #[t, t] }, ty, pos, after, none⟩ :: rest) (act (ds := ds) n fl σ) w := by
  obtain ⟨i, hi, h1, h2, h3⟩ := info_parts hi'
  obtain ⟨v', w', hr, q1, q2, q3⟩ := run_append_que (P := P) (ty := ty) ht hi h1 h2 h3 hz hQ (a := ⟨gb, 0, none⟩) (c := c) (hB.cell rfl) hone h63 hb hbase
  refine s_val (v := v') (w' := w') ?_ (next v' w' q1 q2 q3)
  simp only [execOp, resolve, invoke, builtin, Sem.run_bind, Sem.run_pure, Result.andThen_ok, List.map_toArray, List.map_cons, List.map_nil, eval_ev hs rfl, eval_ev hy rfl, hr]
end
end
end Go.Proofs.Core
