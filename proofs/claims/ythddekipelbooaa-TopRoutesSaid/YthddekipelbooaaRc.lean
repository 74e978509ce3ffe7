/- Memory of chapter 44 (route): a row of rows of one's own. -/
import Derived.Test.YthddekipelbooaaRb
import Derived.Test.YthddekipelbooaaPa
namespace Go.Proofs.Ythddekipelbooaa
open Go Go.RowKit Core
set_option linter.unusedVariables false
set_option linter.unusedSimpArgs false
attribute [local irreducible] wpQuiet wpList wpH wpT Code.wp Calls bodyPost act


def scv (v : Value) : List Value := [v]
theorem hce_s : ∀ x, (scv x).length = 1 := fun _ => rfl
def sl0 (gv : Nat) (k c : Nat) : Value := .slice (some ⟨gv, 0, none⟩) k c
structure RW (n0 : Nat) (w : World) (gv vc : Nat) (vs : List Value) (ls : List (List Int)) : Prop where
  own : Core.Own scv 37 1 n0 w (.slice (some ⟨gv, 0, none⟩) vs.length vc) vs
  len : vs.length = ls.length
  row : ∀ (i : Nat) (vi : Value) (l : List Int), vs[i]? = some vi → ls[i]? = some l → Core.Own icell 3 1 n0 w vi l
  dis : ∀ (i : Nat) (vi : Value), vs[i]? = some vi → vi.ownBlock ≠ some gv
  dis2 : ∀ (i j : Nat) (vi vj : Value), i ≠ j → vs[i]? = some vi → vs[j]? = some vj → Dis vi vj
def RSep (gv : Nat) (vs : List Value) (g : Nat) : Prop := g ≠ gv ∧ ∀ x ∈ vs, x.ownBlock ≠ some g
structure RM (gv : Nat) (vs : List Value) (gv' : Nat) (vs' : List Value) (w w' : World) : Prop where
  os : w'.os = w.os
  tape : w'.tape = w.tape
  output : w'.output = w.output
  size : w.heap.size ≤ w'.heap.size
  blk : ∀ g, g < w.heap.size → RSep gv vs g → w'.heap[g]? = w.heap[g]? ∧ RSep gv' vs' g
theorem RW.rowAt {n0 gv vc i : Nat} {w : World} {vs : List Value} {ls : List (List Int)} {vi : Value} (h : RW n0 w gv vc vs ls) (hv : vs[i]? = some vi) : ∃ l, ls[i]? = some l ∧ Core.Own icell 3 1 n0 w vi l := by
  obtain ⟨l, hl⟩ := get_lt (show i < ls.length by rw [← h.len]; exact (List.getElem?_eq_some_iff.1 hv).1)
  exact ⟨l, hl, h.row i vi l hv hl⟩
theorem RW.lt {n0 gv vc : Nat} {w : World} {vs : List Value} {ls : List (List Int)} (h : RW n0 w gv vc vs ls) : n0 ≤ gv ∧ gv < w.heap.size := h.own.ge rfl
theorem RW.ext {n0 gv vc : Nat} {w w' : World} {vs : List Value} {ls : List (List Int)} (h : RW n0 w gv vc vs ls) (e : Ext w w') : RW n0 w' gv vc vs ls :=
  ⟨h.own.ext e, h.len, fun i vi l h1 h2 => (h.row i vi l h1 h2).ext e, h.dis, h.dis2⟩
theorem RW.kp {n0 gv vc g : Nat} {w w' : World} {vs : List Value} {ls : List (List Int)} (h : RW n0 w gv vc vs ls) (k : Kp g w w') (s : RSep gv vs g) : RW n0 w' gv vc vs ls :=
  ⟨h.own.kp k (fun e => s.1 (Option.some.inj e).symm), h.len, fun i vi l h1 h2 => (h.row i vi l h1 h2).kp k (s.2 vi (mem_get h1)), h.dis, h.dis2⟩
theorem RSep.old {n0 gv vc g : Nat} {w : World} {vs : List Value} {ls : List (List Int)} (h : RW n0 w gv vc vs ls) (hg : g < n0) : RSep gv vs g := by
  refine ⟨by have := h.lt; omega, fun x hx => ?_⟩
  obtain ⟨i, hi⟩ := List.getElem?_of_mem hx
  obtain ⟨l, _, ho⟩ := h.rowAt hi
  exact ho.ne_old hg
theorem RSep.new {n0 gv vc g : Nat} {w : World} {vs : List Value} {ls : List (List Int)} (h : RW n0 w gv vc vs ls) (hg : w.heap.size ≤ g) : RSep gv vs g := by
  refine ⟨by have := h.lt; omega, fun x hx => ?_⟩
  obtain ⟨i, hi⟩ := List.getElem?_of_mem hx
  obtain ⟨l, _, ho⟩ := h.rowAt hi
  exact ho.ne_new hg
theorem Blk.rm {g gv gv' : Nat} {t : TypeId} {cs vs vs' : List Value} {a b : World} (h : Blk a g t cs) (k : RM gv vs gv' vs' a b) (s : RSep gv vs g) : Blk b g t cs := (k.blk g h.lt s).1.trans h
theorem Ext.rm {n0 gv vc gv' : Nat} {w a b : World} {vs vs' : List Value} {ls : List (List Int)} (h : Ext w a) (k : RM gv vs gv' vs' a b) (hQ : RW n0 a gv vc vs ls) (hn : w.heap.size ≤ n0) : Ext w b :=
  ⟨k.os.trans h.os, k.tape.trans h.tape, k.output.trans h.output, Nat.le_trans h.size k.size, fun g hg => ((k.blk g (Nat.lt_of_lt_of_le hg h.size) (RSep.old hQ (by omega))).1).trans (h.block g hg)⟩
/-- A row of numbers of one's own, in block gc. -/
def CR (base : Nat) (w : World) (gc : Nat) (cs : List Int) : Prop := Core.Own icell 3 1 base w (.slice (some ⟨gc, 0, none⟩) cs.length cs.length) cs
theorem CR.ext {base gc : Nat} {w w' : World} {cs : List Int} (h : CR base w gc cs) (e : Ext w w') : CR base w' gc cs := Core.Own.ext h e
theorem CR.kp {base gc g : Nat} {w w' : World} {cs : List Int} (h : CR base w gc cs) (k : Kp g w w') (hne : gc ≠ g) : CR base w' gc cs := Core.Own.kp h k (fun e => hne (Option.some.inj e))
theorem CR.lt {base gc : Nat} {w : World} {cs : List Int} (h : CR base w gc cs) : gc < w.heap.size := (Core.Own.ge h rfl).2
theorem CR.rm {base gc gv gv' : Nat} {vs vs' : List Value} {a b : World} {cs : List Int} (h : CR base a gc cs) (k : RM gv vs gv' vs' a b) (s : RSep gv vs gc) : CR base b gc cs := by
  have hlt := h.lt
  refine ⟨h.1, ?_⟩
  rcases h.2 with ⟨e, _⟩ | ⟨g', cap, cur, he, hb, hg', rest⟩
  · cases e
  · simp only [Value.slice.injEq, Option.some.injEq, Addr.mk.injEq] at he
    obtain ⟨⟨rfl, _, _⟩, _, rfl⟩ := he
    exact .inr ⟨gc, _, cur, rfl, hb, (k.blk gc hlt s).1.trans hg', rest⟩
theorem CR.rd {base gc : Nat} {w : World} {cs : List Int} (h : CR base w gc cs) (i : Nat) (x : Int) (hx : cs[i]? = some x) : ∀ (j : Nat) (v : Value), (icell x)[j]? = some v → w.cell? ⟨gc, 0 + i * 1 + j, none⟩ = some v := Core.Own.rd h hce_i i x hx
theorem get_app {α : Type} {l : List α} {x y : α} {i : Nat} (h : (l ++ [x])[i]? = some y) : (i < l.length ∧ l[i]? = some y) ∨ (i = l.length ∧ y = x) := by
  rcases Nat.lt_trichotomy i l.length with e | e | e
  · left; rw [List.getElem?_append_left e] at h; exact ⟨e, h⟩
  · right; subst e; simp at h; exact ⟨rfl, h.symm⟩
  · rw [List.getElem?_eq_none (by simp; omega)] at h; cases h
/-- A further empty row. -/
theorem RW.nil {n0 gv vc : Nat} {w w' : World} {vs : List Value} {ls : List (List Int)} {v' : Value} (h : RW n0 w gv vc vs ls) (hN : Core.Own scv 37 1 n0 w' v' (vs ++ [.slice none 0 0])) (hgr : w.grownBy w' (some gv)) (hat : v'.ownBlock = some gv ∨ v'.ownBlock = some w.heap.size) :
    ∃ gv' vc', v' = .slice (some ⟨gv', 0, none⟩) (vs ++ [Value.slice none 0 0]).length vc' ∧ RW n0 w' gv' vc' (vs ++ [.slice none 0 0]) (ls ++ [[]]) ∧ RM gv vs gv' (vs ++ [.slice none 0 0]) w w' := by
  obtain ⟨A, vc', rfl, _⟩ := hN.sl hce_s
  obtain ⟨gv', rfl⟩ : ∃ gv', A = some ⟨gv', 0, none⟩ := by
    rcases hN.2 with ⟨_, e⟩ | ⟨g, cap, cur, he, _⟩
    · simp at e
    · simp only [Value.slice.injEq] at he; exact ⟨g, he.1⟩
  have hlt := h.lt
  have hg : gv' = gv ∨ gv' = w.heap.size := by
    rcases hat with e | e
    · exact .inl (Option.some.inj e)
    · exact .inr (Option.some.inj e)
  refine ⟨gv', vc', rfl, ⟨hN, by simp [h.len], fun i vi l h1 h2 => ?_, fun i vi h1 => ?_, fun i j vi vj hij h1 h2 => ?_⟩, ⟨hgr.os, hgr.tape, hgr.output, hgr.size, fun g hg2 hs => ⟨hgr.block g hg2 (fun e => hs.1 (Option.some.inj e)), ?_, fun x hx => ?_⟩⟩⟩
  · rcases get_app h1 with ⟨a1, a2⟩ | ⟨a1, a2⟩
    · rcases get_app h2 with ⟨b1, b2⟩ | ⟨b1, b2⟩
      · have ho := h.row i vi l a2 b2
        exact ho.grown hgr (by
          cases e : vi.ownBlock with
          | none => exact .inl rfl
          | some k => exact .inr (fun e2 => h.dis i vi a2 (by rw [e, e2])))
      · have := h.len; omega
    · rcases get_app h2 with ⟨b1, b2⟩ | ⟨b1, b2⟩
      · have := h.len; omega
      · subst a2; subst b2; exact Own.nil _ _ _ _ _
  · rcases get_app h1 with ⟨a1, a2⟩ | ⟨a1, a2⟩
    · obtain ⟨l, _, ho⟩ := h.rowAt a2
      rcases hg with e | e
      · rw [e]; exact h.dis i vi a2
      · rw [e]; exact ho.ne_new (Nat.le_refl _)
    · subst a2; intro e; cases e
  · rcases get_app h1 with ⟨a1, a2⟩ | ⟨a1, a2⟩ <;> rcases get_app h2 with ⟨b1, b2⟩ | ⟨b1, b2⟩
    · exact h.dis2 i j vi vj hij a2 b2
    · subst b2; intro k _ e; cases e
    · subst a2; intro k e; cases e
    · omega
  · rcases hg with e | e
    · rw [e]; exact hs.1
    · omega
  · rcases List.mem_append.1 hx with e | e
    · exact hs.2 x e
    · rw [List.mem_singleton.1 e]; intro e2; cases e2
/-- What a growing row leaves of the outer one. -/
theorem RW.mid {n0 gv vc m : Nat} {w w1 : World} {vs : List Value} {ls : List (List Int)} {vi : Value} (h : RW n0 w gv vc vs ls) (hv : vs[m]? = some vi) (hgr : w.grownBy w1 vi.ownBlock) : Core.Own scv 37 1 n0 w1 (.slice (some ⟨gv, 0, none⟩) vs.length vc) vs :=
  h.own.grown hgr (.inr (fun e => h.dis m vi hv e.symm))
/-- Row m with one more element. -/
theorem RW.push {n0 gv vc m : Nat} {w w1 w2 : World} {vs : List Value} {ls : List (List Int)} {vi vi' : Value} {l : List Int} {x : Int} (h : RW n0 w gv vc vs ls) (hv : vs[m]? = some vi) (hl : ls[m]? = some l)
    (hN : Core.Own icell 3 1 n0 w1 vi' (l ++ [x])) (hgr : w.grownBy w1 vi.ownBlock) (hat : vi'.ownBlock = vi.ownBlock ∨ vi'.ownBlock = some w.heap.size) (hk : Kp gv w1 w2) (hT : Core.Own scv 37 1 n0 w2 (.slice (some ⟨gv, 0, none⟩) vs.length vc) (vs.set m vi')) :
    RW n0 w2 gv vc (vs.set m vi') (ls.set m (l ++ [x])) ∧ RM gv vs gv (vs.set m vi') w w2 := by
  have hlt := h.lt
  have hm := (List.getElem?_eq_some_iff.1 hv).1
  have hm2 := (List.getElem?_eq_some_iff.1 hl).1
  have hset : ∀ j : Nat, (vs.set m vi')[j]? = if j = m then some vi' else vs[j]? := fun j => by
    rw [List.getElem?_set]
    by_cases e : m = j
    · subst e; simp [hm]
    · rw [if_neg e, if_neg (fun h => e h.symm)]
  have hset2 : ∀ j : Nat, (ls.set m (l ++ [x]))[j]? = if j = m then some (l ++ [x]) else ls[j]? := fun j => by
    rw [List.getElem?_set]
    by_cases e : m = j
    · subst e; simp [hm2]
    · rw [if_neg e, if_neg (fun h => e h.symm)]
  have hv' : vi'.ownBlock ≠ some gv := by
    rcases hat with e | e
    · rw [e]; exact h.dis m vi hv
    · rw [e]; intro e2; have := Option.some.inj e2; omega
  have hdj : ∀ (j : Nat) (vj : Value), j ≠ m → vs[j]? = some vj → Dis vi' vj := fun j vj hne hj k hk1 e => by
    obtain ⟨lj, _, ho⟩ := h.rowAt hj
    rcases hat with e2 | e2
    · rw [e2] at hk1; exact h.dis2 m j vi vj (fun e => hne e.symm) hv hj k hk1 e
    · rw [e2] at hk1; have := Option.some.inj hk1; have := (ho.ge e).2; omega
  have hlen : (vs.set m vi').length = vs.length := List.length_set
  refine ⟨⟨by rw [hlen]; exact hT, by rw [List.length_set, List.length_set]; exact h.len, fun i vi2 l2 h1 h2 => ?_, fun i vi2 h1 => ?_, fun i j vi2 vj hij h1 h2 => ?_⟩, ⟨hk.os.trans hgr.os, hk.tape.trans hgr.tape, hk.output.trans hgr.output, ?_, fun g hg hs => ⟨?_, hs.1, fun y hy => ?_⟩⟩⟩
  · rw [hset] at h1; rw [hset2] at h2
    by_cases e : i = m
    · rw [if_pos e] at h1 h2
      cases h1; cases h2
      exact hN.kp hk hv'
    · rw [if_neg e] at h1 h2
      have ho := h.row i vi2 l2 h1 h2
      exact (ho.grown hgr (by
        cases e2 : vi2.ownBlock with
        | none => exact .inl rfl
        | some k => exact .inr (fun e3 => h.dis2 i m vi2 vi e h1 hv k e2 e3.symm))).kp hk (h.dis i vi2 h1)
  · rw [hset] at h1
    by_cases e : i = m
    · rw [if_pos e] at h1; cases h1; exact hv'
    · rw [if_neg e] at h1; exact h.dis i vi2 h1
  · rw [hset] at h1 h2
    by_cases e : i = m
    · rw [if_pos e] at h1; cases h1
      by_cases e2 : j = m
      · omega
      · rw [if_neg e2] at h2; exact hdj j vj e2 h2
    · rw [if_neg e] at h1
      by_cases e2 : j = m
      · rw [if_pos e2] at h2; cases h2; exact (hdj i vi2 e h1).symm
      · rw [if_neg e2] at h2; exact h.dis2 i j vi2 vj hij h1 h2
  · have := hgr.size; have := hk.size; omega
  · exact (hk.block g hs.1).trans (hgr.block g hg (fun e => hs.2 vi (mem_get hv) e.symm))
  · rcases List.mem_or_eq_of_mem_set hy with e | e
    · exact hs.2 y e
    · rw [e]
      rcases hat with e2 | e2
      · rw [e2]; exact hs.2 vi (mem_get hv)
      · rw [e2]; intro e3; have := Option.some.inj e3; omega
theorem own_oneI {n0 : Nat} {w : World} {v : Value} {l : List Int} (h : Core.Own icell 3 1 n0 w v l) : v.cells = #[v] ∧ v.oneCell' = true := by
  obtain ⟨A, c, rfl, _⟩ := h.sl hce_i
  exact ⟨rfl, rfl⟩
/-- Bounds of the buckets. -/
def RB (cs : List Int) (ls : List (List Int)) (x : Nat) : Prop := ls.length ≤ 1001 * cnt cs + 1 ∧ ∀ (m : Nat) (l : List Int), ls[m]? = some l → l.length ≤ 7 * cnt cs + x
theorem RB.nil {cs : List Int} {ls : List (List Int)} {x : Nat} (h : RB cs ls x) (hl : ls.length < 1001 * cnt cs + 1) : RB cs (ls ++ [[]]) x :=
  ⟨by rw [List.length_append, List.length_singleton]; omega, fun m l hm => by
    rcases get_app hm with ⟨_, e⟩ | ⟨_, e⟩
    · exact h.2 m l e
    · rw [e]; simp⟩
theorem RB.push {cs l : List Int} {ls : List (List Int)} {x m : Nat} {a : Int} (h : RB cs ls x) (hm : ls[m]? = some l) : RB cs (ls.set m (l ++ [a])) (x + 1) :=
  ⟨by rw [List.length_set]; exact h.1, fun m' l' hm' => by
    rw [List.getElem?_set] at hm'
    by_cases e : m = m'
    · subst e
      rw [if_pos rfl, if_pos (List.getElem?_eq_some_iff.1 hm).1] at hm'
      cases hm'
      have := h.2 m l hm
      rw [List.length_append, List.length_singleton]; omega
    · rw [if_neg e] at hm'; have := h.2 m' l' hm'; omega⟩
theorem RB.set {cs : List Int} {ls : List (List Int)} {j : Nat} {n : Int} (h : RB cs ls 7) (hj : cs[j]? = some (-1)) (hn : 0 ≤ n) : RB (cs.set j n) ls 0 := by
  have e := cnt_set hj hn
  refine ⟨by rw [e]; have := h.1; omega, fun m l hm => by rw [e]; have := h.2 m l hm; omega⟩
theorem RB.wk {cs : List Int} {ls : List (List Int)} {x y : Nat} (h : RB cs ls x) (hxy : x ≤ y) : RB cs ls y := ⟨h.1, fun m l hm => by have := h.2 m l hm; omega⟩

end Go.Proofs.Ythddekipelbooaa
