/- A small calculus over the walk's own wp: frames as lists of known slots, one law for each kind of operation. No program in sight. -/
import Derived.WalkKit
import Derived.OrdersHeld
import Derived.Deep.Quiet
import Derived.Deep.Draws
import Derived.Lib.Hide
namespace Go.Proofs.Core
open Go Go.RowKit
variable {ds : List Deferred}

/-! ### Frames -/
theorem beq_no {a b : Nat} (h : ¬ a = b) : Nat.beq a b = false := Bool.eq_false_iff.2 fun h' => h (Nat.eq_of_beq_eq_true h')
theorem no_beq {a b : Nat} (h : Nat.beq a b = false) : a ≠ b := fun e => by subst e; rw [Nat.beq_refl] at h; cases h
theorem int_beq (a b : Int) : (a == b) = decide (a = b) := by rw [Bool.eq_iff_iff]; simp
def gv (p : Bool) (v : Value) : Value := bif p then v else undef
def lk : List (Nat × Bool × Value) → Nat → Option (Bool × Value)
  | [], _ => none
  | (k, pv) :: r, t => bif Nat.beq k t then some pv else lk r t
def fr (l : List (Nat × Bool × Value)) (σ : Nat → Value) (t : Nat) : Value :=
  match lk l t with
  | some (p, v) => gv p v
  | none => σ t
def act {ds : List Deferred} (n : Nat) (l : List (Nat × Bool × Value)) (σ : Nat → Value) : Act := { tmps := Array.ofFn (n := n) fun i => fr l σ i, defers := ds }
def ev (n : Nat) (l : List (Nat × Bool × Value)) : Operand → Option (Bool × Value)
  | .tmp t => bif Nat.blt t n then lk l t else none
  | .const v => some (true, v)
  | .global g => some (true, .pointer (some ⟨g, 0, none⟩))
  | .func f => some (true, .func (.func f) #[] #[])
def evs (n : Nat) (l : List (Nat × Bool × Value)) : List Operand → Option (List Value)
  | [] => some []
  | x :: r => match ev n l x, evs n l r with
    | some (true, v), some vs => some (v :: vs)
    | _, _ => none
/-- Guarded operands: all stand under guards that hold. -/
def Evs (n : Nat) (l : List (Nat × Bool × Value)) : List Operand → List Value → Prop
  | [], [] => True
  | x :: r, v :: vs => (∃ p, ev n l x = some (p, v) ∧ p = true) ∧ Evs n l r vs
  | _, _ => False

theorem getD_act {n : Nat} {l : List (Nat × Bool × Value)} {σ : Nat → Value} {t : Nat} (h : Nat.blt t n = true) : (act (ds := ds) n l σ).tmps.getD t undef = fr l σ t := by
  have h' : t < n := by simpa [Nat.blt_eq] using h
  simp [act, h']

theorem eval_ev {n : Nat} {l : List (Nat × Bool × Value)} {σ : Nat → Value} {x : Operand} {p : Bool} {v : Value} (h : ev n l x = some (p, v)) (hp : p = true) : (act (ds := ds) n l σ).eval x = v := by
  subst hp
  cases x with
  | tmp t =>
    simp only [ev] at h
    cases hb : Nat.blt t n with
    | false => rw [hb] at h; cases h
    | true =>
      rw [hb] at h
      show (act (ds := ds) n l σ).tmps.getD t undef = v
      rw [getD_act hb]
      have h2 : lk l t = some (true, v) := h
      simp [fr, h2, gv]
  | const u => simp only [ev, Option.some.injEq, Prod.mk.injEq] at h; exact h.2
  | global g => simp only [ev, Option.some.injEq, Prod.mk.injEq] at h; exact h.2
  | func f => simp only [ev, Option.some.injEq, Prod.mk.injEq] at h; exact h.2

theorem Evs.map {n : Nat} {l : List (Nat × Bool × Value)} {σ : Nat → Value} : ∀ {xs : List Operand} {vs : List Value}, Evs n l xs vs → xs.map (act (ds := ds) n l σ).eval = vs
  | [], [], _ => rfl
  | _ :: _, _ :: _, ⟨⟨_, h1, h2⟩, h3⟩ => by rw [List.map_cons, eval_ev h1 h2, Evs.map h3]
  | [], _ :: _, h => h.elim
  | _ :: _, [], h => h.elim

theorem put_act (n : Nat) (l : List (Nat × Bool × Value)) (σ : Nat → Value) (d : Nat) (p : Bool) (v : Value) : (act (ds := ds) n l σ).put (some d) (gv p v) = act (ds := ds) n ((d, p, v) :: l) σ := by
  simp only [Act.put, act, Act.mk.injEq, and_true]
  apply Array.ext
  · simp
  · intro i h1 h2
    by_cases hd : d = i
    · subst hd; simp [fr, lk]
    · rw [Array.getElem_setIfInBounds_ne (by simpa using h1) hd]
      simp [fr, lk, beq_no hd]
theorem put_act' (n : Nat) (l : List (Nat × Bool × Value)) (σ : Nat → Value) (d : Nat) (v : Value) : (act (ds := ds) n l σ).put (some d) v = act (ds := ds) n ((d, true, v) :: l) σ := put_act (ds := ds) n l σ d true v
theorem put_none (a : Act) (v : Value) : a.put none v = a := rfl

/-- Fewer slots known. -/
def Sub (l : List (Nat × Bool × Value)) : List (Nat × Value) → Prop
  | [] => True
  | (k, v) :: r => lk l k = some (true, v) ∧ Sub l r
def kn (r : List (Nat × Value)) : List (Nat × Bool × Value) := r.map fun p => (p.1, true, p.2)
theorem lk_kn_sub {l : List (Nat × Bool × Value)} : ∀ {r : List (Nat × Value)}, Sub l r → ∀ t, lk (kn r) t = none ∨ lk (kn r) t = lk l t
  | [], _, t => .inl rfl
  | (k, v) :: r, ⟨h1, h2⟩, t => by
    simp only [kn, List.map_cons, lk]
    cases hb : Nat.beq k t with
    | true => right; have : k = t := by simpa using hb
              subst this; simp [h1]
    | false => simpa [kn] using lk_kn_sub h2 t
theorem act_sub {n : Nat} {l : List (Nat × Bool × Value)} {σ : Nat → Value} {r : List (Nat × Value)} (h : Sub l r) : act (ds := ds) n l σ = act (ds := ds) n (kn r) (fr l σ) := by
  simp only [act, Act.mk.injEq, and_true]
  congr 1
  funext i
  rcases lk_kn_sub h i with h1 | h1
  · simp [fr, h1]
  · conv => rhs; unfold fr; rw [h1]
    simp only [fr]
    cases lk l i with
    | none => rfl
    | some pv => rfl

/-! ### The beginning and the end of a call -/
def argsF (args : List Value) (i : Nat) : Value := args.getD i undef
theorem entry_act {fn : Func} {args : List Value} {n : Nat} {r : List (Nat × Value)} (hn : fn.ntmps = n) (hlen : Nat.ble args.length n = true)
    (hr : r = (List.range args.length).zip args) : ({ tmps := args.toArray ++ Array.replicate (fn.ntmps - args.toArray.size) undef, defers := [] } : Act) = act (ds := []) n (kn r) (fun _ => undef) := by
  have hlen' : args.length ≤ n := by simpa using hlen
  simp only [act, Act.mk.injEq, and_true, hn]
  apply Array.ext
  · simp; omega
  · intro i h1 h2
    have hlk : ∀ (as : List Value) (k : Nat), lk (kn ((List.range' k as.length).zip as)) i = if h : k ≤ i ∧ i - k < as.length then some (true, as[i - k]'h.2) else none := by
      intro as
      induction as with
      | nil => intro k; simp [kn, lk]
      | cons a as ih =>
        intro k
        have ih' := ih (k + 1)
        have e0 : kn ((List.range' k (a :: as).length).zip (a :: as)) = (k, true, a) :: kn ((List.range' (k + 1) as.length).zip as) := by
          simp [kn, List.range'_succ]
        rw [e0]
        unfold lk
        rw [ih']
        by_cases hk : k = i
        · subst hk; simp
        · have hb : Nat.beq k i = false := beq_no hk
          rw [hb]
          simp only [cond_false]
          by_cases h3 : k + 1 ≤ i ∧ i - (k + 1) < as.length
          · rw [dif_pos h3, dif_pos (by simp; omega)]
            have : i - k = (i - (k + 1)) + 1 := by omega
            simp [this]
          · rw [dif_neg h3, dif_neg (by simp; omega)]
    have := hlk args 0
    rw [← List.range_eq_range'] at this
    simp only [Array.getElem_ofFn, fr, hr, this, Array.getElem_append]
    by_cases h3 : i < args.length
    · simp [h3, gv]
    · simp [h3]
theorem calls_act {P : Program} {f : FuncId} {fn : Func} {c : Code} {args : List Value} {w : World} {R : Ending → World → Prop} {n : Nat} {r : List (Nat × Value)}
    (hf : P.funcs[f]? = some fn) (hb : fn.body = some c) (hn : fn.ntmps = n) (hlen : Nat.ble args.length n = true)
    (hr : r = (List.range args.length).zip args)
    (h : c.wp P (bodyPost P fn R) (act (ds := []) n (kn r) (fun _ => undef)) w) : Calls P f args.toArray w R := by
  refine calls_of_wp hf hb ?_
  rw [entry_act hn hlen hr]; exact h

theorem res1 {P : Program} {fn : Func} {R : Ending → World → Prop} {n : Nat} {l : List (Nat × Bool × Value)} {σ : Nat → Value} {w : World} {t : Nat} {v : Value}
    (hr : fn.results = #[.tmp t]) (hv : ev n l (.tmp t) = some (true, v)) (h : R (.returned v) w) : bodyPost P fn R .ret (act (ds := []) n l σ) w := by
  refine bodyPost_ret (v := v) ?_ rfl h
  rw [results_tmp hr]
  exact congrArg (fun u => Result.ok u w) (eval_ev (x := .tmp t) hv rfl)
theorem res2 {P : Program} {fn : Func} {R : Ending → World → Prop} {n : Nat} {l : List (Nat × Bool × Value)} {σ : Nat → Value} {w : World} {t u : Nat} {v v' : Value}
    (hr : fn.results = #[.tmp t, .tmp u]) (hv : ev n l (.tmp t) = some (true, v)) (hv' : ev n l (.tmp u) = some (true, v')) (h : R (.returned (.tuple #[v, v'])) w) : bodyPost P fn R .ret (act (ds := []) n l σ) w := by
  refine bodyPost_ret (v := .tuple #[v, v']) ?_ rfl h
  rw [results_tmp2 hr]
  have e1 := eval_ev (ds := []) (σ := σ) (x := .tmp t) hv rfl
  have e2 := eval_ev (ds := []) (σ := σ) (x := .tmp u) hv' rfl
  simp only [Act.eval] at e1 e2
  rw [e1, e2]
theorem res0 {P : Program} {fn : Func} {R : Ending → World → Prop} {n : Nat} {l : List (Nat × Bool × Value)} {σ : Nat → Value} {w : World}
    (hr : fn.results = #[]) (h : R (.returned (.tuple #[])) w) : bodyPost P fn R .ret (act (ds := []) n l σ) w :=
  bodyPost_ret (v := .tuple #[]) (results_none hr _ _ _) rfl h

/-- A struct behind the results' first variable, and a slot. -/
theorem run_loadN {P : Program} {t : TypeId} {b o size : Nat} {cs : List Value} {td : TypeDesc} {w : World} (ht : P.underlying t = some td) (hag : (match td with | .struct _ | .array _ _ => true | _ => false) = true)
    (hi' : (P.info? t).map (fun i => i.size) = some size) (hlen : cs.length = size) (hc : ∀ j v, cs[j]? = some v → w.cell? ⟨b, o + j, none⟩ = some v) : (loadVar t ⟨b, o, none⟩).run P w = .ok (.agg cs.toArray) w := by
  have ⟨ti, hi, hz⟩ : ∃ ti, P.info? t = some ti ∧ ti.size = size := by
    cases hi : P.info? t with
    | none => rw [hi] at hi'; cases hi'
    | some ti => rw [hi] at hi'; exact ⟨ti, rfl, Option.some.inj hi'⟩
  have h' : (loadCells ⟨b, o, none⟩ cs.length).run P w = .ok cs.toArray w := run_loadCells_list w _ cs fun j v hv => by
    have e : (⟨b, o, none⟩ : Addr).add j = ⟨b, o + j, none⟩ := by unfold Addr.add; split <;> simp_all
    rw [e]; exact hc j v hv
  rw [hlen] at h'
  simp only [loadVar, isAgg, sizeOf, typeInfo, Sem.run_bind, Result.andThen_ok, run_underlying ht]
  cases td <;> simp_all [program, Sem.run]
theorem resCT {P : Program} {fn : Func} {R : Ending → World → Prop} {n : Nat} {l : List (Nat × Bool × Value)} {σ : Nat → Value} {w : World} {t u : Nat} {ty : TypeId} {v' : Value} {b o size : Nat} {cs : List Value} {td : TypeDesc}
    (hr : fn.results = #[.cell t ty, .tmp u]) (ht : P.underlying ty = some td) (hag : (match td with | .struct _ | .array _ _ => true | _ => false) = true) (hi' : (P.info? ty).map (fun i => i.size) = some size) (hlen : cs.length = size)
    (hv : ev n l (.tmp t) = some (true, .pointer (some ⟨b, o, none⟩))) (hc : ∀ j v, cs[j]? = some v → w.cell? ⟨b, o + j, none⟩ = some v) (hv' : ev n l (.tmp u) = some (true, v'))
    (h : R (.returned (.tuple #[.agg cs.toArray, v'])) w) : bodyPost P fn R .ret (act (ds := []) n l σ) w := by
  refine bodyPost_ret (v := .tuple #[.agg cs.toArray, v']) ?_ rfl h
  rw [results_cell_tmp hr]
  have e1 := eval_ev (ds := []) (σ := σ) (x := .tmp t) hv rfl
  have e2 := eval_ev (ds := []) (σ := σ) (x := .tmp u) hv' rfl
  simp only [Act.eval] at e1 e2
  rw [e1, e2]
  have h1 : (asAddr (.pointer (some ⟨b, o, none⟩))).run P w = .ok ⟨b, o, none⟩ w := rfl
  rw [h1]
  simp only [Result.andThen_ok, run_loadN ht hag hi' hlen hc]

/-! ### Code -/
section
variable {P : Program} {Q : Exit → Act → World → Prop} {n : Nat} {l : List (Nat × Bool × Value)} {σ : Nat → Value} {w : World}
theorem then_normal {next : Act → World → Prop} {a : Act} (h : next a w) : Exit.then next Q .normal a w := h
theorem then_ret {next : Act → World → Prop} {a : Act} (h : Q .ret a w) : Exit.then next Q .ret a w := h
theorem then_exit {next : Act → World → Prop} {a : Act} {i : Nat} (h : Q (.exit i) a w) : Exit.then next Q (.exit i) a w := h
theorem inB_normal {a : Act} {i : Nat} (h : Q .normal a w) : Exit.inBlock i Q .normal a w := h
theorem inB_ret {a : Act} {i : Nat} (h : Q .ret a w) : Exit.inBlock i Q .ret a w := h
theorem inB_exit_same {a : Act} {i : Nat} (h : Q .normal a w) : Exit.inBlock i Q (.exit i) a w := by simp only [Exit.inBlock, if_true]; exact h
theorem inB_exit_other {a : Act} {i j : Nat} (hne : Nat.beq j i = false) (h : Q (.exit j) a w) : Exit.inBlock i Q (.exit j) a w := by
  have : j ≠ i := no_beq hne
  simp only [Exit.inBlock, if_neg this]; exact h

theorem cond_split {c : Operand} {x y : Code} {b : Bool} (hc : ev n l c = some (true, .bool b)) (ht : b = true → x.wp P Q (act (ds := ds) n l σ) w) (hf : b = false → y.wp P Q (act (ds := ds) n l σ) w) :
    (Code.cond c x y).wp P Q (act (ds := ds) n l σ) w := wp_cond_split (eval_ev hc rfl) ht hf
theorem cond_true {c : Operand} {x y : Code} {b : Bool} (hc : ev n l c = some (true, .bool b)) (hb : b = true) (ht : x.wp P Q (act (ds := ds) n l σ) w) :
    (Code.cond c x y).wp P Q (act (ds := ds) n l σ) w := wp_cond_true (by rw [eval_ev hc rfl, hb]) ht
theorem cond_false {c : Operand} {x y : Code} {b : Bool} (hc : ev n l c = some (true, .bool b)) (hb : b = false) (hf : y.wp P Q (act (ds := ds) n l σ) w) :
    (Code.cond c x y).wp P Q (act (ds := ds) n l σ) w := wp_cond_false (by rw [eval_ev hc rfl, hb]) hf
end

/-- A loop: what is known of the slots (K) and of the world (F) as functions of a state of one's own. -/
theorem wp_loop_g {P : Program} {c : Code} {Q : Exit → Act → World → Prop} {a : Act} {w : World} (I : Nat → Act → World → Prop) (m0 : Nat) (h0 : I m0 a w)
    (round : ∀ m a w, I m a w → c.wp P (Exit.then (fun a' w' => ∃ m', m' < m ∧ I m' a' w') Q) a w) : (Code.loop c).wp P Q a w := by
  intro b k cs
  have key : ∀ m a w, I m a w → ∃ e a' w', Q e a' w' ∧ Arrives P (lone (b.at a (.code c :: .inLoop c :: k)) cs w) b k cs e a' w' := by
    intro m
    induction m using Nat.strongRecOn with
    | _ m ih =>
      intro a w hI
      obtain ⟨e, a₁, w₁, hq, harr⟩ := round m a w hI b (.inLoop c :: k) cs
      cases e with
      | normal =>
        obtain ⟨m', hlt, hI₁⟩ := hq
        obtain ⟨e₂, a₂, w₂, hq₂, harr₂⟩ := ih m' hlt a₁ w₁ hI₁
        exact ⟨e₂, a₂, w₂, hq₂, .of_steps (Steps.trans harr (.one step_inLoop)) harr₂⟩
      | exit id => exact ⟨_, a₁, w₁, hq, .pass (x := .inLoop c) rfl (fun _ _ => .inl (by simp)) harr⟩
      | goto l => exact ⟨_, a₁, w₁, hq, .pass (x := .inLoop c) rfl (fun _ _ => .inl (by simp)) harr⟩
      | ret => exact ⟨_, a₁, w₁, hq, .pass (x := .inLoop c) rfl (fun _ _ => .inl (by simp)) harr⟩
      | panic ch => exact ⟨_, a₁, w₁, hq, .pass (x := .inLoop c) rfl (fun _ _ => .inl (by simp)) harr⟩
      | outgrown => exact ⟨_, a₁, w₁, hq, .pass (x := .inLoop c) rfl (fun _ _ => .inl (by simp)) harr⟩
  obtain ⟨e, a', w', hq, harr⟩ := key m0 a w h0
  exact ⟨e, a', w', hq, .of_steps (.one step_loop) harr⟩

theorem loop_act {P : Program} {c : Code} {Q : Exit → Act → World → Prop} {n : Nat} {l : List (Nat × Bool × Value)} {σ : Nat → Value} {w : World} {α : Type}
    (K : α → List (Nat × Value)) (F : α → World → Prop) (μ : α → Nat) (x0 : α) (hS : Sub l (K x0)) (h0 : F x0 w)
    (round : ∀ x σ w, F x w → c.wp P (Exit.then (fun a' w' => ∃ x' l' σ', μ x' < μ x ∧ a' = act (ds := ds) n l' σ' ∧ Sub l' (K x') ∧ F x' w') Q) (act (ds := ds) n (kn (K x)) σ) w) :
    (Code.loop c).wp P Q (act (ds := ds) n l σ) w := by
  refine wp_loop_g (fun m a w => ∃ x σ, m = μ x ∧ a = act (ds := ds) n (kn (K x)) σ ∧ F x w) (μ x0) ⟨x0, _, rfl, act_sub hS, h0⟩ ?_
  rintro m a w ⟨x, σ, rfl, rfl, hF⟩
  refine wp_mono (round x σ w hF) fun e a w h => ?_
  cases e with
  | normal =>
    obtain ⟨x', l', σ', hlt, rfl, hs, hF'⟩ := h
    exact ⟨_, hlt, x', _, rfl, act_sub hs, hF'⟩
  | _ => exact h
theorem loop_end {Q : Exit → Act → World → Prop} {n : Nat} {l : List (Nat × Bool × Value)} {σ : Nat → Value} {w : World} {α : Type} {K : α → List (Nat × Value)} {F : α → World → Prop} {μ : α → Nat} {x : α}
    (x' : α) (hlt : μ x' < μ x) (hs : Sub l (K x')) (hF : F x' w) : Exit.then (fun a' w' => ∃ x' l' σ', μ x' < μ x ∧ a' = act (ds := ds) n l' σ' ∧ Sub l' (K x') ∧ F x' w') Q .normal (act (ds := ds) n l σ) w :=
  ⟨x', l, σ, hlt, rfl, hs, hF⟩
/-- A cut behind which only this is known. -/
theorem seq_cut {P : Program} {c c' : Code} {Q : Exit → Act → World → Prop} {n : Nat} {a : Act} {w : World} {α : Type} (K : α → List (Nat × Value)) (F : α → World → Prop)
    (h1 : c.wp P (Exit.then (fun a' w' => ∃ x l' σ', a' = act (ds := ds) n l' σ' ∧ Sub l' (K x) ∧ F x w') Q) a w) (h2 : ∀ x σ w, F x w → c'.wp P Q (act (ds := ds) n (kn (K x)) σ) w) :
    (Code.seq c c').wp P Q a w := by
  refine wp_seq (wp_mono h1 fun e a w h => ?_)
  cases e with
  | normal =>
    obtain ⟨x, l', σ', rfl, hs, hF⟩ := h
    show c'.wp P Q _ _
    rw [act_sub hs]; exact h2 x _ _ hF
  | _ => exact h
theorem cut_end {Q : Exit → Act → World → Prop} {n : Nat} {l : List (Nat × Bool × Value)} {σ : Nat → Value} {w : World} {α : Type} {K : α → List (Nat × Value)} {F : α → World → Prop}
    (x : α) (hs : Sub l (K x)) (hF : F x w) : Exit.then (fun a' w' => ∃ x l' σ', a' = act (ds := ds) n l' σ' ∧ Sub l' (K x) ∧ F x w') Q .normal (act (ds := ds) n l σ) w := ⟨x, l, σ, rfl, hs, hF⟩

/-! ### Worlds -/
abbrev Ext (w w' : World) : Prop := Below w.heap.size w w'
theorem Ext.rfl' (w : World) : Ext w w := Below.refl _ _
theorem Ext.comp {a b c : World} (h : Ext a b) (k : Ext b c) : Ext a c := Below.trans h (Below.mono k h.size)
theorem Ext.drewN {a b : World} (h : Ext a b) (n : Nat) : Ext a (b.drewN n) := ⟨h.os, h.tape, h.output, h.size, h.block⟩
theorem ext_drew (w : World) : Ext w w.drew := (Below.refl _ _).drew
theorem ext_alloc (w : World) (o : Obj) : Ext w (w.alloc o) := (Below.refl _ _).alloc (Nat.le_refl _) o
theorem below_ext {B : Nat} {a b c : World} (h : Below B a b) (hB : B ≤ b.heap.size) (k : Ext b c) : Below B a c := h.trans (k.mono hB)
theorem cell_lt {w : World} {p : Addr} {v : Value} (h : w.cell? p = some v) : p.block < w.heap.size := World.block_lt_of_cell? w p h
theorem Ext.cell {w w' : World} {p : Addr} {v : Value} (e : Ext w w') (h : w.cell? p = some v) : w'.cell? p = some v := (Below.cell e (cell_lt h)).trans h
/-- The facts on cells in every world that grew out of w. -/
theorem ext_cell {w : World} {p : Addr} {v : Value} (h : w.cell? p = some v) : ∀ w', Ext w w' → w'.cell? p = some v := fun _ e => e.cell h

/-- A block known whole. -/
def Blk (w : World) (g : Nat) (t : TypeId) (cs : List Value) : Prop := w.heap[g]? = some (.cells cs.toArray t (0, 0))
theorem Blk.lt {w : World} {g : Nat} {t : TypeId} {cs : List Value} (h : Blk w g t cs) : g < w.heap.size := by
  rcases Nat.lt_or_ge g w.heap.size with hlt | hge
  · exact hlt
  · unfold Blk at h; rw [Array.getElem?_eq_none hge] at h; cases h
theorem Blk.cell {w : World} {g : Nat} {t : TypeId} {cs : List Value} (h : Blk w g t cs) {i : Nat} {v : Value} (hv : cs[i]? = some v) : w.cell? ⟨g, i, none⟩ = some v := by
  unfold Blk at h
  simp [World.cell?, h, hv]
theorem Blk.free {w : World} {g : Nat} {t : TypeId} {cs : List Value} (h : Blk w g t cs) (i : Nat) : w.frozen? ⟨g, i, none⟩ = false := by
  unfold Blk at h
  simp [World.frozen?, h]
theorem Blk.ext {w w' : World} {g : Nat} {t : TypeId} {cs : List Value} (h : Blk w g t cs) (e : Ext w w') : Blk w' g t cs := (e.block g h.lt).trans h
theorem Blk.new (w : World) (t : TypeId) (cs : List Value) : Blk (w.alloc (.cells cs.toArray t)) w.heap.size t cs := heap_alloc_new w _

/-- Only block g may have changed. -/
structure Kp (g : Nat) (w w' : World) : Prop where
  os : w'.os = w.os
  tape : w'.tape = w.tape
  output : w'.output = w.output
  size : w'.heap.size = w.heap.size
  block : ∀ k, k ≠ g → w'.heap[k]? = w.heap[k]?
theorem Kp.below {g B : Nat} {a w w' : World} (h : Below B a w) (k : Kp g w w') (hg : B ≤ g) : Below B a w' :=
  ⟨k.os.trans h.os, k.tape.trans h.tape, k.output.trans h.output, by rw [k.size]; exact h.size, fun i hi => (k.block i (by omega)).trans (h.block i hi)⟩
theorem Kp.cell {g : Nat} {w w' : World} (k : Kp g w w') {p : Addr} {v : Value} (hp : p.block ≠ g) (h : w.cell? p = some v) : w'.cell? p = some v :=
  (World.cell?_of_block (w := w) (k.block _ hp)).trans h
theorem Blk.kp {g g' : Nat} {w w' : World} {t : TypeId} {cs : List Value} (h : Blk w g' t cs) (k : Kp g w w') (hne : g' ≠ g) : Blk w' g' t cs := (k.block _ hne).trans h

/-! ### Operations that only look -/
/-- In every world of the class the operation yields v and leaves the world. -/
def Look (P : Program) (C : World → Prop) (n : Nat) (l : List (Nat × Bool × Value)) (σ : Nat → Value) (o : Oper) (v : Value) : Prop :=
  ∀ w, C w → (execOp (act (ds := []) n l σ).eval o).run P w = .ok (.value v) w

theorem Look.at_ {P : Program} {C : World → Prop} {n : Nat} {l : List (Nat × Bool × Value)} {σ : Nat → Value} {o : Oper} {v : Value} (h : Look P C n l σ o v) (w : World) (hw : C w) : (execOp (act (ds := ds) n l σ).eval o).run P w = .ok (.value v) w := h w hw

section
variable {P : Program} {C : World → Prop} {n : Nat} {l : List (Nat × Bool × Value)} {σ : Nat → Value}
  {d : Option Tmp} {ty : TypeId} {pos : String} {after : Array Edge} {g : Option (Nat × Bool)} {p q : Bool}

theorem look_move {x : Operand} {v : Value} (hx : ev n l x = some (p, v)) (hp : p = true) : Look P C n l σ ⟨d, .move x, ty, pos, after, g⟩ v := fun w _ => by
  simp [execOp, eval_ev hx hp]
theorem look_assign {x : Operand} {v : Value} (hx : ev n l x = some (p, v)) (hp : p = true) : Look P C n l σ ⟨d, .assign x, ty, pos, after, g⟩ v := fun w _ => by
  simp [execOp, eval_ev hx hp]
theorem look_not {x : Operand} {t : TypeId} {b : Bool} (hx : ev n l x = some (p, .bool b)) (hp : p = true) : Look P C n l σ ⟨d, .unOp .not t x, ty, pos, after, g⟩ (.bool !b) := fun w _ => by
  simp [execOp, eval_ev hx hp, Op.unary]
theorem look_len_slice {x : Operand} {t e : TypeId} {a : Option Addr} {k c : Nat} (ht : P.underlying t = some (.slice e)) (hx : ev n l x = some (p, .slice a k c)) (hp : p = true) :
    Look P C n l σ ⟨d, .call { callee := .builtin .len, args := #[x], argTypes := #[t] }, ty, pos, after, g⟩ (.int .i64 k) := fun w _ => by
  simp [execOp, resolve, invoke, eval_ev hx hp, builtin, Builtin.len_, goInt, run_underlying ht]
theorem look_nilCheck {x : Operand} {a : Addr} (hx : ev n l x = some (p, .pointer (some a))) (hp : p = true) : Look P C n l σ ⟨d, .nilCheck x, ty, pos, after, g⟩ (.pointer (some a)) := fun w _ => by
  simp [execOp, eval_ev hx hp]

theorem look_cmp {op : BinOp} {t t' : TypeId} {x y : Operand} {k : IntKind} {m m' : Int} {v : Value} (hx : ev n l x = some (p, .int k m)) (hp : p = true) (hy : ev n l y = some (q, .int k m')) (hq : q = true)
    (hop : ∀ w : World, (Op.intCmp op m m').run P w = .ok v w) (hk : (op == .lss || op == .leq || op == .gtr || op == .geq || op == .eql || op == .neq) = true) :
    Look P C n l σ ⟨d, .binOp op t x y t', ty, pos, after, g⟩ v := fun w _ => by
  cases op <;> first | (exfalso; revert hk; decide) | simp [execOp, eval_ev hx hp, eval_ev hy hq, eqGuard, binOp, hop]

theorem look_lss {t t' : TypeId} {x y : Operand} {k : IntKind} {m m' : Int} (hx : ev n l x = some (p, .int k m)) (hp : p = true) (hy : ev n l y = some (q, .int k m')) (hq : q = true) :
    Look P C n l σ ⟨d, .binOp .lss t x y t', ty, pos, after, g⟩ (.bool (decide (m < m'))) := look_cmp hx hp hy hq (fun _ => rfl) rfl
theorem look_leq {t t' : TypeId} {x y : Operand} {k : IntKind} {m m' : Int} (hx : ev n l x = some (p, .int k m)) (hp : p = true) (hy : ev n l y = some (q, .int k m')) (hq : q = true) :
    Look P C n l σ ⟨d, .binOp .leq t x y t', ty, pos, after, g⟩ (.bool (decide (m ≤ m'))) := look_cmp hx hp hy hq (fun _ => rfl) rfl
theorem look_gtr {t t' : TypeId} {x y : Operand} {k : IntKind} {m m' : Int} (hx : ev n l x = some (p, .int k m)) (hp : p = true) (hy : ev n l y = some (q, .int k m')) (hq : q = true) :
    Look P C n l σ ⟨d, .binOp .gtr t x y t', ty, pos, after, g⟩ (.bool (decide (m' < m))) := look_cmp hx hp hy hq (fun _ => rfl) rfl
theorem look_geq {t t' : TypeId} {x y : Operand} {k : IntKind} {m m' : Int} (hx : ev n l x = some (p, .int k m)) (hp : p = true) (hy : ev n l y = some (q, .int k m')) (hq : q = true) :
    Look P C n l σ ⟨d, .binOp .geq t x y t', ty, pos, after, g⟩ (.bool (decide (m' ≤ m))) := look_cmp hx hp hy hq (fun _ => rfl) rfl
theorem look_eql {t t' : TypeId} {x y : Operand} {k : IntKind} {m m' : Int} (hx : ev n l x = some (p, .int k m)) (hp : p = true) (hy : ev n l y = some (q, .int k m')) (hq : q = true) :
    Look P C n l σ ⟨d, .binOp .eql t x y t', ty, pos, after, g⟩ (.bool (decide (m = m'))) := look_cmp hx hp hy hq (fun _ => by simp [Op.intCmp, int_beq]) rfl
theorem look_neq {t t' : TypeId} {x y : Operand} {k : IntKind} {m m' : Int} (hx : ev n l x = some (p, .int k m)) (hp : p = true) (hy : ev n l y = some (q, .int k m')) (hq : q = true) :
    Look P C n l σ ⟨d, .binOp .neq t x y t', ty, pos, after, g⟩ (.bool (!decide (m = m'))) := look_cmp hx hp hy hq (fun _ => by simp [Op.intCmp, bne, int_beq]) rfl

theorem look_eql_bool {t t' : TypeId} {x y : Operand} {b b' : Bool} (ht : P.underlying t = some .bool) (hx : ev n l x = some (p, .bool b)) (hp : p = true) (hy : ev n l y = some (q, .bool b')) (hq : q = true) :
    Look P C n l σ ⟨d, .binOp .eql t x y t', ty, pos, after, g⟩ (.bool (b == b')) := fun w _ => by
  have h1 : (Op.equal t (.bool b) (.bool b')).run P w = .ok (b == b') w := by
    unfold Op.equal Op.maxDepth
    rw [show (10000 : Nat) = 9999 + 1 from rfl, Op.equalIn]
    simp [run_underlying ht]
  simp only [execOp, eval_ev hx hp, eval_ev hy hq, eqGuard, binOp]
  simp [h1]

/-- An int's sum, where nothing wraps. -/
def I64 (x : Int) : Prop := -9223372036854775808 ≤ x ∧ x ≤ 9223372036854775807
theorem wrap_I64 {x : Int} (h : I64 x) : IntKind.i64.wrap x = x := IntWalk.i64_in x h
theorem look_add {t t' : TypeId} {x y : Operand} {m m' : Int} (hx : ev n l x = some (p, .int .i64 m)) (hp : p = true) (hy : ev n l y = some (q, .int .i64 m')) (hq : q = true) (hb : I64 (m + m')) :
    Look P C n l σ ⟨d, .binOp .add t x y t', ty, pos, after, g⟩ (.int .i64 (m + m')) := fun w _ => by
  simp [execOp, eval_ev hx hp, eval_ev hy hq, eqGuard, binOp, Op.intArith, wrap_I64 hb]
theorem look_sub {t t' : TypeId} {x y : Operand} {m m' : Int} (hx : ev n l x = some (p, .int .i64 m)) (hp : p = true) (hy : ev n l y = some (q, .int .i64 m')) (hq : q = true) (hb : I64 (m - m')) :
    Look P C n l σ ⟨d, .binOp .sub t x y t', ty, pos, after, g⟩ (.int .i64 (m - m')) := fun w _ => by
  simp [execOp, eval_ev hx hp, eval_ev hy hq, eqGuard, binOp, Op.intArith, wrap_I64 hb]
theorem look_mul {t t' : TypeId} {x y : Operand} {m m' : Int} (hx : ev n l x = some (p, .int .i64 m)) (hp : p = true) (hy : ev n l y = some (q, .int .i64 m')) (hq : q = true) (hb : I64 (m * m')) :
    Look P C n l σ ⟨d, .binOp .mul t x y t', ty, pos, after, g⟩ (.int .i64 (m * m')) := fun w _ => by
  simp [execOp, eval_ev hx hp, eval_ev hy hq, eqGuard, binOp, Op.intArith, wrap_I64 hb]
/-- .. whatever it does. -/
theorem look_addw {t t' : TypeId} {x y : Operand} {k : IntKind} {m m' : Int} (hx : ev n l x = some (p, .int k m)) (hp : p = true) (hy : ev n l y = some (q, .int k m')) (hq : q = true) :
    Look P C n l σ ⟨d, .binOp .add t x y t', ty, pos, after, g⟩ (.int k (k.wrap (m + m'))) := fun w _ => by
  simp [execOp, eval_ev hx hp, eval_ev hy hq, eqGuard, binOp, Op.intArith]
theorem look_subw {t t' : TypeId} {x y : Operand} {k : IntKind} {m m' : Int} (hx : ev n l x = some (p, .int k m)) (hp : p = true) (hy : ev n l y = some (q, .int k m')) (hq : q = true) :
    Look P C n l σ ⟨d, .binOp .sub t x y t', ty, pos, after, g⟩ (.int k (k.wrap (m - m'))) := fun w _ => by
  simp [execOp, eval_ev hx hp, eval_ev hy hq, eqGuard, binOp, Op.intArith]
theorem look_mulw {t t' : TypeId} {x y : Operand} {k : IntKind} {m m' : Int} (hx : ev n l x = some (p, .int k m)) (hp : p = true) (hy : ev n l y = some (q, .int k m')) (hq : q = true) :
    Look P C n l σ ⟨d, .binOp .mul t x y t', ty, pos, after, g⟩ (.int k (k.wrap (m * m'))) := fun w _ => by
  simp [execOp, eval_ev hx hp, eval_ev hy hq, eqGuard, binOp, Op.intArith]
theorem look_quo {t t' : TypeId} {x y : Operand} {m m' : Int} (hx : ev n l x = some (p, .int .i64 m)) (hp : p = true) (hy : ev n l y = some (q, .int .i64 m')) (hq : q = true) (h0 : 0 ≤ m) (h0' : m ≤ 9223372036854775807) (h1 : 1 ≤ m') :
    Look P C n l σ ⟨d, .binOp .quo t x y t', ty, pos, after, g⟩ (.int .i64 (m / m')) := fun w _ => by
  have hb : I64 (m / m') := ⟨by have := Int.ediv_nonneg h0 (by omega : 0 ≤ m'); omega, by have := Int.ediv_le_self m' h0; omega⟩
  have hne : ¬ m' = 0 := by omega
  simp [execOp, eval_ev hx hp, eval_ev hy hq, eqGuard, binOp, Op.intDiv, hne, Int.tdiv_eq_ediv_of_nonneg h0, wrap_I64 hb]
theorem look_rem {t t' : TypeId} {x y : Operand} {k : IntKind} {m m' : Int} (hx : ev n l x = some (p, .int k m)) (hp : p = true) (hy : ev n l y = some (q, .int k m')) (hq : q = true) (h0 : 0 ≤ m) (h1 : m' ≠ 0) :
    Look P C n l σ ⟨d, .binOp .rem t x y t', ty, pos, after, g⟩ (.int k (m % m')) := fun w _ => by
  simp [execOp, eval_ev hx hp, eval_ev hy hq, eqGuard, binOp, Op.intDiv, h1, Int.tmod_eq_emod_of_nonneg h0]

theorem look_fieldAddr {s : TypeId} {fs : Array Field} {f : Field} {k : Nat} {x : Operand} {b o : Nat} (hs : P.underlying s = some (.struct fs)) (hf : fs[k]? = some f) (hz : ∀ (a : Addr) (w : World), (fieldPlace a f).run P w = .ok (a.add f.offset) w)
    (hx : ev n l x = some (p, .pointer (some ⟨b, o, none⟩))) (hp : p = true) :
    Look P C n l σ ⟨d, .fieldAddr s x k, ty, pos, after, g⟩ (.pointer (some ⟨b, o + f.offset, none⟩)) := fun w _ => by
  have e : (⟨b, o, none⟩ : Addr).add f.offset = ⟨b, o + f.offset, none⟩ := by unfold Addr.add; split <;> simp_all
  simp [execOp, Instr.fieldAt, run_underlying hs, hf, Instr.sureAddr, eval_ev hx hp, hz, e]

theorem info_of {P : Program} {t : TypeId} {α : Type} {f : TypeInfo → α} {x : α} (h : (P.info? t).map f = some x) : ∃ ti, P.info? t = some ti ∧ f ti = x := by
  cases hi : P.info? t with
  | none => rw [hi] at h; cases h
  | some ti => rw [hi] at h; exact ⟨ti, rfl, Option.some.inj h⟩
theorem look_indexAddr {s e : TypeId} {x i : Operand} {b o c len size : Nat} {k : IntKind} {j : Int} (m : Nat) (hs : P.underlying s = some (.slice e)) (hi' : (P.info? e).map (fun i => i.size) = some size)
    (hx : ev n l x = some (p, .slice (some ⟨b, o, none⟩) len c)) (hp : p = true) (hy : ev n l i = some (q, .int k j)) (hq : q = true) (hm : j = (m : Int)) (hlt : m < len) :
    Look P C n l σ ⟨d, .indexAddr s x i, ty, pos, after, g⟩ (.pointer (some ⟨b, o + m * size, none⟩)) := fun w _ => by
  subst hm
  obtain ⟨ti, hi, hz⟩ := info_of hi'
  have e1 : (⟨b, o, none⟩ : Addr).add (m * size) = ⟨b, o + m * size, none⟩ := by unfold Addr.add; split <;> simp_all
  simp [execOp, Instr.indexAt, run_underlying hs, eval_ev hx hp, eval_ev hy hq, asIntOf, sizeOf, typeInfo, hi, hz, hlt, e1]
theorem look_indexAddr_arr {s e : TypeId} {x i : Operand} {b o len size : Nat} {k : IntKind} {j : Int} (m : Nat) (hs : P.underlying s = some (.array len e)) (hi' : (P.info? e).map (fun i => i.size) = some size)
    (hx : ev n l x = some (p, .pointer (some ⟨b, o, none⟩))) (hp : p = true) (hy : ev n l i = some (q, .int k j)) (hq : q = true) (hm : j = (m : Int)) (hlt : m < len) :
    Look P C n l σ ⟨d, .indexAddr s x i, ty, pos, after, g⟩ (.pointer (some ⟨b, o + m * size, none⟩)) := fun w _ => by
  subst hm
  obtain ⟨ti, hi, hz⟩ := info_of hi'
  have e1 : (⟨b, o, none⟩ : Addr).add (m * size) = ⟨b, o + m * size, none⟩ := by unfold Addr.add; split <;> simp_all
  simp [execOp, Instr.indexAt, run_underlying hs, eval_ev hx hp, eval_ev hy hq, asIntOf, sizeOf, typeInfo, hi, hz, hlt, e1, Instr.sureAddr]

theorem look_slice_arr {t e : TypeId} {x : Operand} {b o len size : Nat} (hs : P.underlying t = some (.array len e)) (hi' : (P.info? e).map (fun i => i.size) = some size)
    (hx : ev n l x = some (p, .pointer (some ⟨b, o, none⟩))) (hp : p = true) : Look P C n l σ ⟨d, .slice t x none none none, ty, pos, after, g⟩ (.slice (some ⟨b, o, none⟩) len len) := fun w _ => by
  obtain ⟨ti, hi, hz⟩ := info_of hi'
  have e1 : ∀ k : Nat, (⟨b, o, none⟩ : Addr).add (0 * k) = ⟨b, o, none⟩ := fun k => by simp [Addr.add]
  simp [execOp, Instr.sliceAt, run_underlying hs, Instr.sureAddr, eval_ev hx hp, Instr.sliceBounds, sizeOf, typeInfo, hi, program, Sem.run, Addr.add]
/-- One cell. -/
theorem look_load1 {t : TypeId} {x : Operand} {a : Addr} {v : Value} {td : TypeDesc} (ht : P.underlying t = some td) (hag : (match td with | .struct _ | .array _ _ => false | _ => true) = true)
    (hx : ev n l x = some (p, .pointer (some a))) (hp : p = true) (hc : ∀ w, C w → w.cell? a = some v) : Look P C n l σ ⟨d, .load t x, ty, pos, after, g⟩ v := fun w hw => by
  have h := hc w hw
  simp only [execOp, Instr.loadAt, Instr.sureAddr, eval_ev hx hp, loadVar, isAgg, Sem.run_bind, Sem.run_pure, Result.andThen_ok, run_underlying ht]
  cases td <;> simp_all [load, Sem.run]
/-- A struct or an array, its cells by number. -/
theorem look_loadN {t : TypeId} {x : Operand} {b o size : Nat} {cs : List Value} {td : TypeDesc} (ht : P.underlying t = some td) (hag : (match td with | .struct _ | .array _ _ => true | _ => false) = true) (hi' : (P.info? t).map (fun i => i.size) = some size) (hlen : cs.length = size)
    (hx : ev n l x = some (p, .pointer (some ⟨b, o, none⟩))) (hp : p = true) (hc : ∀ w, C w → ∀ j v, cs[j]? = some v → w.cell? ⟨b, o + j, none⟩ = some v) : Look P C n l σ ⟨d, .load t x, ty, pos, after, g⟩ (.agg cs.toArray) := fun w hw => by
  obtain ⟨ti, hi, hz⟩ := info_of hi'
  have h := hc w hw
  have h' : (loadCells ⟨b, o, none⟩ cs.length).run P w = .ok cs.toArray w := run_loadCells_list w _ cs fun j v hv => by
    have e : (⟨b, o, none⟩ : Addr).add j = ⟨b, o + j, none⟩ := by unfold Addr.add; split <;> simp_all
    rw [e]; exact h j v hv
  rw [hlen] at h'
  simp only [execOp, Instr.loadAt, Instr.sureAddr, eval_ev hx hp, loadVar, isAgg, sizeOf, typeInfo, Sem.run_bind, Sem.run_pure, Result.andThen_ok, run_underlying ht]
  cases td <;> simp_all [program, Sem.run]

theorem look_extract {x : Operand} {i : Nat} {vs : List Value} {v : Value} (hx : ev n l x = some (p, .tuple vs.toArray)) (hp : p = true) (hv : vs[i]? = some v) :
    Look P C n l σ ⟨d, .extract x i, ty, pos, after, g⟩ v := fun w _ => by
  simp [execOp, eval_ev hx hp, Instr.extract, hv]
theorem look_makeFunc {f : FuncId} {xs : List Operand} {vs : List Value} (ha : Evs n l xs vs) : Look P C n l σ ⟨d, .makeFunc (.func f) #[] xs.toArray, ty, pos, after, g⟩ (.func (.func f) #[] vs.toArray) := fun w _ => by
  simp [execOp, Instr.makeFunc, ha.map]
theorem run_places : ∀ (fs : List Field) (pl : List (Nat × Nat)), fs.map (fun f => (P.info? f.type).map fun i => (f.offset, i.size)) = pl.map some → ∀ w : World, (fs.mapM (m := Sem) fun f => do pure (f.offset, ← sizeOf f.type)).run P w = .ok pl w
  | [], [], _, w => by simp
  | [], _ :: _, h, _ => by cases h
  | _ :: _, [], h, _ => by cases h
  | f :: fs, q :: pl, h, w => by
    simp only [List.map_cons, List.cons.injEq] at h
    obtain ⟨ti, hi, hq⟩ := info_of h.1
    have ih := run_places fs pl h.2 w
    have h1 : (sizeOf f.type).run P w = .ok ti.size w := by simp [sizeOf, typeInfo, program, Sem.run, hi]
    rw [List.mapM_cons]
    simp only [Sem.run_bind, h1, Sem.run_pure, Result.andThen_ok, hq]
    rw [ih]; rfl
/-- A struct literal: 'pl' the fields' places, 'cells' what fill makes of it. -/
theorem look_build {t : TypeId} {fs : Array Field} {pl : List (Nat × Nat)} {parts : List (Nat × Operand)} {vs : List (Nat × Value)} {z : Value} {cells : List Value}
    (ht : P.underlying t = some (.struct fs)) (hz' : (P.info? t).map (fun i => i.zero) = some (some z)) (hpl : fs.toList.map (fun f => (P.info? f.type).map fun i => (f.offset, i.size)) = pl.map some)
    (hv : Evs n l (parts.map (·.2)) (vs.map (·.2))) (hi : vs.map (·.1) = parts.map (·.1)) (hf : Instr.fill (fun i => pl.toArray[i]?) z.cells vs = some cells.toArray) :
    Look P C n l σ ⟨d, .build t parts.toArray, ty, pos, after, g⟩ (.agg cells.toArray) := fun w _ => by
  obtain ⟨ti, hti, hz⟩ := info_of hz'
  have hm := hv.map (ds := []) (σ := σ)
  have hparts : parts.map (fun x => (x.1, (act (ds := []) n l σ).eval x.2)) = vs := by
    have h1 : (parts.map (fun x => (x.1, (act (ds := []) n l σ).eval x.2))).map (·.2) = vs.map (·.2) := by rw [← hm]; simp
    have h2 : (parts.map (fun x => (x.1, (act (ds := []) n l σ).eval x.2))).map (·.1) = vs.map (·.1) := by rw [hi]; simp
    apply List.ext_getElem?
    intro j
    have h1j := congrArg (fun x => x[j]?) h1
    have h2j := congrArg (fun x => x[j]?) h2
    simp only [List.getElem?_map] at h1j h2j ⊢
    cases hp : parts[j]? <;> cases hvv : vs[j]? <;> simp_all
  have hpm : (fs.mapM (m := Sem) fun f => do pure (f.offset, ← sizeOf f.type)).run P w = .ok pl.toArray w := by
    rw [Array.mapM_eq_mapM_toList]
    simp only [Sem.run_map, run_places _ _ hpl w, Result.andThen_ok]
  simp only [execOp, Instr.build, zeroValue, typeInfo, Sem.run_bind, Sem.run_pure, Result.andThen_ok, program, run_underlying ht]
  simp only [Sem.run, hti, hz, Result.andThen_ok, Sem.run_pure, hpm]
  simp only [List.map_toArray, hparts, hf, Sem.run_pure, Result.andThen_ok]

/-- Structs of one-cell fields that can be compared. -/
def EqV (P : Program) (t : TypeId) (x y : Value) (b : Bool) : Prop := ∀ (k : Nat) (w : World), (Op.equalIn (k + 1) t x y).run P w = .ok b w
theorem eqv_int {t : TypeId} {k k' : IntKind} {a b : Int} (h : P.underlying t = some (.int k')) : EqV P t (.int k a) (.int k b) (decide (a = b)) := fun j w => by rw [run_equalIn_int w j t k k' a b h, int_beq]
theorem eqv_str {t : TypeId} {a b : ByteArray} (h : P.underlying t = some .string) : EqV P t (.string a) (.string b) (a.toList == b.toList) := fun j w => run_equalIn_string w j t a b h
theorem eqv_bool {t : TypeId} {a b : Bool} (h : P.underlying t = some .bool) : EqV P t (.bool a) (.bool b) (a == b) := fun j w => run_equalIn_bool' w j t a b h
def isFlat : TypeDesc → Bool
  | .struct _ | .array _ _ => false
  | _ => true
def FlatEq (P : Program) : List Field → List Value → List Value → Nat → Bool → Prop
  | [], [], [], _, b => b = true
  | f :: fs, x :: xs, y :: ys, k, b => f.name ≠ "_" ∧ f.offset = k ∧ (∃ td, P.underlying f.type = some td ∧ isFlat td = true) ∧ ∃ b1 b2, EqV P f.type x y b1 ∧ FlatEq P fs xs ys (k + 1) b2 ∧ b = (b1 && b2)
  | _, _, _, _, _ => False
theorem run_part1 {t : TypeId} {cs : Array Value} {o : Nat} {v : Value} {td : TypeDesc} (ht : P.underlying t = some td) (hag : isFlat td = true) (hv : cs[o]? = some v) (w : World) : (part t cs o).run P w = .ok v w := by
  simp only [part, isAgg, Sem.run_bind, run_underlying ht, Result.andThen_ok]
  cases td <;> simp_all [isFlat]
theorem run_eqFields (xs0 ys0 : List Value) (k0 : Nat) : ∀ (fs : List Field) (xs ys : List Value) (k : Nat) (b : Bool), xs0.drop k = xs → ys0.drop k = ys → FlatEq P fs xs ys k b → ∀ w : World, (Op.eqFields (k0 + 1) xs0.toArray ys0.toArray fs).run P w = .ok b w
  | [], [], [], k, b, _, _, h, w => by simp only [FlatEq] at h; subst h; simp [Op.eqFields]
  | f :: fs, x :: xs, y :: ys, k, b, hx, hy, h, w => by
    obtain ⟨hn, ho, ⟨td, ht, hag⟩, b1, b2, he, hr, rfl⟩ := h
    have hx0 : xs0[k]? = some x := by have := congrArg (fun l => l[0]?) hx; simpa using this
    have hy0 : ys0[k]? = some y := by have := congrArg (fun l => l[0]?) hy; simpa using this
    have hx1 : xs0.drop (k + 1) = xs := by rw [← List.drop_drop, hx]; rfl
    have hy1 : ys0.drop (k + 1) = ys := by rw [← List.drop_drop, hy]; rfl
    have ih := run_eqFields xs0 ys0 k0 fs xs ys (k + 1) b2 hx1 hy1 hr w
    simp only [Op.eqFields, if_pos hn, Sem.run_bind]
    rw [run_part1 ht hag (by simpa [ho] using hx0) w]
    simp only [Result.andThen_ok]
    rw [run_part1 ht hag (by simpa [ho] using hy0) w]
    simp only [Result.andThen_ok, he k0 w]
    cases b1
    · simp
    · simpa using ih
  | [], _ :: _, _, _, _, _, _, h, _ => by simp [FlatEq] at h
  | [], [], _ :: _, _, _, _, _, h, _ => by simp [FlatEq] at h
  | _ :: _, [], _, _, _, _, _, h, _ => by simp [FlatEq] at h
  | _ :: _, _ :: _, [], _, _, _, _, h, _ => by simp [FlatEq] at h
theorem look_eql_flat {t t' : TypeId} {x y : Operand} {fs : Array Field} {xs ys : List Value} {b : Bool} (ht : P.underlying t = some (.struct fs)) (hst : P.stoodInHeld t = false) (hg : P.eqGuardType P.depth t = false)
    (hx : ev n l x = some (p, .agg xs.toArray)) (hp : p = true) (hy : ev n l y = some (q, .agg ys.toArray)) (hq : q = true) (hf : FlatEq P fs.toList xs ys 0 b) :
    Look P C n l σ ⟨d, .binOp .eql t x y t', ty, pos, after, g⟩ (.bool b) := fun w _ => by
  have hfo : P.fieldsOf t = fs := by unfold Program.fieldsOf; rw [ht]
  have h1 : (Op.equalIn 10000 t (.agg xs.toArray) (.agg ys.toArray)).run P w = .ok b w := by
    rw [run_equalIn_struct w 9999 t _ _ (by rw [hfo]; exact ht) hst, hfo]
    exact run_eqFields xs ys 9998 fs.toList xs ys 0 b rfl rfl hf w
  simp only [execOp, eval_ev hx hp, eval_ev hy hq, Sem.run_bind, run_eqGuard_agg w .eql t x y _ _ hg, Result.andThen_ok, run_eql_struct, h1, Sem.run_pure]
theorem look_neq_flat {t t' : TypeId} {x y : Operand} {fs : Array Field} {xs ys : List Value} {b : Bool} (ht : P.underlying t = some (.struct fs)) (hst : P.stoodInHeld t = false) (hg : P.eqGuardType P.depth t = false)
    (hx : ev n l x = some (p, .agg xs.toArray)) (hp : p = true) (hy : ev n l y = some (q, .agg ys.toArray)) (hq : q = true) (hf : FlatEq P fs.toList xs ys 0 b) :
    Look P C n l σ ⟨d, .binOp .neq t x y t', ty, pos, after, g⟩ (.bool !b) := fun w _ => by
  have hfo : P.fieldsOf t = fs := by unfold Program.fieldsOf; rw [ht]
  have h1 : (Op.equalIn 10000 t (.agg xs.toArray) (.agg ys.toArray)).run P w = .ok b w := by
    rw [run_equalIn_struct w 9999 t _ _ (by rw [hfo]; exact ht) hst, hfo]
    exact run_eqFields xs ys 9998 fs.toList xs ys 0 b rfl rfl hf w
  simp only [execOp, eval_ev hx hp, eval_ev hy hq, Sem.run_bind, run_eqGuard_agg w .neq t x y _ _ hg, Result.andThen_ok, run_neq_struct, h1, Sem.run_pure]

theorem look_conv_int {t t' : TypeId} {x : Operand} {k k' : IntKind} {m m' : Int} (ht' : P.underlying t' = some (.int k')) (ht : P.underlying t = some (.int k)) (hx : ev n l x = some (p, .int k m)) (hp : p = true) (hm : k'.wrap m = m') :
    Look P C n l σ ⟨d, .convert t t' x, ty, pos, after, g⟩ (.int k' m') := fun w _ => by
  simp [execOp, eval_ev hx hp, convert, run_underlying ht, run_underlying ht', Conv.intToInt, hm]

/-- Another spelling of what was seen. -/
theorem Look.as {o : Oper} {v v' : Value} (h : Look P C n l σ o v) (e : v = v') : Look P C n l σ o v' := e ▸ h
theorem look_and2 {c a : Operand} {cb x : Bool} (hc : ev n l c = some (p, .bool cb)) (hp : p = true) (ha : ev n l a = some (q, .bool x)) (hq : q = true) :
    Look P C n l σ ⟨d, .pick c a (.const (.bool false)), ty, pos, after, g⟩ (.bool (cb && x)) := fun w _ => by
  cases cb with
  | true => simp [execOp, eval_ev hc hp, eval_ev ha hq, asBool]
  | false =>
    have e := eval_ev (ds := []) (σ := σ) hc hp
    simp only [execOp, e, asBool]
    simp [Act.eval]
theorem look_or2 {c a : Operand} {cb x : Bool} (hc : ev n l c = some (p, .bool cb)) (hp : p = true) (ha : ev n l a = some (q, .bool x)) (hq : q = true) :
    Look P C n l σ ⟨d, .pick c (.const (.bool true)) a, ty, pos, after, g⟩ (.bool (cb || x)) := fun w _ => by
  cases cb with
  | true =>
    have e := eval_ev (ds := []) (σ := σ) hc hp
    simp only [execOp, e, asBool]
    simp [Act.eval]
  | false => simp [execOp, eval_ev hc hp, eval_ev ha hq, asBool]
/-- A pick whose condition is known. -/
theorem look_pick_t {c a b : Operand} {cb : Bool} {v : Value} (hc : ev n l c = some (p, .bool cb)) (hp : p = true) (hb : cb = true) (ha : ev n l a = some (q, v)) (hq : q = true) :
    Look P C n l σ ⟨d, .pick c a b, ty, pos, after, g⟩ v := fun w _ => by
  subst hb
  simp [execOp, eval_ev hc hp, eval_ev ha hq, asBool]
theorem look_pick_f {c a b : Operand} {cb : Bool} {v : Value} (hc : ev n l c = some (p, .bool cb)) (hp : p = true) (hb : cb = false) (ha : ev n l b = some (q, v)) (hq : q = true) :
    Look P C n l σ ⟨d, .pick c a b, ty, pos, after, g⟩ v := fun w _ => by
  subst hb
  simp [execOp, eval_ev hc hp, eval_ev ha hq, asBool]

/-- '&&', '||' -/
def gq (p b want : Bool) : Bool := bif want then (p && b) else (p && !b)
theorem gqL {p b want : Bool} (h : gq p b want = true) : p = true := by cases p <;> cases b <;> cases want <;> simp_all [gq]
theorem gqR {p b want : Bool} (h : gq p b want = true) : b = want := by cases p <;> cases b <;> cases want <;> simp_all [gq]
theorem look_and {c a : Operand} {cb x : Bool} (hc : ev n l c = some (p, .bool cb)) (hp : p = true) (ha : ev n l a = some (gq q cb true, .bool x)) (hq : q = true) :
    Look P C n l σ ⟨d, .pick c a (.const (.bool false)), ty, pos, after, g⟩ (.bool (cb && x)) := fun w _ => by
  cases cb with
  | true => simp [execOp, eval_ev hc hp, eval_ev ha (by rw [hq]; rfl), asBool]
  | false =>
    have e := eval_ev (ds := []) (σ := σ) hc hp
    simp only [execOp, e, asBool]
    simp [Act.eval]
theorem look_or {c a : Operand} {cb x : Bool} (hc : ev n l c = some (p, .bool cb)) (hp : p = true) (ha : ev n l a = some (gq q cb false, .bool x)) (hq : q = true) :
    Look P C n l σ ⟨d, .pick c (.const (.bool true)) a, ty, pos, after, g⟩ (.bool (cb || x)) := fun w _ => by
  cases cb with
  | true =>
    have e := eval_ev (ds := []) (σ := σ) hc hp
    simp only [execOp, e, asBool]
    simp [Act.eval]
  | false => simp [execOp, eval_ev hc hp, eval_ev ha (by rw [hq]; rfl), asBool]
end

/-! ### The walk along a class of worlds (any order, draws or none) -/
section
variable {P : Program} {ops : Array Oper} {C : World → Prop} {Q : Act → Prop} {n : Nat} {l : List (Nat × Bool × Value)} {σ : Nat → Value} {rest : List Oper}
  {d : Tmp} {op : Op} {ty : TypeId} {pos : String} {after : Array Edge}

theorem q_look {v : Value} (h : Look P C n l σ ⟨some d, op, ty, pos, after, none⟩ v) (next : wpQuiet P ops C Q rest (act (ds := ds) n ((d, true, v) :: l) σ)) :
    wpQuiet P ops C Q (⟨some d, op, ty, pos, after, none⟩ :: rest) (act (ds := ds) n l σ) := by
  refine wpQuiet_step fun K hK => ?_
  simp only [Region.wanted, if_true]
  refine ⟨v, fun w hw => ?_, hK _ (by rw [put_act']; exact next)⟩
  unfold Oper.quietAt; rw [h.at_ w hw]; exact ⟨rfl, rfl⟩

def opAt : List Oper → Nat → Option Oper
  | [], _ => none
  | o :: _, 0 => some o
  | _ :: r, k + 1 => opAt r k
theorem opAt_spec : ∀ {L : List Oper} {j : Nat} {o : Oper}, opAt L j = some o → L.toArray[j]? = some o
  | [], _, _, h => by cases h
  | a :: _, 0, o, h => by simpa [opAt] using h
  | _ :: r, k + 1, o, h => by have := opAt_spec (L := r) (j := k) h; simpa using this
variable {L : List Oper}
theorem yielded_act {j dj : Nat} {oj : Oper} {p b : Bool} (hj : ops[j]? = some oj) (hd : oj.dst = some dj) (hv : ev n l (.tmp dj) = some (p, .bool b)) : yielded ops (act (ds := ds) n l σ).tmps j = if p then some b else none := by
  simp only [ev] at hv
  cases hb : Nat.blt dj n with
  | false => rw [hb] at hv; cases hv
  | true =>
    rw [hb] at hv
    have h2 : lk l dj = some (p, .bool b) := hv
    have h3 : dj < n := by simpa [Nat.blt_eq] using hb
    have h4 : (act (ds := ds) n l σ).tmps.getD dj undef = gv p (.bool b) := by rw [getD_act hb]; simp [fr, h2]
    simp only [yielded, hj, Option.bind_some, hd]
    have h5 : (act (ds := ds) n l σ).tmps[dj]? = some (gv p (.bool b)) := by
      have : dj < (act (ds := ds) n l σ).tmps.size := by simp [act, h3]
      rw [Array.getElem?_eq_getElem this]
      rw [Array.getD_eq_getD_getElem?, Array.getElem?_eq_getElem this] at h4
      simpa using h4
    cases p <;> simp [h5, gv, undef]

theorem wanted_act {j dj : Nat} {oj : Oper} {p b want : Bool} {od : Option Tmp} (hj : ops[j]? = some oj) (hd : oj.dst = some dj) (hv : ev n l (.tmp dj) = some (p, .bool b)) :
    Region.wanted ⟨od, op, ty, pos, after, some (j, want)⟩ (yielded ops (act (ds := ds) n l σ).tmps) = gq p b want := by
  simp only [Region.wanted, yielded_act hj hd hv]
  cases p <;> cases b <;> cases want <;> rfl

theorem q_lookg {v : Value} {j dj : Nat} {want p b : Bool} {oj : Oper} (hj' : opAt L j = some oj) (hd : oj.dst = some dj) (hv : ev n l (.tmp dj) = some (p, .bool b))
    (h : gq p b want = true → Look P C n l σ ⟨some d, op, ty, pos, after, some (j, want)⟩ v) (next : wpQuiet P L.toArray C Q rest (act (ds := ds) n ((d, gq p b want, v) :: l) σ)) :
    wpQuiet P L.toArray C Q (⟨some d, op, ty, pos, after, some (j, want)⟩ :: rest) (act (ds := ds) n l σ) := by
  have hj := opAt_spec hj'
  refine wpQuiet_step fun K hK => ?_
  rw [wanted_act hj hd hv]
  by_cases hw : gq p b want = true
  · rw [if_pos hw]
    refine ⟨v, fun w hw' => ?_, hK _ ?_⟩
    · unfold Oper.quietAt; rw [(h hw).at_ w hw']; exact ⟨rfl, rfl⟩
    · rw [put_act', ← hw]; exact next
  · rw [if_neg hw]
    refine hK _ ?_
    have hw' : gq p b want = false := by simpa using hw
    have := put_act (ds := ds) n l σ d (gq p b want) v
    rw [hw'] at this next
    rw [show undef = gv false v from rfl, this]; exact next

/-- Functions that have a body are entered. -/
def Enters (P : Program) (f : FuncId) : Prop := ∀ (args : Array Value) (w : World), (callFunc f args).run P w = .ok (.enter f args) w
theorem enters_of {P : Program} {f : FuncId} {fn : Func} (hf : P.funcs[f]? = some fn) (hn : (fn.name == "runtime.NumGoroutine") = false) (hb : fn.body.isNone = false) : Enters P f := fun args w => by
  have hn' : ¬ fn.name = "runtime.NumGoroutine" := by simpa using hn
  have hb' : ¬ fn.body = none := by intro h; rw [h] at hb; cases hb
  simp [callFunc, program, Sem.run, hf, hn', hb']

theorem run_call {f : FuncId} {xs : List Operand} {ts : Array TypeId} {vs : List Value} {o : Option Tmp} {g : Option (Nat × Bool)} (he : Enters P f) (ha : Evs n l xs vs) (w : World) :
    (execOp (act (ds := ds) n l σ).eval ⟨o, .call { callee := .value (.func f), args := xs.toArray, argTypes := ts }, ty, pos, after, g⟩).run P w = .ok (.enter f vs.toArray) w := by
  rw [execOp_call_go]
  have : (#[] ++ (xs.toArray).map (act (ds := ds) n l σ).eval ++ #[]) = vs.toArray := by simp [ha.map]
  rw [this]; exact he _ w
/-- A call through a function value of our own. -/
theorem run_callv {f : FuncId} {x : Operand} {xs : List Operand} {ts : Array TypeId} {vs cap : List Value} {o : Option Tmp} {g : Option (Nat × Bool)} {p : Bool} (he : Enters P f) (hx : ev n l x = some (p, .func (.func f) #[] cap.toArray)) (hp : p = true) (ha : Evs n l xs vs) (w : World) :
    (execOp (act (ds := ds) n l σ).eval ⟨o, .call { callee := .value x, args := xs.toArray, argTypes := ts }, ty, pos, after, g⟩).run P w = .ok (.enter f (vs ++ cap).toArray) w := by
  simp only [execOp, resolve, Deferred.ofValue, eval_ev hx hp, Sem.run_bind, Sem.run_pure, Result.andThen_ok, invoke]
  have : (#[] ++ (xs.toArray).map (act (ds := ds) n l σ).eval ++ cap.toArray) = (vs ++ cap).toArray := by simp [ha.map]
  rw [this]; exact he _ w

theorem q_call {f : FuncId} {xs : List Operand} {ts : Array TypeId} {vs : List Value} {v : Value} (he : Enters P f) (ha : Evs n l xs vs)
    (h : ∀ w, C w → Calls P f vs.toArray w fun e w' => e = .returned v ∧ C w') (next : wpQuiet P ops C Q rest (act (ds := ds) n ((d, true, v) :: l) σ)) :
    wpQuiet P ops C Q (⟨some d, .call { callee := .value (.func f), args := xs.toArray, argTypes := ts }, ty, pos, after, none⟩ :: rest) (act (ds := ds) n l σ) := by
  refine wpQuiet_step fun K hK => ?_
  simp only [Region.wanted, if_true]
  refine ⟨v, fun w hw => ?_, hK _ (by rw [put_act']; exact next)⟩
  unfold Oper.quietAt; rw [run_call he ha w]; exact ⟨rfl, h w hw⟩

theorem q_callg {f : FuncId} {xs : List Operand} {ts : Array TypeId} {vs : List Value} {v : Value} {j dj : Nat} {want p b : Bool} {oj : Oper} (hj' : opAt L j = some oj) (hd : oj.dst = some dj) (hv : ev n l (.tmp dj) = some (p, .bool b))
    (he : Enters P f) (ha : gq p b want = true → Evs n l xs vs)
    (h : gq p b want = true → ∀ w, C w → Calls P f vs.toArray w fun e w' => e = .returned v ∧ C w') (next : wpQuiet P L.toArray C Q rest (act (ds := ds) n ((d, gq p b want, v) :: l) σ)) :
    wpQuiet P L.toArray C Q (⟨some d, .call { callee := .value (.func f), args := xs.toArray, argTypes := ts }, ty, pos, after, some (j, want)⟩ :: rest) (act (ds := ds) n l σ) := by
  have hj := opAt_spec hj'
  refine wpQuiet_step fun K hK => ?_
  rw [wanted_act hj hd hv]
  by_cases hw : gq p b want = true
  · rw [if_pos hw]
    refine ⟨v, fun w hw' => ?_, hK _ (by rw [put_act', ← hw]; exact next)⟩
    unfold Oper.quietAt; rw [run_call he (ha hw) w]; exact ⟨rfl, h hw w hw'⟩
  · rw [if_neg hw]
    refine hK _ ?_
    have hw' : gq p b want = false := by simpa using hw
    have := put_act (ds := ds) n l σ d (gq p b want) v
    rw [hw'] at this next
    rw [show undef = gv false v from rfl, this]; exact next

theorem q_callv {f : FuncId} {x : Operand} {xs : List Operand} {ts : Array TypeId} {vs cap : List Value} {v : Value} (he : Enters P f) (hx : ev n l x = some (true, .func (.func f) #[] cap.toArray)) (ha : Evs n l xs vs)
    (h : ∀ w, C w → Calls P f (vs ++ cap).toArray w fun e w' => e = .returned v ∧ C w') (next : wpQuiet P ops C Q rest (act (ds := ds) n ((d, true, v) :: l) σ)) :
    wpQuiet P ops C Q (⟨some d, .call { callee := .value x, args := xs.toArray, argTypes := ts }, ty, pos, after, none⟩ :: rest) (act (ds := ds) n l σ) := by
  refine wpQuiet_step fun K hK => ?_
  simp only [Region.wanted, if_true]
  refine ⟨v, fun w hw => ?_, hK _ (by rw [put_act']; exact next)⟩
  unfold Oper.quietAt; rw [run_callv he hx rfl ha w]; exact ⟨rfl, h w hw⟩

theorem q_nil (h : Q (act (ds := ds) n l σ)) : wpQuiet P ops C Q [] (act (ds := ds) n l σ) := h
end

/-- A region without a draw, in the class of what grows out of w. -/
theorem wpList_of_quiet {P : Program} {ops : Array Oper} {C : World → Prop} {Q : Exit → Act → World → Prop} : ∀ (l : List Oper) (a : Act) (w : World), C w → wpQuiet P ops C (fun a' => ∀ w', C w' → Q .normal a' w') l a → wpList P ops Q l a w
  | [], _, w, hw, h => h w hw
  | o :: rest, a, w, hw, h => by
    refine wpList_step fun K hK => ?_
    unfold wpQuiet at h
    split
    · rename_i hwt
      rw [if_pos hwt] at h
      exact Oper.wp_of_quiet hw (fun a' w' hw' h' => hK _ _ (wpList_of_quiet rest a' w' hw' h')) h
    · rename_i hwt
      rw [if_neg hwt] at h
      exact hK _ _ (wpList_of_quiet rest _ w hw h)

theorem region_q {P : Program} {id : Nat} {Q : Exit → Act → World → Prop} {a : Act} {w : World} {l : List Oper}
    (h : wpQuiet P l.toArray (Ext w) (fun a' => ∀ w', Ext w w' → Q .normal a' w') l a) : (Code.region id l.toArray false).wp P Q a w :=
  wp_region_lit (wpList_of_quiet l a w (Ext.rfl' w) h)
theorem region_qd {P : Program} {id : Nat} {Q : Exit → Act → World → Prop} {a : Act} {w : World} {l : List Oper} (hm : P.follows .mixedOrders = true) (hB : Region.lexB .any l.toArray = true)
    (h : wpQuiet P l.toArray (Ext w) (fun a' => ∀ w', Ext w w' → Q .normal a' w') l a) : (Code.region id l.toArray true).wp P Q a w :=
  wp_region_quiet (C := Ext w) hm hB (ext_drew w) (by simpa using h)
/-- Where the operations only look: the world stays. -/
theorem region_s {P : Program} {id : Nat} {Q : Exit → Act → World → Prop} {a : Act} {w : World} {l : List Oper}
    (h : wpQuiet P l.toArray (fun w' => w = w') (fun a' => ∀ w', w = w' → Q .normal a' w') l a) : (Code.region id l.toArray false).wp P Q a w :=
  wp_region_lit (wpList_of_quiet l a w rfl h)

/-! ### The walk in sequence, in the world at hand -/
section
variable {P : Program} {ops : Array Oper} {Q : Exit → Act → World → Prop} {n : Nat} {l : List (Nat × Bool × Value)} {σ : Nat → Value} {rest : List Oper} {w : World}
  {d : Tmp} {op : Op} {ty : TypeId} {pos : String} {after : Array Edge}

theorem s_val {v : Value} {w' : World} (h : (execOp (act (ds := ds) n l σ).eval ⟨some d, op, ty, pos, after, none⟩).run P w = .ok (.value v) w') (next : wpList P ops Q rest (act (ds := ds) n ((d, true, v) :: l) σ) w') :
    wpList P ops Q (⟨some d, op, ty, pos, after, none⟩ :: rest) (act (ds := ds) n l σ) w := by
  refine wpList_step fun K hK => ?_
  simp only [Region.wanted, if_true]
  unfold Oper.wp
  rw [h]
  show K _ _
  refine hK _ _ ?_
  rw [put_act']; exact next
theorem s_look {v : Value} (h : Look P (fun w' => w = w') n l σ ⟨some d, op, ty, pos, after, none⟩ v) (next : wpList P ops Q rest (act (ds := ds) n ((d, true, v) :: l) σ) w) :
    wpList P ops Q (⟨some d, op, ty, pos, after, none⟩ :: rest) (act (ds := ds) n l σ) w := s_val (h w rfl) next
theorem s_call {f : FuncId} {xs : List Operand} {ts : Array TypeId} {vs : List Value} {R : Ending → World → Prop} (he : Enters P f) (ha : Evs n l xs vs)
    (h : Calls P f vs.toArray w R) (next : ∀ e w', R e w' → ∃ v, e = .returned v ∧ wpList P ops Q rest (act (ds := ds) n ((d, true, v) :: l) σ) w') :
    wpList P ops Q (⟨some d, .call { callee := .value (.func f), args := xs.toArray, argTypes := ts }, ty, pos, after, none⟩ :: rest) (act (ds := ds) n l σ) w := by
  refine wpList_step fun K hK => ?_
  simp only [Region.wanted, if_true]
  unfold Oper.wp
  rw [run_call he ha w]
  refine h.mono fun e w' hR => ?_
  obtain ⟨v, rfl, hn⟩ := next e w' hR
  refine hK _ _ ?_
  rw [put_act']; exact hn
theorem s_callv {f : FuncId} {x : Operand} {xs : List Operand} {ts : Array TypeId} {vs cap : List Value} {R : Ending → World → Prop} (he : Enters P f) (hx : ev n l x = some (true, .func (.func f) #[] cap.toArray)) (ha : Evs n l xs vs)
    (h : Calls P f (vs ++ cap).toArray w R) (next : ∀ e w', R e w' → ∃ v, e = .returned v ∧ wpList P ops Q rest (act (ds := ds) n ((d, true, v) :: l) σ) w') :
    wpList P ops Q (⟨some d, .call { callee := .value x, args := xs.toArray, argTypes := ts }, ty, pos, after, none⟩ :: rest) (act (ds := ds) n l σ) w := by
  refine wpList_step fun K hK => ?_
  simp only [Region.wanted, if_true]
  unfold Oper.wp
  rw [run_callv he hx rfl ha w]
  refine h.mono fun e w' hR => ?_
  obtain ⟨v, rfl, hn⟩ := next e w' hR
  refine hK _ _ ?_
  rw [put_act']; exact hn

theorem s_want {L : List Oper} {j dj : Nat} {want b : Bool} {oj : Oper} {od : Option Tmp} (hj' : opAt L j = some oj) (hd : oj.dst = some dj) (hv : ev n l (.tmp dj) = some (true, .bool b)) (hb : b = want)
    (h : wpList P L.toArray Q (⟨od, op, ty, pos, after, none⟩ :: rest) (act (ds := ds) n l σ) w) : wpList P L.toArray Q (⟨od, op, ty, pos, after, some (j, want)⟩ :: rest) (act (ds := ds) n l σ) w := by
  have hw := wanted_act (ds := ds) (σ := σ) (op := op) (ty := ty) (pos := pos) (after := after) (want := want) (od := od) (opAt_spec hj') hd hv
  have e : gq true b want = true := by subst hb; cases b <;> rfl
  unfold wpList at h ⊢
  rw [hw, e]
  simp only [Region.wanted, if_true] at h ⊢
  exact h
theorem s_skip {L : List Oper} {j dj : Nat} {want b : Bool} {oj : Oper} (hj' : opAt L j = some oj) (hd : oj.dst = some dj) (hv : ev n l (.tmp dj) = some (true, .bool b)) (hb : b = !want)
    (h : wpList P L.toArray Q rest (act (ds := ds) n ((d, false, undef) :: l) σ) w) : wpList P L.toArray Q (⟨some d, op, ty, pos, after, some (j, want)⟩ :: rest) (act (ds := ds) n l σ) w := by
  have hw := wanted_act (ds := ds) (σ := σ) (op := op) (ty := ty) (pos := pos) (after := after) (want := want) (od := some d) (opAt_spec hj') hd hv
  have e : gq true b want = false := by subst hb; cases want <;> rfl
  unfold wpList
  rw [hw, e]
  simp only [Bool.false_eq_true, if_false]
  have := put_act (ds := ds) n l σ d false undef
  rw [show gv false undef = undef from rfl] at this
  rw [this]; exact h
/-- Skipped under a guard that was itself skipped. -/
theorem s_skip' {L : List Oper} {j dj : Nat} {want : Bool} {oj : Oper} {u : Value} (hj' : opAt L j = some oj) (hd : oj.dst = some dj) (hv : ev n l (.tmp dj) = some (false, u))
    (h : wpList P L.toArray Q rest (act (ds := ds) n ((d, false, undef) :: l) σ) w) : wpList P L.toArray Q (⟨some d, op, ty, pos, after, some (j, want)⟩ :: rest) (act (ds := ds) n l σ) w := by
  have hj := opAt_spec hj'
  have hy : yielded L.toArray (act (ds := ds) n l σ).tmps j = none := by
    simp only [ev] at hv
    cases hb : Nat.blt dj n with
    | false => rw [hb] at hv; cases hv
    | true =>
      rw [hb] at hv
      have h2 : lk l dj = some (false, u) := hv
      have h3 : dj < n := by simpa [Nat.blt_eq] using hb
      have h4 : (act (ds := ds) n l σ).tmps.getD dj undef = undef := by rw [getD_act hb]; simp [fr, h2, gv]
      have h5 : (act (ds := ds) n l σ).tmps[dj]? = some undef := by
        have : dj < (act (ds := ds) n l σ).tmps.size := by simp [act, h3]
        rw [Array.getElem?_eq_getElem this]
        rw [Array.getD_eq_getD_getElem?, Array.getElem?_eq_getElem this] at h4
        simpa using h4
      simp only [yielded, hj, Option.bind_some, hd, h5]
      rfl
  unfold wpList
  simp only [Region.wanted, hy]
  have : (none == some want) = false := rfl
  simp only [this, Bool.false_eq_true, if_false]
  have := put_act (ds := ds) n l σ d false undef
  rw [show gv false undef = undef from rfl] at this
  rw [this]; exact h

theorem s_buildSlice {t e len size : Nat} {parts : List (Nat × Operand)} {vs : List (Nat × Value)} {z : Value} {cells : List Value}
    (ht : P.underlying t = some (.slice e)) (hs' : (P.info? e).map (fun i => i.size) = some size) (hz' : (P.info? e).map (fun i => i.zero) = some (some z)) (hpos : Nat.ble 1 (len * size) = true) (hsm : Nat.ble (len * size) (2 ^ 24) = true)
    (hv : Evs n l (parts.map (·.2)) (vs.map (·.2))) (hi : vs.map (·.1) = parts.map (·.1)) (hf' : Instr.fill (fun i => some (i * size, size)) ((List.range (len * size)).map fun k => z.cells[k % z.cells.size]!).toArray vs = some cells.toArray)
    (next : ∀ g w', Ext w w' → Blk w' g e cells → w.heap.size = g → w'.heap.size = g + 1 → wpList P ops Q rest (act (ds := ds) n ((d, true, .slice (some ⟨g, 0, none⟩) len len) :: l) σ) w') :
    wpList P ops Q (⟨some d, .buildSlice t len parts.toArray, ty, pos, after, none⟩ :: rest) (act (ds := ds) n l σ) w := by
  obtain ⟨ti, hti, hsz⟩ := info_of hs'
  obtain ⟨ti', hti', hz⟩ := info_of hz'
  obtain rfl : ti = ti' := Option.some.inj (hti.symm.trans hti')
  have hm := hv.map (ds := ds) (σ := σ)
  have hparts : parts.map (fun x => (x.1, (act (ds := ds) n l σ).eval x.2)) = vs := by
    have h1 : (parts.map (fun x => (x.1, (act (ds := ds) n l σ).eval x.2))).map (·.2) = vs.map (·.2) := by rw [← hm]; simp
    have h2 : (parts.map (fun x => (x.1, (act (ds := ds) n l σ).eval x.2))).map (·.1) = vs.map (·.1) := by rw [hi]; simp
    apply List.ext_getElem?
    intro j
    have h1j := congrArg (fun x => x[j]?) h1
    have h2j := congrArg (fun x => x[j]?) h2
    simp only [List.getElem?_map] at h1j h2j ⊢
    cases hp : parts[j]? <;> cases hvv : vs[j]? <;> simp_all
  have hf : Instr.fill (fun i => some (i * size, size)) ((Array.range (len * size)).map fun k => z.cells[k % z.cells.size]!) vs = some cells.toArray := by
    rw [← hf']; congr 1; apply Array.ext'; simp
  have h1 : ¬ len * size > 2 ^ 24 := by have := Nat.le_of_ble_eq_true hsm; omega
  have h2 : ¬ len * size = 0 := by have := Nat.le_of_ble_eq_true hpos; omega
  refine s_val (w' := w.alloc (.cells cells.toArray e)) ?_ (next w.heap.size _ (ext_alloc w _) (Blk.new w e cells) rfl (by simp))
  simp only [execOp, Instr.buildSlice, zeroValue, typeInfo, sizeOf, Sem.run_bind, Sem.run_pure, Result.andThen_ok, program, run_underlying ht]
  simp only [Sem.run, hti, hsz, hz, Result.andThen_ok, Sem.run_pure, Sem.run_bind, if_neg h1, if_neg h2, List.map_toArray, hparts, hf, newRow, newObj]
  rfl

theorem s_box {t : TypeId} {x : Operand} {v : Value} (hx : ev n l x = some (true, v))
    (next : ∀ g w', Ext w w' → Blk w' g t v.cells.toList → w.heap.size = g → w'.heap.size = g + 1 → wpList P ops Q rest (act (ds := ds) n ((d, true, .pointer (some ⟨g, 0, none⟩)) :: l) σ) w') :
    wpList P ops Q (⟨some d, .box t x, ty, pos, after, none⟩ :: rest) (act (ds := ds) n l σ) w := by
  refine s_val (w' := w.alloc (.cells v.cells t)) ?_ (next w.heap.size _ (ext_alloc w _) (by have := Blk.new w t v.cells.toList; simpa using this) rfl (by simp))
  simp [execOp, Instr.box, newVar, newRow, newObj, eval_ev hx rfl, Sem.run]
theorem s_alloc {t : TypeId} {z : Value} (hi' : (P.info? t).map (fun i => i.zero) = some (some z))
    (next : ∀ g w', Ext w w' → Blk w' g t z.cells.toList → w.heap.size = g → w'.heap.size = g + 1 → wpList P ops Q rest (act (ds := ds) n ((d, true, .pointer (some ⟨g, 0, none⟩)) :: l) σ) w') :
    wpList P ops Q (⟨some d, .alloc t, ty, pos, after, none⟩ :: rest) (act (ds := ds) n l σ) w := by
  obtain ⟨ti, hi, hz⟩ := info_of hi'
  refine s_val (w' := w.alloc (.cells z.cells t)) ?_ (next w.heap.size _ (ext_alloc w _) (by have := Blk.new w t z.cells.toList; simpa using this) rfl (by simp))
  simp [execOp, Instr.alloc, zeroValue, typeInfo, hi, hz, newVar, newRow, newObj, Sem.run, program]
theorem eqc {w : World} {a : Addr} {v : Value} (h : w.cell? a = some v) : ∀ w', w = w' → w'.cell? a = some v := fun _ e => e ▸ h
theorem cext {P : Program} {f : FuncId} {args : Array Value} {w0 w : World} {v : Value} (hw : Ext w0 w) (h : Calls P f args w fun e w' => e = .returned v ∧ Ext w w') : Calls P f args w fun e w' => e = .returned v ∧ Ext w0 w' :=
  h.mono fun _ _ h' => ⟨h'.1, hw.comp h'.2⟩

/-- A store of a whole variable into a block that is known. -/
theorem run_storeCells_blk {t : TypeId} {b : Nat} : ∀ (vs : List Value) (i : Nat) (cs : List Value) (w : World), Blk w b t cs → i + vs.length ≤ cs.length → (∀ v ∈ vs, v.oneCell' = true) →
    ∃ w', (storeCells ⟨b, 0, none⟩ vs i).run P w = .ok () w' ∧ Kp b w w' ∧ Blk w' b t (cs.take i ++ vs ++ cs.drop (i + vs.length))
  | [], i, cs, w, hB, _, _ => ⟨w, by simp [storeCells], ⟨rfl, rfl, rfl, rfl, fun _ _ => rfl⟩, by simpa using hB⟩
  | v :: vs, i, cs, w, hB, hlen, hone => by
    simp only [List.length_cons] at hlen
    have hi : i < cs.length := by omega
    have hc : w.cell? ⟨b, i, none⟩ = some cs[i] := hB.cell (List.getElem?_eq_getElem hi)
    have e1 : (⟨b, 0, none⟩ : Addr).add i = ⟨b, i, none⟩ := by unfold Addr.add; split <;> simp_all
    have hst : (store ⟨b, i, none⟩ v).run P w = .ok () (w.setCell ⟨b, i, none⟩ v) := by
      rw [run_store P w ⟨b, i, none⟩ v .plain (hone v (by simp))]
      simp [hc, hB.free]
    have hB' : Blk (w.setCell ⟨b, i, none⟩ v) b t (cs.set i v) := by
      unfold Blk at hB ⊢
      simp [World.setCell, Array.getElem?_modify, hB]
    have hk : Kp b w (w.setCell ⟨b, i, none⟩ v) := ⟨rfl, rfl, rfl, by simp [World.setCell], fun k hk => Below.heap_setCell w _ v k hk⟩
    obtain ⟨w', h1, h2, h3⟩ := run_storeCells_blk vs (i + 1) (cs.set i v) _ hB' (by simp; omega) (fun u hu => hone u (by simp [hu]))
    refine ⟨w', ?_, ⟨h2.os.trans hk.os, h2.tape.trans hk.tape, h2.output.trans hk.output, h2.size.trans hk.size, fun k hne => (h2.block k hne).trans (hk.block k hne)⟩, ?_⟩
    · simp only [storeCells, Sem.run_bind, e1, hst, Result.andThen_ok, h1]
    · have e2 : List.take (i + 1) (cs.set i v) ++ vs ++ List.drop (i + 1 + vs.length) (cs.set i v) = List.take i cs ++ v :: vs ++ List.drop (i + (v :: vs).length) cs := by
        apply List.ext_getElem?
        intro j
        simp only [List.getElem?_append, List.length_take, List.length_set, List.getElem?_take, List.getElem?_set, List.getElem?_drop, List.length_append, List.length_cons, List.getElem?_cons]
        by_cases h1 : j < i
        · have : j < i + 1 := by omega
          have h3 : j < min (i + 1) cs.length + vs.length := by omega
          have h4 : j < min i cs.length + (vs.length + 1) := by omega
          have h5 : j < min (i + 1) cs.length := by omega
          have h6 : j < min i cs.length := by omega
          have h7 : ¬ i = j := by omega
          simp [h3, h4, h5, h6, this, h1, h7]
        · by_cases h2 : j = i
          · subst h2
            have h3 : j < min (j + 1) cs.length := by omega
            have h4 : ¬ j < min j cs.length := by omega
            have h5 : j < min (j + 1) cs.length + vs.length := by omega
            have h6 : j < min j cs.length + (vs.length + 1) := by omega
            have h7 : j - min j cs.length = 0 := by omega
            simp [h3, h4, h5, h6, h7, hi]
          · by_cases h3 : j < i + 1 + vs.length
            · have h4 : j < min (i + 1) cs.length + vs.length := by omega
              have h5 : ¬ j < min (i + 1) cs.length := by omega
              have h6 : j < min i cs.length + (vs.length + 1) := by omega
              have h7 : ¬ j < min i cs.length := by omega
              have h8 : ¬ j - min i cs.length = 0 := by omega
              have h9 : j - min (i + 1) cs.length = j - min i cs.length - 1 := by omega
              simp [h4, h5, h6, h7, h8, h9]
            · have h4 : ¬ j < min (i + 1) cs.length + vs.length := by omega
              have h6 : ¬ j < min i cs.length + (vs.length + 1) := by omega
              have h8 : i + 1 + vs.length + (j - (min (i + 1) cs.length + vs.length)) = i + (vs.length + 1) + (j - (min i cs.length + (vs.length + 1))) := by omega
              have h9 : ¬ i = i + (vs.length + 1) + (j - (min i cs.length + (vs.length + 1))) := by omega
              simp [h4, h6, h8, h9]
      rw [e2] at h3
      exact h3

theorem s_store {t tb : TypeId} {x y : Operand} {b : Nat} {v : Value} {cs : List Value} {size : Nat} (hi' : (P.info? t).map (fun i => i.size) = some size) (hsz : v.cells.size = size) (hone : ∀ u ∈ v.cells.toList, u.oneCell' = true)
    (hx : ev n l x = some (true, .pointer (some ⟨b, 0, none⟩))) (hy : ev n l y = some (true, v)) (hB : Blk w b tb cs) (hlen : cs.length = v.cells.size)
    (next : ∀ w', Kp b w w' → Blk w' b tb v.cells.toList → wpList P ops Q rest (act (ds := ds) n l σ) w') :
    wpList P ops Q (⟨none, .store t x y, ty, pos, after, none⟩ :: rest) (act (ds := ds) n l σ) w := by
  obtain ⟨ti, hi, hz0⟩ := info_of hi'
  have hz : v.cells.size = ti.size := hsz.trans hz0.symm
  obtain ⟨w', h1, h2, h3⟩ := run_storeCells_blk (P := P) v.cells.toList 0 cs w hB (by simp [hlen]) hone
  have h4 : Blk w' b tb v.cells.toList := by
    have e : List.drop (0 + v.cells.toList.length) cs = [] := by simp [hlen]
    rw [e] at h3
    simpa using h3
  refine wpList_step fun K hK => ?_
  simp only [Region.wanted, if_true]
  unfold Oper.wp
  have hr : (execOp (act (ds := ds) n l σ).eval ⟨none, .store t x y, ty, pos, after, none⟩).run P w = .ok .skip w' := by
    have hne : ¬ (v.cells.size ≠ ti.size) := by simp [hz]
    simp [execOp, Instr.storeAt, Instr.sureAddr, eval_ev hx rfl, eval_ev hy rfl, storeVar, sizeOf, typeInfo, hi, hz, h1, program, Sem.run]
  rw [hr]
  show K _ _
  exact hK _ _ (next w' h2 h4)

theorem s_store1 {t tb : TypeId} {x y : Operand} {b i : Nat} {v : Value} {cs : List Value} (hi' : (P.info? t).map (fun i => i.size) = some 1) (hc1 : v.cells = #[v]) (hone : v.oneCell' = true)
    (hx : ev n l x = some (true, .pointer (some ⟨b, i, none⟩))) (hy : ev n l y = some (true, v)) (hB : Blk w b tb cs) (hlt : Nat.blt i cs.length = true)
    (next : ∀ w', Kp b w w' → Blk w' b tb (cs.set i v) → wpList P ops Q rest (act (ds := ds) n l σ) w') :
    wpList P ops Q (⟨none, .store t x y, ty, pos, after, none⟩ :: rest) (act (ds := ds) n l σ) w := by
  obtain ⟨ti, hi, hz0⟩ := info_of hi'
  have hlt' : i < cs.length := by simpa [Nat.blt_eq] using hlt
  have hc : w.cell? ⟨b, i, none⟩ = some cs[i] := hB.cell (List.getElem?_eq_getElem hlt')
  have hst : (store ⟨b, i, none⟩ v).run P w = .ok () (w.setCell ⟨b, i, none⟩ v) := by
    rw [run_store P w ⟨b, i, none⟩ v .plain hone]
    simp [hc, hB.free]
  have hB' : Blk (w.setCell ⟨b, i, none⟩ v) b tb (cs.set i v) := by
    unfold Blk at hB ⊢
    simp [World.setCell, Array.getElem?_modify, hB]
  have hk : Kp b w (w.setCell ⟨b, i, none⟩ v) := ⟨rfl, rfl, rfl, by simp [World.setCell], fun k hk => Below.heap_setCell w _ v k hk⟩
  refine wpList_step fun K hK => ?_
  simp only [Region.wanted, if_true]
  unfold Oper.wp
  have e0 : (⟨b, i, none⟩ : Addr).add 0 = ⟨b, i, none⟩ := rfl
  have hr : (execOp (act (ds := ds) n l σ).eval ⟨none, .store t x y, ty, pos, after, none⟩).run P w = .ok .skip (w.setCell ⟨b, i, none⟩ v) := by
    simp [execOp, Instr.storeAt, Instr.sureAddr, eval_ev hx rfl, eval_ev hy rfl, storeVar, sizeOf, typeInfo, hi, hz0, hc1, storeCells, e0, hst, program, Sem.run]
  rw [hr]
  show K _ _
  exact hK _ _ (next _ hk hB')

theorem s_nil (h : Q .normal (act (ds := ds) n l σ) w) : wpList P ops Q [] (act (ds := ds) n l σ) w := h
end
end Go.Proofs.Core
