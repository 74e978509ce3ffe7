/- The calculus, more: the marks that ranges over functions leave among the deferred calls. No program in sight. -/
import Derived.Test.YthddekipelbooaaRF
namespace Go.Proofs.Core
open Go Go.RowKit Go.Deep Go.WideShapes
variable {ds : List Deferred}
set_option linter.unusedVariables false
set_option linter.unusedSimpArgs false
def markOf (D : Nat) : Deferred := { target := .collected D, args := #[] }
def marks (Ds : List Nat) : List Deferred := Ds.map markOf
structure Defs (w : World) (Ds : List Nat) : Prop where
  ok : ∀ D ∈ Ds, w.heap[D]? = some (.deferred (some []))
  nod : Ds.Nodup
/-- Block g holds no deferred calls. -/
def NoDef (w : World) (g : Nat) : Prop := ∀ c, w.heap[g]? ≠ some (.deferred c)
theorem Blk.nd {w : World} {g : Nat} {t : TypeId} {cs : List Value} (h : Blk w g t cs) : NoDef w g := fun c e => by rw [show w.heap[g]? = _ from h] at e; cases e
theorem MapB.nd {κ : Type} {kv : κ → Value} {w : World} {b : Nat} {m : List (κ × Bool)} (h : MapB kv w b m) : NoDef w b := fun c e => by
  obtain ⟨es, cl, hb, _⟩ := h
  rw [hb] at e; cases e
theorem Own.nd {α : Type} {ce : α → List Value} {e : TypeId} {size base g : Nat} {w : World} {v : Value} {l : List α} (h : Own ce e size base w v l) (hg : v.ownBlock = some g) : NoDef w g := fun c e => by
  rcases h.2 with ⟨rfl, _⟩ | ⟨g', cap, cur, rfl, _, hg', _⟩
  · cases hg
  · simp only [Value.ownBlock, Option.some.injEq] at hg
    subst hg
    rw [hg'] at e; cases e
theorem Defs.nil (w : World) : Defs w [] := ⟨(fun D h => by cases h), List.nodup_nil⟩
theorem Defs.lt {w : World} {Ds : List Nat} (h : Defs w Ds) {D : Nat} (hD : D ∈ Ds) : D < w.heap.size := (Array.getElem?_eq_some_iff.1 (h.ok D hD)).1
theorem Defs.ext {w w' : World} {Ds : List Nat} (h : Defs w Ds) (e : Ext w w') : Defs w' Ds := ⟨fun D hD => (e.block D (h.lt hD)).trans (h.ok D hD), h.nod⟩
theorem Defs.kp {w w' : World} {Ds : List Nat} {g : Nat} (h : Defs w Ds) (k : Kp g w w') (hn : NoDef w g) : Defs w' Ds := ⟨fun D hD => (k.block D (fun e => hn _ (by rw [← e]; exact h.ok D hD))).trans (h.ok D hD), h.nod⟩
theorem Defs.mut {w w' : World} {Ds : List Nat} {g : Nat} (h : Defs w Ds) (k : Mut g w w') (hn : NoDef w g) : Defs w' Ds := ⟨fun D hD => (k.block D (h.lt hD) (fun e => hn _ (by rw [← e]; exact h.ok D hD))).trans (h.ok D hD), h.nod⟩
theorem Defs.grown {w w' : World} {Ds : List Nat} {row : Option Nat} (h : Defs w Ds) (k : w.grownBy w' row) (hn : ∀ g, row = some g → NoDef w g) : Defs w' Ds := ⟨fun D hD => (k.block D (h.lt hD) (fun e => hn D e.symm _ (h.ok D hD))).trans (h.ok D hD), h.nod⟩
theorem Defs.cons {w : World} {Ds : List Nat} {D : Nat} (h : Defs w Ds) (hD : w.heap[D]? = some (.deferred (some []))) (hn : ∀ E ∈ Ds, E ≠ D) : Defs w (D :: Ds) :=
  ⟨fun E hE => by rcases List.mem_cons.1 hE with e | e; rw [e]; exact hD; exact h.ok E e, List.nodup_cons.2 ⟨fun hm => hn D hm rfl, h.nod⟩⟩
/-- The marks' blocks may have been shut; nothing else has turned. -/
structure Shut (Ds : List Nat) (w w' : World) : Prop where
  os : w'.os = w.os
  tape : w'.tape = w.tape
  output : w'.output = w.output
  size : w'.heap.size = w.heap.size
  block : ∀ k, ¬ k ∈ Ds → w'.heap[k]? = w.heap[k]?
theorem Shut.ext {Ds : List Nat} {w0 w w' : World} (h : Shut Ds w w') (hE : Ext w0 w) (hb : ∀ D ∈ Ds, w0.heap.size ≤ D) : Ext w0 w' :=
  ⟨h.os.trans hE.os, h.tape.trans hE.tape, h.output.trans hE.output, by rw [h.size]; exact hE.size, fun k hk => (h.block k (fun hm => by have := hb k hm; omega)).trans (hE.block k hk)⟩
theorem Own.shut {α : Type} {ce : α → List Value} {e : TypeId} {size base : Nat} {w w' : World} {v : Value} {l : List α} {Ds : List Nat} (h : Own ce e size base w v l) (hd : Defs w Ds) (hs : Shut Ds w w') : Own ce e size base w' v l := by
  refine ⟨h.1, ?_⟩
  rcases h.2 with hn | ⟨g', cap, cur, rfl, hb, hg', rest⟩
  · exact .inl hn
  · refine .inr ⟨g', cap, cur, rfl, hb, (hs.block g' (fun hm => ?_)).trans hg', rest⟩
    have := hd.ok g' hm
    rw [hg'] at this; cases this
section
variable {P : Program} {n k : Nat}
theorem leaves_marks {fn : Func} {tmps : Array Value} {R : Ending → World → Prop} {v : Value} (hres : ∀ W, (results fn tmps).run P W = .ok v W) : ∀ (Ds : List Nat) (w : World), Defs w Ds → (∀ W', Shut Ds w W' → R (.returned v) W') →
    LeavesInM Fence.wide k P fn tmps R (marks Ds) .returning w
  | [], w, _, h => ⟨v, hres w, h w ⟨rfl, rfl, rfl, rfl, fun _ _ => rfl⟩⟩
  | D :: Ds, w, hd, h => by
    have hn := List.nodup_cons.1 hd.nod
    refine ⟨by simp, .inl ⟨D, _, rfl, run_takeDeferred (hd.ok D (.head _)), leaves_marks hres Ds _ ⟨fun E hE => ?_, hn.2⟩ fun W' hs => h W' ?_⟩⟩
    · rw [World.putObj_heap_other (fun e => hn.1 (by rw [← e]; exact hE))]
      exact hd.ok E (.tail _ hE)
    · refine ⟨hs.os, hs.tape, hs.output, by rw [hs.size]; simp, fun j hj => ?_⟩
      rw [hs.block j (fun hm => hj (.tail _ hm))]
      exact World.putObj_heap_other (fun e => hj (by rw [e]; exact .head _))
/-- What the body of a function must achieve that ranges over functions. -/
def QM (P : Program) (fn : Func) (R : Ending → World → Prop) : Exit → Act → World → Prop
  | .normal, a, w => LeavesInM Fence.wide 3 P fn a.tmps R a.defers .returning w
  | .ret, a, w => LeavesInM Fence.wide 3 P fn a.tmps R a.defers .returning w
  | _, _, _ => False
theorem pk_QM {fn : Func} {R : Ending → World → Prop} : PanicOk (QM P fn R) := fun c a w d v h => h
theorem calls_actM {f : FuncId} {fn : Func} {c : Code} {args : List Value} {w : World} {R : Ending → World → Prop} {r : List (Nat × Value)}
    (hf : P.funcs[f]? = some fn) (hb : fn.body = some c) (hn : fn.ntmps = n) (hlen : Nat.ble args.length n = true)
    (hr : r = (List.range args.length).zip args)
    (h : c.wp P (QM P fn R) (act (ds := []) n (kn r) (fun _ => undef)) w) : Calls P f args.toArray w R := by
  refine callsIn_wide.1 (callsIn_of_wp_marks (F := Fence.wide) (n := 3) hf hb trivial ?_ rfl)
  have e : ({ tmps := args.toArray ++ Array.replicate (fn.ntmps - args.toArray.size) undef, defers := [] } : Act) = act (ds := []) n (kn r) (fun _ => undef) := entry_act hn hlen hr
  rw [e]
  refine wpIn_wide.2 (wp_mono h fun e a w hq => ?_)
  cases e with
  | normal => exact hq
  | ret => exact hq
  | _ => exact hq.elim
theorem resM2 {fn : Func} {R : Ending → World → Prop} {l : List (Nat × Bool × Value)} {σ : Nat → Value} {w : World} {t u : Nat} {v v' : Value} {Ds : List Nat}
    (hr : fn.results = #[.tmp t, .tmp u]) (hv : ev n l (.tmp t) = some (true, v)) (hv' : ev n l (.tmp u) = some (true, v')) (hd : Defs w Ds) (h : ∀ W', Shut Ds w W' → R (.returned (.tuple #[v, v'])) W') : QM P fn R .ret (act (ds := marks Ds) n l σ) w := by
  refine leaves_marks (fun W => ?_) Ds w hd h
  rw [results_tmp2 hr]
  have e1 := eval_ev (ds := []) (σ := σ) (x := .tmp t) hv rfl
  have e2 := eval_ev (ds := []) (σ := σ) (x := .tmp u) hv' rfl
  simp only [Act.eval] at e1 e2
  show Result.ok (Value.tuple #[(act (ds := []) n l σ).tmps.getD t undef, (act (ds := []) n l σ).tmps.getD u undef]) W = _
  rw [e1, e2]
theorem loop_actD {c : Code} {Q : Exit → Act → World → Prop} {l : List (Nat × Bool × Value)} {σ : Nat → Value} {w : World} {α : Type}
    (K : α → List (Nat × Value)) (F : α → World → Prop) (μ : α → Nat) (x0 : α) (dsf : α → List Nat) (hds : ds = marks (dsf x0)) (hS : Sub l (K x0)) (h0 : F x0 w)
    (round : ∀ x σ w, F x w → c.wp P (Exit.then (fun a' w' => ∃ x' l' σ', μ x' < μ x ∧ a' = act (ds := marks (dsf x')) n l' σ' ∧ Sub l' (K x') ∧ F x' w') Q) (act (ds := marks (dsf x)) n (kn (K x)) σ) w) :
    (Code.loop c).wp P Q (act (ds := ds) n l σ) w := by
  subst hds
  refine wp_loop_g (fun m a w => ∃ x σ, m = μ x ∧ a = act (ds := marks (dsf x)) n (kn (K x)) σ ∧ F x w) (μ x0) ⟨x0, _, rfl, act_sub hS, h0⟩ ?_
  rintro m a w ⟨x, σ, rfl, rfl, hF⟩
  refine wp_mono (round x σ w hF) fun e a w h => ?_
  cases e with
  | normal =>
    obtain ⟨x', l', σ', hlt, rfl, hs, hF'⟩ := h
    exact ⟨_, hlt, x', _, rfl, act_sub hs, hF'⟩
  | _ => exact h
theorem loop_endD {Q : Exit → Act → World → Prop} {l : List (Nat × Bool × Value)} {σ : Nat → Value} {w : World} {α : Type} {K : α → List (Nat × Value)} {F : α → World → Prop} {μ : α → Nat} {dsf : α → List Nat} {x : α}
    (x' : α) (hds : ds = marks (dsf x')) (hlt : μ x' < μ x) (hs : Sub l (K x')) (hF : F x' w) : Exit.then (fun a' w' => ∃ x' l' σ', μ x' < μ x ∧ a' = act (ds := marks (dsf x')) n l' σ' ∧ Sub l' (K x') ∧ F x' w') Q .normal (act (ds := ds) n l σ) w := by
  subst hds
  exact ⟨x', l, σ, hlt, rfl, hs, hF⟩
end
end Go.Proofs.Core
