/- The walks of chapter 44 (route), sixth part: the heap of items. -/
import Derived.Test.YthddekipelbooaaE
namespace Go.Proofs.Ythddekipelbooaa
open Go Go.RowKit Core
set_option linter.unusedVariables false
set_option linter.unusedSimpArgs false
attribute [local irreducible] wpQuiet wpList wpH wpT Code.wp Calls bodyPost act


structure It where
  at_ : Cl
  by_ : Cl
  left : Int
deriving DecidableEq
def rcell (a b : Cl) : List Value := [.int .i64 a.x, .int .i64 a.y, .int .i64 a.z, .int .i64 b.x, .int .i64 b.y, .int .i64 b.z]
def itcell (i : It) : List Value := [.int .i64 i.at_.x, .int .i64 i.at_.y, .int .i64 i.at_.z, .int .i64 i.by_.x, .int .i64 i.by_.y, .int .i64 i.by_.z, .int .i64 i.left]
theorem hce_t : ∀ x, (itcell x).length = 7 := fun _ => rfl
theorem oneT (x : It) : ∀ u ∈ itcell x, u.oneCell' = true := by simp [itcell, Value.oneCell']
theorem blk_inj {w : World} {g : Nat} {t : TypeId} {v v' : Value} (h : Blk w g t [v]) (k : Blk w g t [v']) : v = v' := by
  unfold Blk at h k
  rw [h] at k
  simpa using k
/-- The queue behind q: its items, in a row of its own, made not before n0. -/
def QS (n0 : Nat) (w : World) (q : Nat) (l : List It) : Prop := ∃ v, Blk w q 74 [v] ∧ Core.Own itcell 77 7 n0 w v l ∧ v.ownBlock ≠ some q ∧ n0 ≤ q
/-- Block g is neither q nor q's row. -/
def Sep (w : World) (q g : Nat) : Prop := g ≠ q ∧ ∀ v, Blk w q 74 [v] → v.ownBlock ≠ some g
/-- Only q and its row may have changed. -/
structure QM (q : Nat) (w w' : World) : Prop where
  lt : q < w.heap.size
  os : w'.os = w.os
  tape : w'.tape = w.tape
  output : w'.output = w.output
  size : w.heap.size ≤ w'.heap.size
  blk : ∀ g, g < w.heap.size → Sep w q g → w'.heap[g]? = w.heap[g]? ∧ Sep w' q g
theorem QS.lt {n0 q : Nat} {w : World} {l : List It} (h : QS n0 w q l) : q < w.heap.size := by obtain ⟨v, hB, _⟩ := h; exact hB.lt
theorem QS.ge {n0 q : Nat} {w : World} {l : List It} (h : QS n0 w q l) : n0 ≤ q := by obtain ⟨v, _, _, _, h⟩ := h; exact h
theorem QS.ext {n0 q : Nat} {w w' : World} {l : List It} (h : QS n0 w q l) (e : Ext w w') : QS n0 w' q l := by
  obtain ⟨v, hB, hO, h1, h2⟩ := h
  exact ⟨v, hB.ext e, hO.ext e, h1, h2⟩
theorem QS.kp {n0 q g : Nat} {w w' : World} {l : List It} (h : QS n0 w q l) (k : Kp g w w') (s : Sep w q g) : QS n0 w' q l := by
  obtain ⟨v, hB, hO, h1, h2⟩ := h
  exact ⟨v, hB.kp k (fun e => s.1 e.symm), hO.kp k (s.2 v hB), h1, h2⟩
theorem QM.rfl' {q : Nat} {w : World} (h : q < w.heap.size) : QM q w w := ⟨h, rfl, rfl, rfl, Nat.le_refl _, fun g _ s => ⟨rfl, s⟩⟩
theorem QM.trans {q : Nat} {a b c : World} (h : QM q a b) (k : QM q b c) : QM q a c :=
  ⟨h.lt, k.os.trans h.os, k.tape.trans h.tape, k.output.trans h.output, Nat.le_trans h.size k.size, fun g hg s => by
    obtain ⟨h1, h2⟩ := h.blk g hg s
    obtain ⟨h3, h4⟩ := k.blk g (Nat.lt_of_lt_of_le hg h.size) h2
    exact ⟨h3.trans h1, h4⟩⟩
theorem Sep.of_block {q g : Nat} {w w' : World} (s : Sep w q g) (e : w'.heap[q]? = w.heap[q]?) : Sep w' q g := ⟨s.1, fun v hv => s.2 v (by unfold Blk at hv ⊢; rw [← e]; exact hv)⟩
theorem Sep.ext {q g : Nat} {w w' : World} (s : Sep w q g) (e : Ext w w') (hq : q < w.heap.size) : Sep w' q g := s.of_block (e.block q hq)
theorem Sep.kp {q g g' : Nat} {w w' : World} (s : Sep w q g) (k : Kp g' w w') (hq : q ≠ g') : Sep w' q g := s.of_block (k.block q hq)
theorem Sep.new {n0 q g : Nat} {w : World} {l : List It} (h : QS n0 w q l) (hg : w.heap.size ≤ g) : Sep w q g := by
  obtain ⟨v, hB, hO, _, _⟩ := h
  exact ⟨by have := hB.lt; omega, fun v' hv => by rw [← blk_inj hB hv]; exact hO.ne_new hg⟩
theorem Sep.old {n0 q g : Nat} {w : World} {l : List It} (h : QS n0 w q l) (hg : g < n0) : Sep w q g := by
  obtain ⟨v, hB, hO, _, h2⟩ := h
  exact ⟨by omega, fun v' hv => by rw [← blk_inj hB hv]; exact hO.ne_old hg⟩
theorem QM.of {q : Nat} {a b : World} (e : Ext a b) (hq : q < a.heap.size) : QM q a b := ⟨hq, e.os, e.tape, e.output, e.size, fun g hg s => ⟨e.block g hg, s.ext e hq⟩⟩
theorem QM.comp {q : Nat} {a b c : World} (h : QM q a b) (e : Ext b c) : QM q a c := h.trans (.of e (Nat.lt_of_lt_of_le h.lt h.size))
theorem Blk.qm {q g : Nat} {t : TypeId} {cs : List Value} {a b : World} (h : Blk a g t cs) (k : QM q a b) (s : Sep a q g) : Blk b g t cs := (k.blk g h.lt s).1.trans h
theorem MapV.qm {κ β : Type} [DecidableEq κ] {kv : κ → Value} {vv : β → Value} {m : List (κ × β)} {q g : Nat} {a b : World} (h : MapV kv vv a g m) (k : QM q a b) (s : Sep a q g) : MapV kv vv b g m := h.of_block (k.blk g h.lt s).1
theorem Ext.qm {n0 q : Nat} {w a b : World} {l : List It} (h : Ext w a) (k : QM q a b) (hQ : QS n0 a q l) (hn : w.heap.size ≤ n0) : Ext w b :=
  ⟨k.os.trans h.os, k.tape.trans h.tape, k.output.trans h.output, Nat.le_trans h.size k.size, fun g hg => ((k.blk g (Nat.lt_of_lt_of_le hg h.size) (Sep.old hQ (by omega))).1).trans (h.block g hg)⟩
/-- A change of the row alone. -/
theorem QS.row {n0 q b : Nat} {w w' : World} {v : Value} {l l' : List It} (hB : Blk w q 74 [v]) (hne : v.ownBlock ≠ some q) (hge : n0 ≤ q) (hv : v.ownBlock = some b) (hM : Mut b w w') (hO : Core.Own itcell 77 7 n0 w' v l') : QM q w w' ∧ QS n0 w' q l' := by
  have hqb : q ≠ b := fun e => hne (by rw [hv, e])
  refine ⟨⟨hB.lt, hM.os, hM.tape, hM.output, hM.size, fun g hg s => ?_⟩, v, hB.mut hM hqb, hO, hne, hge⟩
  have hgb : g ≠ b := fun e => s.2 v hB (by rw [hv, e])
  exact ⟨hM.block g hg hgb, s.of_block (hM.block q hB.lt hqb)⟩
theorem Own.at0 {n0 : Nat} {w : World} {A : Option Addr} {k c : Nat} {l : List It} (h : Core.Own itcell 77 7 n0 w (.slice A k c) l) (hl : 0 < l.length) : ∃ b, A = some ⟨b, 0, none⟩ := by
  rcases h.2 with ⟨h1, h2⟩ | ⟨g, cap, cur, h1, _⟩
  · omega
  · simp only [Value.slice.injEq] at h1; exact ⟨g, h1.1⟩
def vH (q : Nat) : Value := .iface 72 (.pointer (some ⟨q, 0, none⟩))
theorem s_invokeQ {ds : List Deferred} {P : Program} {ops : Array Oper} {Q : Exit → Act → World → Prop} {n : Nat} {l : List (Nat × Bool × Value)} {σ : Nat → Value} {w : World} {d : Tmp} {ty : TypeId} {pos : String} {after : Array Edge} {rest : List Oper}
    {f : FuncId} {name : String} {r : Operand} {xs : List Operand} {ts : Array TypeId} {vs : List Value} {rv : Value} {R : Ending → World → Prop} (hr : ev n l r = some (true, rv)) (ha : Evs n l xs vs)
    (h : ∃ ar : List Value, (callMethod rv name vs.toArray).run P w = .ok (.enter f ar.toArray) w ∧ Calls P f ar.toArray w R) (next : ∀ e w', R e w' → ∃ v, e = .returned v ∧ wpList P ops Q rest (act (ds := ds) n ((d, true, v) :: l) σ) w') :
    wpList P ops Q (⟨some d, .call { callee := .invoke r name, args := xs.toArray, argTypes := ts }, ty, pos, after, none⟩ :: rest) (act (ds := ds) n l σ) w := by
  obtain ⟨ar, h1, h2⟩ := h
  exact s_invoke hr ha h1 h2 next
theorem load76 {w : World} {q : Nat} {v : Value} (hB : Blk w q 74 [v]) : (loadVar 74 ⟨q, 0, none⟩).run Try.prog w = .ok v w := by
  have hc : w.cell? ⟨q, 0, none⟩ = some v := hB.cell rfl
  simp [loadVar, isAgg, run_underlying Try.underlying74, load, Sem.run, hc]

theorem qlen_any (A : Option Addr) (k c : Nat) (w : World)  :
    Calls Try.prog 36 #[.slice A k c] w fun e w' => e = .returned (.int .i64 ((k : Int))) ∧ Ext w w' := by
  refine calls_act Try.func36 rfl Try.ntmps36 rfl rfl ?_
  show Code.wp _ _ _ (act 5 [(0, true, .slice A k c)] _) _
  have hX : Ext w w := Ext.rfl' w
  refine wp_seq ?_
  refine region_s ?_
  refine q_look (look_assign rfl rfl) ?_
  refine q_nil ?_
  rintro _ rfl
  refine then_normal ?_
  refine wp_seq ?_
  refine region_s ?_
  refine q_look (look_move rfl rfl) ?_
  refine q_look (look_len_slice Try.underlying74 rfl rfl) ?_
  refine q_look (look_assign rfl rfl) ?_
  refine q_nil ?_
  rintro _ rfl
  refine then_normal ?_
  refine wp_ret ?_
  exact res1 Try.results36 rfl ⟨rfl, hX⟩

theorem qless_any (l : List It) (b c i j : Nat) (x y : It) (w : World) (hA : Sl itcell 7 w (some ⟨b, 0, none⟩) l) (hx : l[i]? = some x) (hy : l[j]? = some y) :
    Calls Try.prog 69 #[.slice (some ⟨b, 0, none⟩) l.length c, .int .i64 (i : Int), .int .i64 (j : Int)] w fun e w' => e = .returned (.bool (decide (x.left < y.left))) ∧ Ext w w' := by
  refine calls_act Try.func69 rfl Try.ntmps69 rfl rfl ?_
  show Code.wp _ _ _ (act 18 [(0, true, .slice (some ⟨b, 0, none⟩) l.length c), (1, true, .int .i64 (i : Int)), (2, true, .int .i64 (j : Int))] _) _
  have hX : Ext w w := Ext.rfl' w
  have hil := (List.getElem?_eq_some_iff.1 hx).1
  have hjl := (List.getElem?_eq_some_iff.1 hy).1
  refine wp_seq ?_
  refine region_s ?_
  refine q_look (look_assign rfl rfl) ?_
  refine q_nil ?_
  rintro _ rfl
  refine then_normal ?_
  refine wp_seq ?_
  refine region_qd mixed (by kernel_rfl) ?_
  refine q_look (look_move rfl rfl) ?_
  refine q_look (look_move rfl rfl) ?_
  refine q_look (look_indexAddr _ Try.underlying74 szTry_77 rfl rfl rfl rfl rfl (by omega)) ?_
  refine q_look (look_fieldAddr Try.underlying77 rfl (fun _ _ => rfl) rfl rfl) ?_
  refine q_look (look_load1 Try.underlying3 rfl rfl rfl (ext_cell (((hA.ext hX).rd i x hx) _ _ rfl))) ?_
  refine q_look (look_move rfl rfl) ?_
  refine q_look (look_move rfl rfl) ?_
  refine q_look (look_indexAddr _ Try.underlying74 szTry_77 rfl rfl rfl rfl rfl (by omega)) ?_
  refine q_look (look_fieldAddr Try.underlying77 rfl (fun _ _ => rfl) rfl rfl) ?_
  refine q_look (look_load1 Try.underlying3 rfl rfl rfl (ext_cell (((hA.ext hX).rd j y hy) _ _ rfl))) ?_
  refine q_look (look_lss rfl rfl rfl rfl) ?_
  refine q_look (look_assign rfl rfl) ?_
  refine q_nil ?_
  intro w1 hw1
  replace hX := hX.comp hw1
  refine then_normal ?_
  refine wp_ret ?_
  exact res1 Try.results69 rfl ⟨rfl, hX⟩

theorem qswap_any (l : List It) (b c i j n0 : Nat) (x y : It) (w : World) (hO : Core.Own itcell 77 7 n0 w (.slice (some ⟨b, 0, none⟩) l.length c) l) (hx : l[i]? = some x) (hy : l[j]? = some y) :
    Calls Try.prog 72 #[.slice (some ⟨b, 0, none⟩) l.length c, .int .i64 (i : Int), .int .i64 (j : Int)] w fun e w' => e = .returned (.tuple #[]) ∧ Mut b w w' ∧ Core.Own itcell 77 7 n0 w' (.slice (some ⟨b, 0, none⟩) l.length c) ((l.set i y).set j x) := by
  refine calls_act Try.func72 rfl Try.ntmps72 rfl rfl ?_
  show Code.wp _ _ _ (act 20 [(0, true, .slice (some ⟨b, 0, none⟩) l.length c), (1, true, .int .i64 (i : Int)), (2, true, .int .i64 (j : Int))] _) _
  have hX : Mut b w w := Mut.rfl' b w
  have hil := (List.getElem?_eq_some_iff.1 hx).1
  have hjl := (List.getElem?_eq_some_iff.1 hy).1
  refine region_g (fun W => Mut b w W ∧ Core.Own itcell 77 7 n0 W (.slice (some ⟨b, 0, none⟩) l.length c) (l)) [13, 15] [(0, 1), (1, 1), (2, 2), (3, 2), (4, 1), (5, 1), (6, 1), (7, 1), (8, 1), (9, 1), (10, 1), (11, 1), (12, 1), (13, 3), (14, 2), (15, 3)] mixed (by kernel_rfl) rfl (by kernel_rfl) (by repeat (first | exact pk_body | refine pk_then ?_ | refine pk_block ?_)) ?_
  intro u1 hR1
  replace hX := hX.comp hR1
  replace hO := hO.ext hR1
  refine ⟨⟨hX, hO⟩, ?_⟩
  refine g_look rfl (look_move rfl rfl) ?_
  refine g_look rfl (look_move rfl rfl) ?_
  refine g_pure rfl (look_move rfl rfl) ?_
  refine g_pure rfl (look_move rfl rfl) ?_
  refine g_look rfl (look_move rfl rfl) ?_
  refine g_look rfl (look_move rfl rfl) ?_
  refine g_look rfl (look_indexAddr _ Try.underlying74 szTry_77 rfl rfl rfl rfl rfl (by omega)) ?_
  refine g_look rfl (look_loadN Try.underlying77 rfl szTry_77 rfl rfl rfl (cs := itcell y) (fun w' hS => (hS.2.rd hce_t j y hy))) ?_
  refine g_look rfl (look_move rfl rfl) ?_
  refine g_look rfl (look_move rfl rfl) ?_
  refine g_look rfl (look_indexAddr _ Try.underlying74 szTry_77 rfl rfl rfl rfl rfl (by omega)) ?_
  refine g_look rfl (look_loadN Try.underlying77 rfl szTry_77 rfl rfl rfl (cs := itcell x) (fun w' hS => (hS.2.rd hce_t i x hx))) ?_
  refine g_look rfl (look_indexAddr _ Try.underlying74 szTry_77 rfl rfl rfl rfl rfl (by omega)) ?_
  refine g_late rfl ?_
  refine s_storeRowN (ce := itcell) (u := y) (j := i) szTry_77 hce_t (oneT _) rfl rfl hO (by omega) hil ?_
  intro u2 hk2 hT2
  replace hX := hX.kp hk2 rfl
  clear hO
  have hO := hT2
  refine s_nil ?_
  refine then_g ?_
  refine g_pure rfl (look_indexAddr _ Try.underlying74 szTry_77 rfl rfl rfl rfl rfl (by omega)) ?_
  refine g_late rfl ?_
  refine s_storeRowN (ce := itcell) (u := x) (j := j) szTry_77 hce_t (oneT _) rfl rfl hO (by omega) (by rw [List.length_set]; exact hjl) ?_
  intro u3 hk3 hT3
  replace hX := hX.kp hk3 rfl
  clear hO
  have hO := hT3
  refine s_nil ?_
  refine then_g ?_
  refine g_nil ?_
  exact resE Try.results72 ⟨rfl, hX, hO⟩


theorem run_method {P : Program} {k : Nat} {t : TypeId} {v : Value} {name : String} {m : Method} {f : FuncId} {pr : Bool} {w : World} {ti : TypeInfo} (ht : (typeInfo t).run P w = .ok ti w) (hm : ti.methods.find? (fun x => x.name == name) = some m) (hp : m.path = #[]) (hf : m.func = some (f, pr)) :
    (method (k + 1) t v name).run P w = ((receiverAt t (.val v) pr (some ((name.splitOn ".").getLastD name))).run P w).andThen fun x w' => .ok (f, x) w' := by
  unfold method
  simp only [Sem.run_bind, ht, Result.andThen_ok, hm, hp, hf, follow]
  simp
theorem inv_len {w : World} {q : Nat} {v : Value} (hB : Blk w q 74 [v]) : (callMethod (vH q) "Len" ([] : List Value).toArray).run Try.prog w = .ok (.enter 36 [v].toArray) w := by
  have hl := load76 hB
  unfold callMethod vH
  have h1 : (typeInfo 72).run Try.prog w = .ok ((Try.prog.info? 72).getD default) w := by kernel_rfl
  have h2 : ((Try.prog.info? 72).getD default).methods.find? (fun x => x.name == "Len") = some (((Try.prog.info? 72).getD default).methods.getD 0 default) := by kernel_rfl
  have h3 : (((Try.prog.info? 72).getD default).methods.getD 0 default).path = #[] := by kernel_rfl
  have h4 : (((Try.prog.info? 72).getD default).methods.getD 0 default).func = some (36, false) := by kernel_rfl
  have h5 : ∀ s, (receiverAt 72 (.val (.pointer (some ⟨q, 0, none⟩))) false (some s)).run Try.prog w = (loadVar 74 ⟨q, 0, none⟩).run Try.prog w := fun s => by kernel_rfl
  have h6 : (program).run Try.prog w = .ok Try.prog w := rfl
  obtain ⟨k, hk⟩ : ∃ k, Try.prog.types.size + Made.depth = k + 1 := ⟨Try.prog.types.size + Made.depth - 1, by have h : 0 < Made.depth := (by decide +kernel); omega⟩
  simp only [Sem.run_bind, h6, Result.andThen_ok, hk, run_method h1 h2 h3 h4, h5, hl]
  rfl
theorem inv_less {w : World} {q : Nat} {v a b : Value} (hB : Blk w q 74 [v]) : (callMethod (vH q) "Less" ([a, b] : List Value).toArray).run Try.prog w = .ok (.enter 69 [v, a, b].toArray) w := by
  have hl := load76 hB
  unfold callMethod vH
  have h1 : (typeInfo 72).run Try.prog w = .ok ((Try.prog.info? 72).getD default) w := by kernel_rfl
  have h2 : ((Try.prog.info? 72).getD default).methods.find? (fun x => x.name == "Less") = some (((Try.prog.info? 72).getD default).methods.getD 1 default) := by kernel_rfl
  have h3 : (((Try.prog.info? 72).getD default).methods.getD 1 default).path = #[] := by kernel_rfl
  have h4 : (((Try.prog.info? 72).getD default).methods.getD 1 default).func = some (69, false) := by kernel_rfl
  have h5 : ∀ s, (receiverAt 72 (.val (.pointer (some ⟨q, 0, none⟩))) false (some s)).run Try.prog w = (loadVar 74 ⟨q, 0, none⟩).run Try.prog w := fun s => by kernel_rfl
  have h6 : (program).run Try.prog w = .ok Try.prog w := rfl
  obtain ⟨k, hk⟩ : ∃ k, Try.prog.types.size + Made.depth = k + 1 := ⟨Try.prog.types.size + Made.depth - 1, by have h : 0 < Made.depth := (by decide +kernel); omega⟩
  simp only [Sem.run_bind, h6, Result.andThen_ok, hk, run_method h1 h2 h3 h4, h5, hl]
  rfl
theorem inv_swap {w : World} {q : Nat} {v a b : Value} (hB : Blk w q 74 [v]) : (callMethod (vH q) "Swap" ([a, b] : List Value).toArray).run Try.prog w = .ok (.enter 72 [v, a, b].toArray) w := by
  have hl := load76 hB
  unfold callMethod vH
  have h1 : (typeInfo 72).run Try.prog w = .ok ((Try.prog.info? 72).getD default) w := by kernel_rfl
  have h2 : ((Try.prog.info? 72).getD default).methods.find? (fun x => x.name == "Swap") = some (((Try.prog.info? 72).getD default).methods.getD 4 default) := by kernel_rfl
  have h3 : (((Try.prog.info? 72).getD default).methods.getD 4 default).path = #[] := by kernel_rfl
  have h4 : (((Try.prog.info? 72).getD default).methods.getD 4 default).func = some (72, false) := by kernel_rfl
  have h5 : ∀ s, (receiverAt 72 (.val (.pointer (some ⟨q, 0, none⟩))) false (some s)).run Try.prog w = (loadVar 74 ⟨q, 0, none⟩).run Try.prog w := fun s => by kernel_rfl
  have h6 : (program).run Try.prog w = .ok Try.prog w := rfl
  obtain ⟨k, hk⟩ : ∃ k, Try.prog.types.size + Made.depth = k + 1 := ⟨Try.prog.types.size + Made.depth - 1, by have h : 0 < Made.depth := (by decide +kernel); omega⟩
  simp only [Sem.run_bind, h6, Result.andThen_ok, hk, run_method h1 h2 h3 h4, h5, hl]
  rfl
theorem inv_push {w : World} {q : Nat} {a : Value} : (callMethod (vH q) "Push" [a].toArray).run Try.prog w = .ok (.enter 71 [.pointer (some ⟨q, 0, none⟩), a].toArray) w := by kernel_rfl
theorem inv_pop {w : World} {q : Nat} : (callMethod (vH q) "Pop" ([] : List Value).toArray).run Try.prog w = .ok (.enter 70 [.pointer (some ⟨q, 0, none⟩)].toArray) w := by kernel_rfl
theorem lenQ {n0 q : Nat} {w : World} {l : List It} (hQ : QS n0 w q l) : ∃ ar : List Value, (callMethod (vH q) "Len" ([] : List Value).toArray).run Try.prog w = .ok (.enter 36 ar.toArray) w ∧ Calls Try.prog 36 ar.toArray w fun e w' => e = .returned (.int .i64 (l.length : Int)) ∧ Ext w w' := by
  obtain ⟨v, hB, hO, _, _⟩ := hQ
  obtain ⟨A, c, rfl, _⟩ := hO.sl hce_t
  exact ⟨_, inv_len hB, qlen_any A l.length c w⟩
theorem lessQ {n0 q i j : Nat} {w : World} {l : List It} {x y : It} (hQ : QS n0 w q l) (hx : l[i]? = some x) (hy : l[j]? = some y) : ∃ ar : List Value, (callMethod (vH q) "Less" [.int .i64 (i : Int), .int .i64 (j : Int)].toArray).run Try.prog w = .ok (.enter 69 ar.toArray) w ∧ Calls Try.prog 69 ar.toArray w fun e w' => e = .returned (.bool (decide (x.left < y.left))) ∧ Ext w w' := by
  obtain ⟨v, hB, hO, _, _⟩ := hQ
  obtain ⟨A, c, rfl, hS, _⟩ := hO.sl hce_t
  obtain ⟨b, rfl⟩ := Own.at0 hO (by have := (List.getElem?_eq_some_iff.1 hx).1; omega)
  exact ⟨_, inv_less hB, qless_any l b c i j x y w hS hx hy⟩
theorem swapQ {n0 q i j : Nat} {w : World} {l : List It} {x y : It} (hQ : QS n0 w q l) (hx : l[i]? = some x) (hy : l[j]? = some y) : ∃ ar : List Value, (callMethod (vH q) "Swap" [.int .i64 (i : Int), .int .i64 (j : Int)].toArray).run Try.prog w = .ok (.enter 72 ar.toArray) w ∧ Calls Try.prog 72 ar.toArray w fun e w' => e = .returned (.tuple #[]) ∧ QM q w w' ∧ QS n0 w' q ((l.set i y).set j x) := by
  obtain ⟨v, hB, hO, hne, hge⟩ := hQ
  obtain ⟨A, c, rfl, hS, _⟩ := hO.sl hce_t
  obtain ⟨b, rfl⟩ := Own.at0 hO (by have := (List.getElem?_eq_some_iff.1 hx).1; omega)
  exact ⟨_, inv_swap hB, (qswap_any l b c i j n0 x y w hO hx hy).mono fun e w' ⟨h1, h2, h3⟩ => ⟨h1, QS.row (l := l) hB hne hge rfl h2 h3⟩⟩

end Go.Proofs.Ythddekipelbooaa
