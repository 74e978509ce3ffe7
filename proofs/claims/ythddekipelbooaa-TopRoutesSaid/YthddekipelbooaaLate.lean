/- Drawn regions with late operations: the condition S need not hold behind them; operations that yield their value in whatever world may stand anywhere. No program in sight. -/
import Derived.Test.YthddekipelbooaaWide
namespace Go.Proofs.Core
open Go Go.RowKit
variable {ds : List Deferred}
set_option linter.unusedVariables false
set_option linter.unusedSimpArgs false
section
variable {P : Program} {ops : Array Oper} {Q : Exit → Act → World → Prop} {S : World → Prop} {md : Region.Mode} {lates : List Nat}
/-- S, as long as no late one has come. -/
def SL (S : World → Prop) (lates : List Nat) (listed : Array Bool) (w : World) : Prop := (∀ k ∈ lates, listed.getD k false = false) → S w
def wpAnyG (P : Program) (md : Region.Mode) (ops : Array Oper) (Q : Exit → Act → World → Prop) (S : World → Prop) (lates : List Nat) : Nat → Array Bool → Act → World → Prop
  | 0, listed, a, w => Region.ready md ops listed = [] ∧ Q .normal a w
  | fuel + 1, listed, a, w =>
    (Region.ready md ops listed = [] → Q .normal a w) ∧
    ∀ i ∈ Region.ready md ops listed, wpOp P ops Q i (fun a' w' => SL S lates (listed.setIfInBounds i true) w' ∧ wpAnyG P md ops Q S lates fuel (listed.setIfInBounds i true) a' w') a w
theorem wpAny_of_g : ∀ (fuel : Nat) (listed : Array Bool) (a : Act) (w : World), wpAnyG P md ops Q S lates fuel listed a w → wpAny P md ops Q fuel listed a w
  | 0, _, _, _, h => h
  | fuel + 1, _, _, _, h => ⟨h.1, fun i hi => wpOp_mono (fun a' w' h' => wpAny_of_g fuel _ a' w' h'.2) (h.2 i hi)⟩
theorem SL.set {listed : Array Bool} {i : Nat} {w : World} (h : SL S lates listed w) (hi : ¬ i ∈ lates) : SL S lates (listed.setIfInBounds i true) w := fun hk => h fun k hk' => by
  have := hk k hk'
  rwa [getD_set_ne false (fun (e : i = k) => hi (e ▸ hk'))] at this
theorem SL.drop {listed : Array Bool} {i j : Nat} {w : World} (hi : ¬ i ∈ lates) (hij : i ≠ j) (h : SL S lates ((listed.setIfInBounds i true).setIfInBounds j true) w) : SL S lates (listed.setIfInBounds j true) w := fun hk => h fun k hk' => by
  rw [Array.setIfInBounds_comm _ _ hij, getD_set_ne false (fun (e : i = k) => hi (e ▸ hk'))]
  exact hk k hk'
theorem Closed.bef' {listed : Array Bool} {k i : Nat} (hc : Closed ops md listed) (hk : listed.getD k false = true) (hb : Bef ops md k i) : listed.getD i false = true := by
  induction hb with
  | one h1 he hb' => exact hc _ _ h1 hk _ he hb'
  | more h0 h1 he hb' ih => exact hc _ _ h1 ih _ he hb'
theorem SL.get {listed : Array Bool} {i : Nat} {w : World} (h : SL S lates listed w) (hc : Closed ops md listed) (hr : i ∈ Region.ready md ops listed) (hb : ∀ k ∈ lates, Bef ops md k i) : S w := h fun k hk => by
  cases hg : listed.getD k false with
  | false => rfl
  | true => exact (getD_tf (hc.bef' hg (hb k hk)) (mem_ready.1 hr).1).elim
theorem SL.late {listed : Array Bool} {i : Nat} {w : World} (hi : i ∈ lates) (hlt : i < listed.size) : SL S lates (listed.setIfInBounds i true) w := fun hk => by
  have := hk i hi
  simp [hlt] at this

/-- T is S for those that look at memory (which all late ones wait for), or nothing. -/
theorem wpAnyG_first {T : World → Prop} {i : Nat} {oi : Oper} {v : Value} (hi : ops[i]? = some oi) (hsel : ∀ (j : Nat) (o : Oper) cs b, ops[j]? = some o → o.op ≠ .select cs b)
    (hQ : ∀ c a w, Q (.panic c) (a.put oi.dst v) w → Q (.panic c) a w) (hT : (T = S ∧ ∀ k ∈ lates, Bef ops md k i) ∨ T = fun _ => True) (hne : ¬ i ∈ lates) :
    ∀ (fuel : Nat) (listed : Array Bool) (a : Act) (w : World),
      (∀ j oj, ops[j]? = some oj → j ≠ i → listed.getD j true = false → (∀ e ∈ oj.after, Region.binds md e = true → e.on ≠ i) → oi.apart ops oj = true) →
      Closed ops md listed → i ∈ Region.ready md ops listed → YieldsIf P ops T oi v a → SL S lates listed w →
      wpAnyG P md ops Q S lates fuel (listed.setIfInBounds i true) (a.put oi.dst v) w → wpAnyG P md ops Q S lates (fuel + 1) listed a w := by
  have tw : ∀ {listed : Array Bool} {w : World}, Closed ops md listed → i ∈ Region.ready md ops listed → SL S lates listed w → T w := fun hc hr hS => by
    rcases hT with ⟨rfl, hb⟩ | rfl
    · exact hS.get hc hr hb
    · trivial
  intro fuel
  induction fuel with
  | zero =>
    intro listed a w _ hc hr hy hS H
    refine ⟨fun h => (by rw [h] at hr; cases hr), fun j hj => ?_⟩
    by_cases hji : j = i
    · subst hji; exact hy.wpOp hi (tw hc hr hS) ⟨hS.set hne, H⟩
    · have := ready_mono hj hji
      rw [H.1] at this
      cases this
  | succ fuel ih =>
    intro listed a w hfree hc hr hy hS H
    refine ⟨fun h => (by rw [h] at hr; cases hr), fun j hj => ?_⟩
    by_cases hji : j = i
    · subst hji; exact hy.wpOp hi (tw hc hr hS) ⟨hS.set hne, H⟩
    · have h1 := H.2 j (ready_mono hj hji)
      obtain ⟨hjun, oj, hoj, hall⟩ := mem_ready.1 hj
      have hnot : ∀ e ∈ oj.after, Region.binds md e = true → e.on ≠ i := fun e he hb heq => by
        have h1 := hall e he hb
        have h0 := (mem_ready.1 hr).1
        rw [heq] at h1
        exact getD_tf h1 h0
      have h2 := wpOp_putIf hoj (hfree j oj hoj hji hjun hnot) (fun cs b => hsel i oi cs b hi) (fun cs b => hsel j oj cs b hoj) hQ hy h1
      have hfree' : ∀ k ok, ops[k]? = some ok → k ≠ i → (listed.setIfInBounds j true).getD k true = false →
          (∀ e ∈ ok.after, Region.binds md e = true → e.on ≠ i) → oi.apart ops ok = true := fun k ok hk hki hun hno => by
        refine hfree k ok hk hki ?_ hno
        by_cases hjk : j = k
        · subst hjk; exact hjun
        · rw [getD_set_ne true hjk] at hun; exact hun
      refine wpOp_mono (fun a' w' h3 => ?_) h2
      have hS' := SL.drop hne (Ne.symm hji) h3.2.1
      refine ⟨hS', ih (listed.setIfInBounds j true) a' w' hfree' (hc.set hj) (ready_mono hr (Ne.symm hji)) h3.1 hS' ?_⟩
      rw [Array.setIfInBounds_comm _ _ hji]
      exact h3.2.2

/-- The walk along a list: (number, kind). 1: it yields its value in every world of S; 2: in whatever world; 0: it stands alone, and S is shown anew behind it; 3: it stands alone, late. -/
def wpG (P : Program) (ops : Array Oper) (S : World → Prop) (Q : Exit → Act → World → Prop) : List (Nat × Nat) → Act → World → Prop
  | [], a, w => Q .normal a w
  | (i, k) :: rest, a, w =>
    match ops[i]? with
    | none => False
    | some o =>
      if Region.wanted o (yielded ops a.tmps) then
        if k = 1 then ∃ v, (∀ w', S w' → (execOp a.eval o).run P w' = .ok (.value v) w') ∧ wpG P ops S Q rest (a.put o.dst v) w
        else if k = 2 then ∃ v, (∀ w', (execOp a.eval o).run P w' = .ok (.value v) w') ∧ wpG P ops S Q rest (a.put o.dst v) w
        else (o.wp P a w (fun a' w' => (k = 3 ∨ S w') ∧ wpG P ops S Q rest a' w') Q ∨ (o.asks P a w ∧ LetsOut Q))
      else wpG P ops S Q rest (a.put o.dst undef) w
/-- ph: no late one has come yet. -/
def okG (ops : Array Oper) (lates : List Nat) : List (Nat × Nat) → Array Bool → Bool → Bool
  | [], listed, _ => (Region.ready .any ops listed).isEmpty
  | (i, k) :: rest, listed, ph =>
    (if k = 1 then (Region.ready .any ops listed).contains i && Region.free .any ops listed i && lates.all (fun k => (befs ops k).contains i) && !(lates.contains i)
      else if k = 2 then (Region.ready .any ops listed).contains i && Region.free .any ops listed i && !(lates.contains i)
      else if k = 3 then Region.ready .any ops listed == [i] && lates.contains i && Nat.blt i listed.size
      else Region.ready .any ops listed == [i] && !(lates.contains i)) && okG ops lates rest (listed.setIfInBounds i true) (ph && !(Nat.beq k 3))
theorem wpAnyG_of_wpG (hs : Region.noSelect ops = true) (hQ : ∀ c a w (d : Option Tmp) v, Q (.panic c) (a.put d v) w → Q (.panic c) a w) :
    ∀ (l : List (Nat × Nat)) (listed : Array Bool) (ph : Bool) (a : Act) (w : World), okG ops lates l listed ph = true → Closed ops .any listed → SL S lates listed w → wpG P ops S Q l a w → wpAnyG P .any ops Q S lates l.length listed a w
  | [], listed, ph, a, w, hB, hc, _, h => ⟨by simpa [okG] using hB, h⟩
  | (i, k) :: rest, listed, ph, a, w, hB, hc, hS, h => by
    unfold okG at hB
    rw [Bool.and_eq_true] at hB
    obtain ⟨hk, hB'⟩ := hB
    have ih := fun a' w' h1 h2 h3 => wpAnyG_of_wpG hs hQ rest (listed.setIfInBounds i true) _ a' w' hB' h1 h2 h3
    unfold wpG at h
    cases ho : ops[i]? with
    | none => rw [ho] at h; exact h.elim
    | some o =>
      simp only [ho] at h
      by_cases h1 : k = 1
      · subst h1
        simp only [if_true, Bool.and_eq_true] at hk
        obtain ⟨⟨⟨hr, hf⟩, hb⟩, hne⟩ := hk
        have hr' : i ∈ Region.ready .any ops listed := by simpa using hr
        have hne' : ¬ i ∈ lates := by intro e; simp [e] at hne
        have hb' : ∀ k ∈ lates, Bef ops .any k i := fun k hk => befs_spec (ops := ops) (last := k) (x := i) (by simpa using List.all_eq_true.1 hb k hk)
        by_cases hw : Region.wanted o (yielded ops a.tmps) = true
        · simp only [hw, if_true] at h
          obtain ⟨v, hv, hn⟩ := h
          exact wpAnyG_first ho (Region.noSelect_spec hs) (fun c a w => hQ c a w _ _) (.inl ⟨rfl, hb'⟩) hne' _ _ _ _ (Region.free_spec ho hf) hc hr' (.inl ⟨hw, hv⟩) hS (ih _ _ (hc.set hr') (hS.set hne') hn)
        · have hw' : Region.wanted o (yielded ops a.tmps) = false := by simpa using hw
          simp only [hw', Bool.false_eq_true, if_false] at h
          exact wpAnyG_first ho (Region.noSelect_spec hs) (fun c a w => hQ c a w _ _) (.inl ⟨rfl, hb'⟩) hne' _ _ _ _ (Region.free_spec ho hf) hc hr' (.inr ⟨hw', rfl⟩) hS (ih _ _ (hc.set hr') (hS.set hne') h)
      · by_cases h2 : k = 2
        · subst h2
          simp only [if_neg h1, if_true, Bool.and_eq_true] at hk
          obtain ⟨⟨hr, hf⟩, hne⟩ := hk
          have hr' : i ∈ Region.ready .any ops listed := by simpa using hr
          have hne' : ¬ i ∈ lates := by intro e; simp [e] at hne
          by_cases hw : Region.wanted o (yielded ops a.tmps) = true
          · simp only [hw, if_true, if_neg h1] at h
            obtain ⟨v, hv, hn⟩ := h
            exact wpAnyG_first ho (Region.noSelect_spec hs) (fun c a w => hQ c a w _ _) (.inr rfl) hne' _ _ _ _ (Region.free_spec ho hf) hc hr' (.inl ⟨hw, fun w' _ => hv w'⟩) hS (ih _ _ (hc.set hr') (hS.set hne') hn)
          · have hw' : Region.wanted o (yielded ops a.tmps) = false := by simpa using hw
            simp only [hw', Bool.false_eq_true, if_false] at h
            exact wpAnyG_first ho (Region.noSelect_spec hs) (fun c a w => hQ c a w _ _) (.inr rfl) hne' _ _ _ _ (Region.free_spec ho hf) hc hr' (.inr ⟨hw', rfl⟩) hS (ih _ _ (hc.set hr') (hS.set hne') h)
        · simp only [if_neg h1, if_neg h2] at hk h
          have hrS : Region.ready .any ops listed = [i] ∧ (k = 3 → i ∈ lates ∧ i < listed.size) ∧ (k ≠ 3 → ¬ i ∈ lates) := by
            by_cases h3 : k = 3
            · rw [if_pos h3, Bool.and_eq_true, Bool.and_eq_true, beq_iff_eq] at hk
              exact ⟨hk.1.1, fun _ => ⟨by simpa using hk.1.2, by simpa [Nat.blt_eq] using hk.2⟩, fun h => (h h3).elim⟩
            · rw [if_neg h3, Bool.and_eq_true, beq_iff_eq] at hk
              exact ⟨hk.1, fun h => (h3 h).elim, fun _ => (by intro e; simp [e] at hk)⟩
          obtain ⟨hr, hl3, hl0⟩ := hrS
          have hr' : i ∈ Region.ready .any ops listed := by rw [hr]; exact List.mem_singleton.2 rfl
          refine ⟨fun h0 => (by rw [h0] at hr; cases hr), ?_⟩
          intro j hj
          obtain rfl : j = i := by rw [hr] at hj; simpa using hj
          unfold wpOp
          simp only [ho]
          have hSL : ∀ w', (k = 3 ∨ S w') → SL S lates (listed.setIfInBounds j true) w' := fun w' hh => by
            rcases hh with hh | hh
            · exact SL.late (hl3 hh).1 (hl3 hh).2
            · exact fun _ => hh
          split
          · rename_i hw
            simp only [hw, if_true] at h
            rcases h with h | h
            · exact .inl (Oper.wp_mono (fun a' w' ⟨h1, h2⟩ => ⟨hSL w' h1, ih a' w' (hc.set hr') (hSL w' h1) h2⟩) h)
            · exact .inr h
          · rename_i hw
            simp only [hw, Bool.false_eq_true, if_false] at h
            have hS2 : SL S lates (listed.setIfInBounds j true) w := by
              by_cases h3 : k = 3
              · exact SL.late (hl3 h3).1 (hl3 h3).2
              · exact hS.set (hl0 h3)
            exact ⟨hS2, ih _ _ (hc.set hr') hS2 h⟩

variable {n : Nat} {l : List (Nat × Bool × Value)} {σ : Nat → Value} {w : World} {L : List Oper}
theorem region_g {id : Nat} {a : Act} (S : World → Prop) (lates : List Nat) (ord : List (Nat × Nat)) (hm : P.follows .mixedOrders = true) (hs : Region.noSelect L.toArray = true) (hl : Nat.beq ord.length L.length = true)
    (hB : okG L.toArray lates ord (Array.replicate ord.length false) true = true) (hQ : PanicOk Q) (h : ∀ w', Ext w w' → S w' ∧ wpG P L.toArray S Q ord a w') : (Code.region id L.toArray true).wp P Q a w := by
  have hl' : ord.length = L.toArray.size := by rw [List.size_toArray]; exact Nat.eq_of_beq_eq_true hl
  have h' := h _ (ext_drew w)
  refine wp_region_any hm (wpAny_of_g (S := S) (lates := lates) _ _ _ _ ?_)
  rw [← hl']
  exact wpAnyG_of_wpG hs hQ ord _ true a _ hB (.zero _) (fun _ => h'.1) h'.2
variable {d : Tmp} {op : Op} {ty : TypeId} {pos : String} {after : Array Edge} {i : Nat} {rest : List (Nat × Nat)}
theorem g_look {v : Value} (hi : opAt L i = some ⟨some d, op, ty, pos, after, none⟩) (h : Look P S n l σ ⟨some d, op, ty, pos, after, none⟩ v) (next : wpG P L.toArray S Q rest (act (ds := ds) n ((d, true, v) :: l) σ) w) :
    wpG P L.toArray S Q ((i, 1) :: rest) (act (ds := ds) n l σ) w := by
  unfold wpG
  simp only [opAt_spec hi, Region.wanted, if_true]
  exact ⟨v, fun w' hw' => h.at_ w' hw', by rw [put_act']; exact next⟩
theorem g_pure {v : Value} (hi : opAt L i = some ⟨some d, op, ty, pos, after, none⟩) (h : Look P (fun _ => True) n l σ ⟨some d, op, ty, pos, after, none⟩ v) (next : wpG P L.toArray S Q rest (act (ds := ds) n ((d, true, v) :: l) σ) w) :
    wpG P L.toArray S Q ((i, 2) :: rest) (act (ds := ds) n l σ) w := by
  unfold wpG
  simp only [opAt_spec hi, Region.wanted, if_true]
  exact ⟨v, fun w' => h.at_ w' trivial, by rw [put_act']; exact next⟩
/-- A loud one, by the laws of the walk in sequence. -/
theorem g_seq {o : Oper} {a : Act} (hi : opAt L i = some o) (h : wpList P L.toArray (Exit.then (fun a' w' => S w' ∧ wpG P L.toArray S Q rest a' w') Q) [o] a w) (hS : S w) : wpG P L.toArray S Q ((i, 0) :: rest) a w := by
  unfold wpG
  simp only [opAt_spec hi, if_neg (show ¬ (0 : Nat) = 1 by decide), if_neg (show ¬ (0 : Nat) = 2 by decide)]
  unfold wpList at h
  split
  · rename_i hw
    rw [if_pos hw] at h
    rcases h with h | h
    · exact .inl (wp_monoQ (fun a' w' h' => ⟨.inr h'.1, h'.2⟩) h)
    · exact .inr h
  · rename_i hw
    rw [if_neg hw] at h
    exact h.2
theorem g_late {o : Oper} {a : Act} (hi : opAt L i = some o) (h : wpList P L.toArray (Exit.then (fun a' w' => wpG P L.toArray S Q rest a' w') Q) [o] a w) : wpG P L.toArray S Q ((i, 3) :: rest) a w := by
  unfold wpG
  simp only [opAt_spec hi, if_neg (show ¬ (3 : Nat) = 1 by decide), if_neg (show ¬ (3 : Nat) = 2 by decide)]
  unfold wpList at h
  split
  · rename_i hw
    rw [if_pos hw] at h
    rcases h with h | h
    · exact .inl (wp_monoQ (fun a' w' h' => ⟨.inl trivial, h'⟩) h)
    · exact .inr h
  · rename_i hw
    rw [if_neg hw] at h
    exact h
theorem g_nil {a : Act} (h : Q .normal a w) : wpG P L.toArray S Q [] a w := h
theorem then_g {K : Act → World → Prop} {a : Act} (h : K a w) : Exit.then K Q .normal a w := h
end
section
variable {P : Program} {C : World → Prop} {Q : Exit → Act → World → Prop} {n : Nat} {l : List (Nat × Bool × Value)} {σ : Nat → Value} {w : World}
theorem look_quot {d : Option Tmp} {ty : TypeId} {pos : String} {after : Array Edge} {g : Option (Nat × Bool)} {p q : Bool} {t t' : TypeId} {x y : Operand} {k : IntKind} {m m' z : Int} (hx : ev n l x = some (p, .int k m)) (hp : p = true) (hy : ev n l y = some (q, .int k m')) (hq : q = true) (h1 : m' ≠ 0) (hz : k.wrap (m.tdiv m') = z) :
    Look P C n l σ ⟨d, .binOp .quo t x y t', ty, pos, after, g⟩ (.int k z) := fun w _ => by
  subst hz
  simp [execOp, eval_ev hx hp, eval_ev hy hq, eqGuard, binOp, Op.intDiv, h1]
theorem look_or_t {d : Option Tmp} {ty : TypeId} {pos : String} {after : Array Edge} {g : Option (Nat × Bool)} {p : Bool} {c a : Operand} (hc : ev n l c = some (p, .bool true)) (hp : p = true) :
    Look P C n l σ ⟨d, .pick c (.const (.bool true)) a, ty, pos, after, g⟩ (.bool true) := fun w _ => by
  have e := eval_ev (ds := []) (σ := σ) hc hp
  simp only [execOp, e, asBool]
  simp [Act.eval]
theorem look_and_f {d : Option Tmp} {ty : TypeId} {pos : String} {after : Array Edge} {g : Option (Nat × Bool)} {p : Bool} {c a : Operand} (hc : ev n l c = some (p, .bool false)) (hp : p = true) :
    Look P C n l σ ⟨d, .pick c a (.const (.bool false)), ty, pos, after, g⟩ (.bool false) := fun w _ => by
  have e := eval_ev (ds := []) (σ := σ) hc hp
  simp only [execOp, e, asBool]
  simp [Act.eval]
variable {d : Tmp} {op : Op} {ty : TypeId} {pos : String} {after : Array Edge} {rest : List Oper}
/-- A guarded operation whose guard fails, in sequence. -/
theorem s_dead {v : Value} {L : List Oper} {j dj : Nat} {want b : Bool} {oj : Oper} (hj' : opAt L j = some oj) (hd : oj.dst = some dj) (hv : ev n l (.tmp dj) = some (true, .bool b)) (hb : b = !want)
    (h : wpList P L.toArray Q rest (act (ds := ds) n ((d, false, v) :: l) σ) w) : wpList P L.toArray Q (⟨some d, op, ty, pos, after, some (j, want)⟩ :: rest) (act (ds := ds) n l σ) w := by
  refine s_skip hj' hd hv hb ?_
  have e1 := put_act (ds := ds) n l σ d false v
  have e2 := put_act (ds := ds) n l σ d false undef
  have e : gv false v = gv false undef := rfl
  rw [e] at e1
  rw [← e2, e1]
  exact h
end
end Go.Proofs.Core
