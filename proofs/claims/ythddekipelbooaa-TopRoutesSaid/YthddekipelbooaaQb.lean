/- Plain laws of chapter 44 (route): parts of cheapest paths; further blocked cells. -/
import Derived.Test.YthddekipelbooaaQa
namespace Go.Proofs.Ythddekipelbooaa
open Go Go.RowKit Core
set_option linter.unusedVariables false
set_option linter.unusedSimpArgs false
attribute [local irreducible] wpQuiet wpList wpH wpT Code.wp Calls bodyPost act


theorem good1 {g : Gr} {a b : Cl} {bend cost err : Int} {ps : List Cl} (h : PathS g a b bend ps cost err) (he : err = 0) : chkP g = 0 ∧ Fre g a ∧ Fre g b ∧ (0 ≤ bend ∧ bend ≤ 1000) ∧ ∃ r, ps = a :: r ∧ Gd g bend b c0 a r ∧ cost = wc bend c0 a r := by
  rcases h.good with ⟨_, h1⟩ | ⟨h1, _⟩
  · exact h1
  · exact (h1 he).elim
theorem wc_c0 {bend : Int} (hb : 0 ≤ bend) (r : List Cl) (u c : Cl) : wc bend c0 c r ≤ wc bend u c r := by
  cases r with
  | nil => exact Int.le_refl _
  | cons d r =>
    have h1 : stepP bend c0 (csub d c) = 1 := by unfold stepP; rw [if_pos (.inr rfl)]
    have h2 := stepP_bd hb u (csub d c)
    simp only [wc, h1]; omega
theorem drop_path {a : Cl} {r : List Cl} {i : Nat} (h : i < (a :: r).length) : (a :: r).drop i = lastC a (r.take i) :: r.drop i := by
  induction i generalizing a r with
  | zero => rfl
  | succ i ih =>
    cases r with
    | nil => simp at h
    | cons d r => exact ih (a := d) (by simpa using h)
theorem get_path {a : Cl} {r : List Cl} {i : Nat} (h : i < (a :: r).length) : (a :: r)[i]? = some (lastC a (r.take i)) := by
  have h1 := congrArg (fun l => l[0]?) (drop_path h)
  simpa using h1
/-- What RouteParts says. -/
theorem parts_ok {g : Gr} {a b : Cl} {bend : Int} {r : List Cl} {i : Nat} {ps1 ps2 : List Cl} {co1 co2 er1 er2 : Int} (h0 : chkP g = 0) (ha : Fre g a) (hb' : Fre g b) (hb : 0 ≤ bend ∧ bend ≤ 1000) (hG : Gd g bend b c0 a r) (hi : i < (a :: r).length)
    (h1 : PathS g a (lastC a (r.take i)) bend ps1 co1 er1) (h2 : PathS g (lastC a (r.take i)) b bend ps2 co2 er2) :
    er1 = 0 ∧ er2 = 0 ∧ co2 ≤ costP bend ((a :: r).drop i) ∧ co1 ≤ costP bend ((a :: r).take (i + 1)) ∧ co1 + co2 ≤ wc bend c0 a r ∧ (bend = 0 → co1 + co2 = wc bend c0 a r) ∧ (0 ≤ co1 ∧ 0 ≤ co2) := by
  obtain ⟨w1, w2, w3⟩ := hG.lst hb.1
  have hs := (chk_ok h0).1
  have e : r = r.take i ++ r.drop i := (List.take_append_drop i r).symm
  have w1' : wk g a (r.take i ++ r.drop i) := e ▸ w1
  rw [wk_app] at w1'
  have w2' : lastC (lastC a (r.take i)) (r.drop i) = b := by rw [← lastC_app, ← e]; exact w2
  have hp : Fre g (lastC a (r.take i)) := wk_last ha w1'.1
  obtain ⟨a1, r1, _, a2, a3⟩ := h1.ok h0 ha hp hb ⟨r.take i, w1'.1, rfl⟩
  obtain ⟨b1, r2, _, b2, b3⟩ := h2.ok h0 hp hb' hb ⟨r.drop i, w1'.2, w2'⟩
  obtain ⟨c1, c2, c3⟩ := a2.lst hb.1
  obtain ⟨d1, d2, d3⟩ := b2.lst hb.1
  have l1 := c3.2 _ w1'.1 rfl
  have l2 := d3.2 _ w1'.2 w2'
  have hd : costP bend ((a :: r).drop i) = wc bend c0 (lastC a (r.take i)) (r.drop i) := by rw [drop_path hi]; exact cost_wc hs hb hp.1 w1'.2
  have ht : costP bend ((a :: r).take (i + 1)) = wc bend c0 a (r.take i) := by rw [List.take_succ_cons]; exact cost_wc hs hb ha.1 w1'.1
  have hsum : wc bend c0 a r = wc bend c0 a (r.take i) + wc bend (dirC c0 a (r.take i)) (lastC a (r.take i)) (r.drop i) := by conv => lhs; rw [e, wc_app]
  have h5 := wc_c0 hb.1 (r.drop i) (dirC c0 a (r.take i)) (lastC a (r.take i))
  have n1 := wc_nn hb.1 r1 c0 a
  have n2 := wc_nn hb.1 r2 c0 (lastC a (r.take i))
  refine ⟨a1, b1, by omega, by omega, by omega, fun hz => ?_, by omega⟩
  subst hz
  have h6 := w3.2 (r1 ++ r2) ((wk_app _ _ _).2 ⟨c1, by rw [c2]; exact d1⟩) (by rw [lastC_app, c2]; exact d2)
  rw [wc_zero (r1 ++ r2), List.length_append] at h6
  rw [wc_zero] at a3 b3
  omega
/-- The way back. -/
theorem paths_back {g : Gr} {a b : Cl} {bend n e m f : Int} {ps qs : List Cl} (h : PathS g a b bend ps n e) (k : PathS g b a bend qs m f) : n = m ∧ e = f := by
  unfold PathS at h k
  by_cases h1 : chkP g ≠ 0
  · rw [if_pos h1] at h k
    exact ⟨h.2.1.trans k.2.1.symm, h.2.2.trans k.2.2.symm⟩
  rw [if_neg h1] at h k
  have hab : askB g a b bend = askB g b a bend := by unfold askB; rw [Bool.and_comm (inB g a)]
  by_cases h2 : ¬ askB g a b bend = true
  · rw [if_pos h2] at h; rw [if_pos (by rw [← hab]; exact h2)] at k
    exact ⟨h.2.1.trans k.2.1.symm, h.2.2.trans k.2.2.symm⟩
  rw [if_neg h2] at h; rw [if_neg (by rw [← hab]; exact h2)] at k
  have h2' := askB_iff.1 (Classical.not_not.1 h2)
  by_cases h3 : a ∈ g.bl ∨ b ∈ g.bl
  · rw [if_pos h3] at h; rw [if_pos h3.symm] at k
    exact ⟨h.2.1.trans k.2.1.symm, h.2.2.trans k.2.2.symm⟩
  rw [if_neg h3] at h; rw [if_neg (fun h => h3 h.symm)] at k
  have fa : Fre g a := ⟨h2'.1, fun h => h3 (.inl h)⟩
  have fb : Fre g b := ⟨h2'.2.1, fun h => h3 (.inr h)⟩
  rcases h with ⟨r, _, a2, a3, a4⟩ | ⟨a0, _, a2, a3⟩ <;> rcases k with ⟨r', _, b2, b3, b4⟩ | ⟨b0, _, b2, b3⟩
  · exact ⟨by rw [a3, b3]; exact lst_back fa fb (a2.lst h2'.2.2.1).2.2 (b2.lst h2'.2.2.1).2.2, by omega⟩
  · exact (b0 (walk_back fa ⟨r, (a2.lst h2'.2.2.1).1, (a2.lst h2'.2.2.1).2.1⟩)).elim
  · exact (a0 (walk_back fb ⟨r', (b2.lst h2'.2.2.1).1, (b2.lst h2'.2.2.1).2.1⟩)).elim
  · exact ⟨by omega, by omega⟩
theorem far_ok {g : Gr} {a b : Cl} {bend : Int} {r : List Cl} (hb : 0 ≤ bend) (ha : Fre g a) (hb' : Fre g b) (hG : Gd g bend b c0 a r) : farC a b ≤ wc bend c0 a r ∧ (g.bl = [] → bend = 0 → wc bend c0 a r = farC a b) := by
  obtain ⟨h1, h2, h3⟩ := hG.lst hb
  have h4 := far_le r a h1
  rw [h2] at h4
  have h5 := wc_nn hb r c0 a
  refine ⟨by omega, fun hn hz => ?_⟩
  subst hz
  have hnn : 0 ≤ farC a b := by unfold farC absI; omega
  obtain ⟨r', k1, k2, k3⟩ := free_walk hn hb'.1 (farC a b).toNat a ha.1 (by omega)
  have := h3.2 r' k1 k2
  rw [wc_zero r', k3] at this
  omega
theorem bend_ok {g : Gr} {a b : Cl} {bend k h : Int} {r ps : List Cl} (h0 : chkP g = 0) (ha : Fre g a) (hb' : Fre g b) (hb : 0 ≤ bend) (h9 : bend < 1000) (hG : Gd g bend b c0 a r) (hp : PathS g a b (bend + 1) ps k h) : h = 0 ∧ wc bend c0 a r ≤ k := by
  obtain ⟨h1, h2, h3⟩ := hG.lst hb
  obtain ⟨e, r', _, a2, a3⟩ := hp.ok h0 ha hb' (by omega) ⟨r, h1, h2⟩
  obtain ⟨k1, k2, k3⟩ := a2.lst (by omega)
  have h4 := h3.2 r' k1 k2
  have h5 := wc_mono (b1 := bend) (b2 := bend + 1) (by omega) r' c0 a
  exact ⟨e, by omega⟩
/-! ### a further blocked cell -/
structure Ins (g : Gr) (c : Cl) (dn0 : Bool) (k : Nat) (dn : Bool) (ol : List Cl) : Prop where
  src : ∀ x ∈ ol, x ∈ g.bl.take k ∨ (x = c ∧ dn0 = false ∧ dn = true)
  all : ∀ x ∈ g.bl.take k, x ∈ ol
  asc : ol.Pairwise Lt
  lt : ∀ x ∈ ol, ∀ y ∈ g.bl.drop k, Lt x y
  no : dn = false → dn0 = false ∧ ∀ x ∈ ol, Lt x c
  yes : dn = true → dn0 = true ∨ c ∈ ol
  len : ol.length ≤ k + 1 ∧ (dn = false → ol.length ≤ k)
theorem Ins.start (g : Gr) (c : Cl) (dn0 : Bool) : Ins g c dn0 0 dn0 [] := ⟨fun x h => (by cases h), fun x h => (by simp at h), .nil, fun x h => (by cases h), fun h => ⟨h, fun x h => (by cases h)⟩, .inl, by simp⟩
theorem asc_pair {l : List Cl} (h : Asc l) : l.Pairwise Lt := by
  rw [List.pairwise_iff_getElem]
  intro i j hi hj hij
  exact h i j _ _ hij (List.getElem?_eq_getElem hi) (List.getElem?_eq_getElem hj)
theorem pair_asc {l : List Cl} (h : l.Pairwise Lt) : Asc l := by
  intro i j a b hij ha hb
  obtain ⟨hi, ea⟩ := List.getElem?_eq_some_iff.1 ha
  obtain ⟨hj, eb⟩ := List.getElem?_eq_some_iff.1 hb
  rw [← ea, ← eb]
  exact List.pairwise_iff_getElem.1 h i j hi hj hij
/-- The cell itself goes in. -/
theorem Ins.put {g : Gr} {c y : Cl} {dn0 : Bool} {k : Nat} {ol : List Cl} (hs : Asc g.bl) (h : Ins g c dn0 k false ol) (hy : g.bl[k]? = some y) (hc : Lt c y) : Ins g c dn0 k true (ol ++ [c]) := by
  obtain ⟨n1, n2⟩ := h.no rfl
  have hd := asc_pair hs
  refine ⟨fun x hx => ?_, fun x hx => List.mem_append_left _ (h.all x hx), ?_, fun x hx z hz => ?_, fun e => (by cases e), fun _ => .inr (by simp), by rw [List.length_append, List.length_singleton]; have := h.len.2 rfl; exact ⟨by omega, fun e => (by cases e)⟩⟩
  · rcases List.mem_append.1 hx with e | e
    · rcases h.src x e with e2 | ⟨_, _, e2⟩
      · exact .inl e2
      · cases e2
    · exact .inr ⟨List.mem_singleton.1 e, n1, rfl⟩
  · rw [List.pairwise_append]
    exact ⟨h.asc, List.pairwise_singleton _ _, fun a ha b hb => by rw [List.mem_singleton.1 hb]; exact n2 a ha⟩
  · rcases List.mem_append.1 hx with e | e
    · exact h.lt x e z hz
    · rw [List.mem_singleton.1 e]
      rw [drop_get hy] at hz
      rcases List.mem_cons.1 hz with e2 | e2
      · rw [e2]; exact hc
      · rw [← List.take_append_drop k g.bl, drop_get hy, List.pairwise_append] at hd
        exact hc.trans ((List.pairwise_cons.1 hd.2.1).1 z e2)
theorem Ins.next {g : Gr} {c y : Cl} {dn0 dn : Bool} {k : Nat} {ol : List Cl} (hs : Asc g.bl) (h : Ins g c dn0 k dn ol) (hy : g.bl[k]? = some y) (hn : dn = false → Lt y c) : Ins g c dn0 (k + 1) dn (ol ++ [y]) := by
  have hd := asc_pair hs
  have hyk : y ∈ g.bl.drop k := by rw [drop_get hy]; exact .head _
  refine ⟨fun x hx => ?_, fun x hx => ?_, ?_, fun x hx z hz => ?_, fun e => ⟨(h.no e).1, fun x hx => ?_⟩, fun e => ?_, by rw [List.length_append, List.length_singleton]; have := h.len; exact ⟨by omega, fun e => by have := this.2 e; omega⟩⟩
  · rw [take_get hy]
    rcases List.mem_append.1 hx with e | e
    · rcases h.src x e with e2 | e2
      · exact .inl (List.mem_append_left _ e2)
      · exact .inr e2
    · exact .inl (List.mem_append_right _ e)
  · rw [take_get hy] at hx
    rcases List.mem_append.1 hx with e | e
    · exact List.mem_append_left _ (h.all x e)
    · exact List.mem_append_right _ e
  · rw [List.pairwise_append]
    exact ⟨h.asc, List.pairwise_singleton _ _, fun a ha b hb => by rw [List.mem_singleton.1 hb]; exact h.lt a ha y hyk⟩
  · have hz2 : z ∈ g.bl.drop k := by rw [drop_get hy]; exact .tail _ hz
    rcases List.mem_append.1 hx with e | e
    · exact h.lt x e z hz2
    · rw [List.mem_singleton.1 e]
      rw [← List.take_append_drop k g.bl, drop_get hy, List.pairwise_append] at hd
      exact (List.pairwise_cons.1 hd.2.1).1 z hz
  · rcases List.mem_append.1 hx with e2 | e2
    · exact (h.no e).2 x e2
    · rw [List.mem_singleton.1 e2]; exact hn e
  · rcases h.yes e with e2 | e2
    · exact .inl e2
    · exact .inr (List.mem_append_left _ e2)
/-- The end: all is in. -/
theorem Ins.done {g : Gr} {c : Cl} {dn0 : Bool} {k : Nat} {dn : Bool} {ol : List Cl} (h : Ins g c dn0 k dn ol) (hk : ¬ k < g.bl.length) : (dn = true → ol.Pairwise Lt ∧ (∀ x ∈ g.bl, x ∈ ol) ∧ ∀ x ∈ ol, x ∈ g.bl ∨ (x = c ∧ dn0 = false)) ∧ (dn = false → (ol ++ [c]).Pairwise Lt ∧ (∀ x ∈ g.bl, x ∈ ol ++ [c]) ∧ ∀ x ∈ ol ++ [c], x ∈ g.bl ∨ (x = c ∧ dn0 = false)) := by
  have ht : g.bl.take k = g.bl := List.take_of_length_le (by omega)
  have h1 := h.src
  have h2 := h.all
  rw [ht] at h1 h2
  refine ⟨fun e => ⟨h.asc, h2, fun x hx => ?_⟩, fun e => ⟨?_, fun x hx => List.mem_append_left _ (h2 x hx), fun x hx => ?_⟩⟩
  · rcases h1 x hx with e2 | ⟨e2, e3, _⟩
    · exact .inl e2
    · exact .inr ⟨e2, e3⟩
  · rw [List.pairwise_append]
    exact ⟨h.asc, List.pairwise_singleton _ _, fun a ha b hb => by rw [List.mem_singleton.1 hb]; exact (h.no e).2 a ha⟩
  · rcases List.mem_append.1 hx with e2 | e2
    · rcases h1 x e2 with e3 | ⟨e3, e4, _⟩
      · exact .inl e3
      · exact .inr ⟨e3, e4⟩
    · exact .inr ⟨List.mem_singleton.1 e2, (h.no e).1⟩
theorem ck_of {g : Gr} : ∀ (l : List Cl) (p : Option Cl), (∀ c ∈ l, inB g c = true) → l.Pairwise Lt → (∀ q, p = some q → ∀ c ∈ l, Lt q c) → ckL g p l = 0
  | [], _, _, _, _ => rfl
  | c :: r, p, h1, h2, h3 => by
    have h4 := List.pairwise_cons.1 h2
    unfold ckL
    rw [if_pos (h1 c (.head _)), if_pos]
    · exact ck_of r (some c) (fun x hx => h1 x (.tail _ hx)) h4.2 (fun q e x hx => by cases e; exact h4.1 x hx)
    · cases p with
      | none => rfl
      | some q => exact befB_iff.2 (h3 q rfl c (.head _))
theorem chk_of {g : Gr} (h1 : szA g = true) (h2 : ∀ c ∈ g.bl, inB g c = true) (h3 : g.bl.Pairwise Lt) : chkP g = 0 := by
  unfold chkP
  rw [if_pos h1]
  exact ck_of _ _ h2 h3 (fun q e => by cases e)
/-- What RouteTurns says of a further blocked cell. -/
theorem more_ok {g : Gr} {A : Option Addr} {cap : Nat} {ol ps : List Cl} {a b c : Cl} {bend k h : Int} {r : List Cl} {dn0 : Bool} (h0 : chkP g = 0) (ha : Fre g a) (hb' : Fre g b) (hb : 0 ≤ bend ∧ bend ≤ 1000) (hG : Gd g bend b c0 a r) (hd : dn0 = false → inB g c = true)
    (m1 : ol.Pairwise Lt) (m2 : ∀ x ∈ g.bl, x ∈ ol) (m3 : ∀ x ∈ ol, x ∈ g.bl ∨ (x = c ∧ dn0 = false)) (hp : PathS ⟨g.nx, g.ny, g.nz, A, ol, cap⟩ a b bend ps k h) :
    (¬ h = 0 ∨ wc bend c0 a r ≤ k) ∧ (h = 0 ∨ h = 8 ∨ (h = 18 ∧ (c = a ∨ c = b))) := by
  obtain ⟨g2, hg2⟩ : ∃ g2 : Gr, g2 = ⟨g.nx, g.ny, g.nz, A, ol, cap⟩ := ⟨_, rfl⟩
  rw [← hg2] at hp
  have hin : ∀ x, inB g2 x = inB g x := fun x => by rw [hg2]; rfl
  have hbl : g2.bl = ol := by rw [hg2]
  obtain ⟨c1, c2, c3⟩ := chk_ok h0
  have hc : chkP g2 = 0 := chk_of (by rw [hg2]; exact c1) (fun x hx => by
    rw [hin]; rw [hbl] at hx
    rcases m3 x hx with e | ⟨e, e2⟩
    · exact c2 x e
    · rw [e]; exact hd e2) (by rw [hbl]; exact m1)
  have hfr : ∀ x, Fre g2 x → Fre g x := fun x hx => ⟨by rw [← hin]; exact hx.1, fun hm => hx.2 (by rw [hbl]; exact m2 x hm)⟩
  unfold PathS at hp
  rw [if_neg (fun e => e hc), if_neg (fun e => e (askB_iff.2 ⟨by rw [hin]; exact ha.1, by rw [hin]; exact hb'.1, hb⟩))] at hp
  by_cases h3 : a ∈ g2.bl ∨ b ∈ g2.bl
  · rw [if_pos h3] at hp
    refine ⟨.inl (by omega), .inr (.inr ⟨hp.2.2, ?_⟩)⟩
    rw [hbl] at h3
    rcases h3 with e | e
    · rcases m3 a e with e2 | ⟨e2, _⟩
      · exact (ha.2 e2).elim
      · exact .inl e2.symm
    · rcases m3 b e with e2 | ⟨e2, _⟩
      · exact (hb'.2 e2).elim
      · exact .inr e2.symm
  · rw [if_neg h3] at hp
    rcases hp with ⟨r', _, a2, a3, a4⟩ | ⟨_, _, _, a3⟩
    · obtain ⟨k1, k2, k3⟩ := a2.lst hb.1
      have := (hG.lst hb.1).2.2.2 r' (wk_sub hfr k1) k2
      exact ⟨.inr (by omega), .inl a4⟩
    · exact ⟨.inl (by omega), .inr (.inl a3)⟩

end Go.Proofs.Ythddekipelbooaa
