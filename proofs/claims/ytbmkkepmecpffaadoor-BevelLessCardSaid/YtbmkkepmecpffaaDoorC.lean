/- The walks of chapter 22 (bevel), third part: tables. -/
import Derived.Test.YtbmkkepmecpffaaDoorB
namespace Go.Proofs.YtbmkkepmecpffaaDoor
open Go Go.RowKit Core
set_option linter.unusedVariables false
set_option linter.unusedSimpArgs false
attribute [local irreducible] wpQuiet wpList Code.wp Calls bodyPost act


/-- The slice at A reads as the rows l. -/
def SlB (w : World) (A : Option Addr) (l : List B) : Prop :=
  l = [] ∨ ∃ b o, A = some ⟨b, o, none⟩ ∧ ∀ (i : Nat) (x : B), l[i]? = some x → ∀ (j : Nat) (v : Value), (bcells x)[j]? = some v → w.cell? ⟨b, o + i * 6 + j, none⟩ = some v
theorem SlB.ext {w w' : World} {A : Option Addr} {l : List B} (h : SlB w A l) (e : Ext w w') : SlB w' A l := by
  rcases h with h | ⟨b, o, h1, h2⟩
  · exact .inl h
  · exact .inr ⟨b, o, h1, fun i x hx j v hv => e.cell (h2 i x hx j v hv)⟩
theorem SlB.at_ {w : World} {A : Option Addr} {l : List B} (h : SlB w A l) {k : Nat} (hk : k < l.length) :
    ∃ b o, A = some ⟨b, o, none⟩ ∧ ∀ (i : Nat) (x : B), l[i]? = some x → ∀ (j : Nat) (v : Value), (bcells x)[j]? = some v → w.cell? ⟨b, o + i * 6 + j, none⟩ = some v := by
  rcases h with h | h
  · subst h; simp at hk
  · exact h
theorem get_lt {α : Type} {l : List α} {k : Nat} (hk : k < l.length) : ∃ x, l[k]? = some x := ⟨l[k], List.getElem?_eq_getElem hk⟩
theorem drop_get {α : Type} {l : List α} {k : Nat} {x : α} (hx : l[k]? = some x) : l.drop k = x :: l.drop (k + 1) := by
  obtain ⟨hk, rfl⟩ := List.getElem?_eq_some_iff.1 hx
  exact List.drop_eq_getElem_cons hk
def hits (kind thick : Int) (x : B) : Bool := decide (x.kind = kind) && withinB thick x.fr x.un
def fi (p : B → Bool) : List B → Int → Int
  | [], _ => -1
  | x :: r, k => if p x = true then k else fi p r (k + 1)
def zB : B := ⟨0, 0, 0, 0, 0, 0⟩
def findP (p : B → Bool) (l : List B) : B × Bool := match l.find? p with
  | some x => (x, true)
  | none => (zB, false)
theorem fi_spec (p : B → Bool) : ∀ (l : List B) (k : Int), 0 ≤ k → (fi p l k = -1 ∧ l.find? p = none) ∨ ∃ (i : Nat) (x : B), fi p l k = k + i ∧ l[i]? = some x ∧ l.find? p = some x
  | [], _, _ => .inl ⟨rfl, rfl⟩
  | x :: r, k, hk => by
    by_cases h : p x = true
    · exact .inr ⟨0, x, by simp [fi, h], rfl, by simp [h]⟩
    · have h' : p x = false := by simpa using h
      rcases fi_spec p r (k + 1) (by omega) with ⟨h1, h2⟩ | ⟨i, y, h1, h2, h3⟩
      · exact .inl ⟨by simp [fi, h', h1], by simp [h', h2]⟩
      · exact .inr ⟨i + 1, y, by simp only [fi, h', Bool.false_eq_true, if_false, h1]; omega, by simpa using h2, by simp [h', h3]⟩
def badP : Option B → B → Bool
  | none, _ => false
  | some q, x => decide (x.kind < q.kind) || (decide (x.kind = q.kind) && decide (x.fr ≤ q.un))
def chk : Option B → List B → Int
  | _, [] => 0
  | p, x :: r => if knownB x.kind = false then 10 else if rightB x = false then 9 else if badP p x = true then 11 else chk (some x) r
def checkP (l : List B) : Int := if 32 < l.length then 4 else chk none l
def prevOf (l : List B) (k : Nat) : Option B := if k = 0 then none else l[k - 1]?
theorem rightE_as (x : B) : rightE x = if knownB x.kind = false then 10 else if rightB x = false then 9 else 0 := rfl

theorem find1_any (x : B) (kind thick : Int) (ga gb : Nat) (w : World) (ha : w.cell? ⟨ga, 0, none⟩ = some (.int .i64 kind)) (hb : w.cell? ⟨gb, 0, none⟩ = some (.int .i64 thick)) :
    Calls Tryd.prog 28 #[.agg #[.int .i64 x.kind, .int .i64 x.fr, .int .i64 x.un, .int .i64 x.gap, .int .i64 x.face, .int .i64 x.run], .pointer (some ⟨ga, 0, none⟩), .pointer (some ⟨gb, 0, none⟩)] w fun e w' => e = .returned (.bool (hits kind thick x)) ∧ Ext w w' := by
  refine calls_act Tryd.func28 rfl Tryd.ntmps28 rfl rfl ?_
  show Code.wp _ _ _ (act 17 [(0, true, .agg #[.int .i64 x.kind, .int .i64 x.fr, .int .i64 x.un, .int .i64 x.gap, .int .i64 x.face, .int .i64 x.run]), (1, true, .pointer (some ⟨ga, 0, none⟩)), (2, true, .pointer (some ⟨gb, 0, none⟩))] _) _
  refine wp_seq ?_
  refine wp_region_lit ?_
  refine s_box rfl ?_
  intro g0 u0 hu0 hB0 hg0 hs0
  refine s_look (look_assign rfl rfl) ?_
  refine s_nil ?_
  refine then_normal ?_
  refine wp_seq ?_
  refine region_q ?_
  refine q_look (look_fieldAddr Tryd.underlying28 rfl (fun _ _ => rfl) rfl rfl) ?_
  refine q_look (look_load1 Tryd.underlying3 rfl rfl rfl (ext_cell (hB0.cell rfl))) ?_
  refine q_look (look_load1 Tryd.underlying3 rfl rfl rfl (ext_cell (hu0.cell ha))) ?_
  refine q_look (look_eql rfl rfl rfl rfl) ?_
  refine q_look (look_move rfl rfl) ?_
  refine q_lookg rfl rfl rfl (fun hq => look_load1 Tryd.underlying3 rfl rfl rfl (ext_cell (hu0.cell hb))) ?_
  refine q_lookg rfl rfl rfl (fun hq => look_fieldAddr Tryd.underlying28 rfl (fun _ _ => rfl) rfl rfl) ?_
  refine q_lookg rfl rfl rfl (fun hq => look_load1 Tryd.underlying3 rfl rfl hq (ext_cell (hB0.cell rfl))) ?_
  refine q_lookg rfl rfl rfl (fun hq => look_fieldAddr Tryd.underlying28 rfl (fun _ _ => rfl) rfl rfl) ?_
  refine q_lookg rfl rfl rfl (fun hq => look_load1 Tryd.underlying3 rfl rfl hq (ext_cell (hB0.cell rfl))) ?_
  refine q_callg (vs := [_, _, _]) rfl rfl rfl enTryd_29 (fun hq => ⟨⟨_, rfl, hq⟩, ⟨_, rfl, hq⟩, ⟨_, rfl, hq⟩, trivial⟩) (fun hq wc hw => cext hw (within_any _ _ _ wc)) ?_
  refine q_look (look_and rfl rfl rfl rfl) ?_
  refine q_look (look_assign rfl rfl) ?_
  refine q_nil ?_
  intro w1 hw1
  refine then_normal ?_
  refine wp_ret ?_
  exact res1 Tryd.results28 rfl ⟨rfl, hu0.comp hw1⟩

theorem ixf_any (l : List B) (A : Option Addr) (cap : Nat) (kind thick : Int) (ga gb : Nat) (w : World) (hS : SlB w A l) (hlen : l.length ≤ 1000) (ha : w.cell? ⟨ga, 0, none⟩ = some (.int .i64 kind)) (hb : w.cell? ⟨gb, 0, none⟩ = some (.int .i64 thick)) :
    Calls Tryd.prog 27 #[.slice A l.length cap, .func (.func 28) #[] #[.pointer (some ⟨ga, 0, none⟩), .pointer (some ⟨gb, 0, none⟩)]] w fun e w' => e = .returned (.int .i64 (fi (hits kind thick) l 0)) ∧ Ext w w' := by
  refine calls_act Tryd.func27 rfl Tryd.ntmps27 rfl rfl ?_
  show Code.wp _ _ _ (act 19 [(0, true, .slice A l.length cap), (1, true, .func (.func 28) #[] #[.pointer (some ⟨ga, 0, none⟩), .pointer (some ⟨gb, 0, none⟩)])] _) _
  refine wp_seq ?_
  refine region_s ?_
  refine q_look (look_assign rfl rfl) ?_
  refine q_nil ?_
  rintro _ rfl
  refine then_normal ?_
  refine wp_seq ?_
  refine wp_seq ?_
  refine region_s ?_
  refine q_look (look_move rfl rfl) ?_
  refine q_look (look_len_slice Tryd.underlying22 rfl rfl) ?_
  refine q_look (look_move rfl rfl) ?_
  refine q_nil ?_
  rintro _ rfl
  refine then_normal ?_
  refine wp_block ?_
  refine loop_act (fun (k : Nat) => [(0, .slice A l.length cap), (1, .func (.func 28) #[] #[.pointer (some ⟨ga, 0, none⟩), .pointer (some ⟨gb, 0, none⟩)]), (7, .int .i64 (l.length : Int)), (8, .int .i64 (k : Int))]) (fun (k : Nat) w' => Ext w w' ∧ k ≤ l.length ∧ fi (hits kind thick) l 0 = fi (hits kind thick) (l.drop k) (k : Int)) (fun (k : Nat) => l.length - k) (0) ?_ ?_ ?_
  · exact ⟨rfl, rfl, rfl, rfl, trivial⟩
  · exact ⟨Ext.rfl' _, Nat.zero_le _, rfl⟩
  · rintro k σ wr ⟨hx, hk, hf⟩
    show Code.wp _ _ _ (act 19 [(0, true, .slice A l.length cap), (1, true, .func (.func 28) #[] #[.pointer (some ⟨ga, 0, none⟩), .pointer (some ⟨gb, 0, none⟩)]), (7, true, .int .i64 (l.length : Int)), (8, true, .int .i64 (k : Int))] _) _
    refine wp_seq ?_
    refine region_s ?_
    refine q_look (look_lss rfl rfl rfl rfl) ?_
    refine q_nil ?_
    rintro _ rfl
    refine then_normal ?_
    refine wp_seq ?_
    refine cond_split rfl (fun hc9 => ?_) (fun hc9 => ?_)
    · have hlt : k < l.length := by simp at hc9; omega
      obtain ⟨x, hxk⟩ := get_lt hlt
      obtain ⟨b, o, rfl, hcc⟩ := (hS.ext hx).at_ hlt
      refine wp_skip ?_
      refine then_normal ?_
      refine wp_seq ?_
      refine wp_block ?_
      refine wp_seq ?_
      refine region_s ?_
      refine q_look (look_move rfl rfl) ?_
      refine q_look (look_assign rfl rfl) ?_
      refine q_nil ?_
      rintro _ rfl
      refine then_normal ?_
      refine wp_seq ?_
      refine region_q ?_
      refine q_look (look_move rfl rfl) ?_
      refine q_look (look_move rfl rfl) ?_
      refine q_look (look_move rfl rfl) ?_
      refine q_look (look_indexAddr _ Tryd.underlying22 szTryd_28 rfl rfl rfl rfl rfl (by omega)) ?_
      refine q_look (look_loadN Tryd.underlying28 rfl szTryd_28 rfl rfl rfl (cs := bcells x) (fun w' e j v hv => e.cell (hcc k x hxk j v hv))) ?_
      refine q_callv (vs := [_]) (cap := [_, _]) enTryd_28 rfl ⟨⟨_, rfl, rfl⟩, trivial⟩ (fun wc hw => cext hw (find1_any x kind thick ga gb wc (hw.cell (hx.cell ha)) (hw.cell (hx.cell hb)))) ?_
      refine q_nil ?_
      intro w1 hw1
      refine then_normal ?_
      refine cond_split rfl (fun hc16 => ?_) (fun hc16 => ?_)
      · have hp : hits kind thick x = true := hc16
        refine wp_seq ?_
        refine region_s ?_
        refine q_look (look_move rfl rfl) ?_
        refine q_look (look_assign rfl rfl) ?_
        refine q_nil ?_
        rintro _ rfl
        refine then_normal ?_
        refine wp_ret ?_
        refine inB_ret ?_
        refine then_ret ?_
        refine then_ret ?_
        refine inB_ret ?_
        refine then_ret ?_
        exact res1 Tryd.results27 rfl ⟨ret_int (by rw [hf, drop_get hxk, fi, if_pos hp]), hx.comp hw1⟩
      · have hp : hits kind thick x = false := hc16
        refine wp_skip ?_
        refine inB_normal ?_
        refine then_normal ?_
        refine region_s ?_
        refine q_look (look_add rfl rfl rfl rfl (by unfold I64; omega)) ?_
        refine q_look (look_move rfl rfl) ?_
        refine q_nil ?_
        rintro _ rfl
        exact loop_end (k + 1) (by omega) ⟨rfl, rfl, rfl, rfl, trivial⟩ ⟨hx.comp (by first | exact hw1 | exact hw2), by omega, by rw [hf, drop_get hxk, fi, if_neg (by simp [hp])]; rfl⟩
    · have hge : ¬ k < l.length := by simp at hc9; omega
      refine wp_exit ?_
      refine then_exit ?_
      refine then_exit ?_
      refine inB_exit_same ?_
      refine then_normal ?_
      refine wp_seq ?_
      refine region_s ?_
      refine q_look (look_assign rfl rfl) ?_
      refine q_nil ?_
      rintro _ rfl
      refine then_normal ?_
      refine wp_ret ?_
      exact res1 Tryd.results27 rfl ⟨ret_int (by rw [hf, List.drop_eq_nil_of_le (by omega)]; rfl), hx⟩

theorem find_any (l : List B) (A : Option Addr) (cap : Nat) (kind thick : Int) (w : World) (hS : SlB w A l) (hlen : l.length ≤ 1000) :
    Calls Tryd.prog 14 #[.slice A l.length cap, .int .i64 kind, .int .i64 thick] w fun e w' => e = .returned (.tuple #[.agg (bcells (findP (hits kind thick) l).1).toArray, .bool (findP (hits kind thick) l).2]) ∧ Ext w w' := by
  refine calls_act Tryd.func14 rfl Tryd.ntmps14 rfl rfl ?_
  show Code.wp _ _ _ (act 19 [(0, true, .slice A l.length cap), (1, true, .int .i64 kind), (2, true, .int .i64 thick)] _) _
  refine wp_seq ?_
  refine wp_region_lit ?_
  refine s_box rfl ?_
  intro g0 u0 hu0 hB0 hg0 hs0
  refine s_box rfl ?_
  intro g1 u1 hu1 hB1 hg1 hs1
  refine s_alloc zeTryd_28 ?_
  intro a0 v0 hv0 hA0 ha0 hz0
  refine s_look (look_assign rfl rfl) ?_
  refine s_nil ?_
  have e1 : Ext w u1 := hu0.comp hu1
  have e0 : Ext w v0 := e1.comp hv0
  have hca : v0.cell? ⟨g0, 0, none⟩ = some (.int .i64 kind) := hv0.cell (hu1.cell (hB0.cell rfl))
  have hcb : v0.cell? ⟨g1, 0, none⟩ = some (.int .i64 thick) := hv0.cell (hB1.cell rfl)
  refine then_normal ?_
  refine wp_seq ?_
  refine region_q ?_
  refine q_look (look_move rfl rfl) ?_
  refine q_look (look_makeFunc (vs := [_, _]) ⟨⟨_, rfl, rfl⟩, ⟨_, rfl, rfl⟩, trivial⟩) ?_
  refine q_call (vs := [_, _]) enTryd_27 ⟨⟨_, rfl, rfl⟩, ⟨_, rfl, rfl⟩, trivial⟩ (fun wc hw => cext hw (ixf_any l A cap kind thick g0 g1 wc ((hS.ext e0).ext hw) hlen (hw.cell hca) (hw.cell hcb))) ?_
  refine q_look (look_assign rfl rfl) ?_
  refine q_nil ?_
  intro w1 hw1
  refine then_normal ?_
  refine wp_seq ?_
  refine wp_seq ?_
  refine region_s ?_
  refine q_look (look_move rfl rfl) ?_
  refine q_look (look_lss rfl rfl rfl rfl) ?_
  refine q_nil ?_
  rintro _ rfl
  refine then_normal ?_
  refine cond_split rfl (fun hc13 => ?_) (fun hc13 => ?_)
  · have hneg : fi (hits kind thick) l 0 < 0 := by simpa using hc13
    refine wp_seq ?_
    refine wp_region_lit ?_
    refine s_look (look_build (pl := [(0, 1), (1, 1), (2, 1), (3, 1), (4, 1), (5, 1)]) (parts := []) (vs := []) (cells := bcells zB) Tryd.underlying28 zeTryd_28 (by kernel_rfl) trivial rfl rfl) ?_
    refine s_store szTryd_28 rfl (by simp [bcells, zB, Value.cells, Value.oneCell']) rfl rfl (hA0.ext hw1) rfl ?_
    intro k0 hk0 hT0
    replace hT0 : Blk k0 _ 28 (bcells zB) := hT0
    refine s_look (look_assign rfl rfl) ?_
    refine s_nil ?_
    refine then_normal ?_
    refine wp_ret ?_
    refine then_ret ?_
    have hnone := ((fi_spec (hits kind thick) l 0 (by omega)).resolve_right (fun ⟨i, x, h, _⟩ => by omega)).2
    have ef : Ext w k0 := (e1.comp (Kp.below (hv0.comp hw1) hk0 (Nat.le_of_eq ha0)))
    exact resCT Tryd.results14 Tryd.underlying28 rfl szTryd_28 rfl rfl (fun j v hv => by rw [Nat.zero_add]; exact hT0.cell hv) rfl ⟨by simp [findP, hnone], ef⟩
  · have hneg : ¬ fi (hits kind thick) l 0 < 0 := by simpa using hc13
    obtain ⟨i, x, hi, hx, hfx⟩ := (fi_spec (hits kind thick) l 0 (by omega)).resolve_left (fun h => by omega)
    have hil : i < l.length := (List.getElem?_eq_some_iff.1 hx).1
    obtain ⟨b, o, rfl, hcc⟩ := ((hS.ext e0).ext hw1).at_ hil
    have hT := hA0.ext hw1
    refine wp_skip ?_
    refine then_normal ?_
    refine wp_seq ?_
    refine wp_region_lit ?_
    refine s_look (look_move rfl rfl) ?_
    refine s_look (look_move rfl rfl) ?_
    refine s_look (look_indexAddr i Tryd.underlying22 szTryd_28 rfl rfl rfl rfl (by omega) (by omega)) ?_
    refine s_look (look_loadN Tryd.underlying28 rfl szTryd_28 rfl rfl rfl (cs := bcells x) (fun w' e j v hv => e ▸ hcc i x hx j v hv)) ?_
    refine s_store szTryd_28 rfl (by simp [bcells, zB, Value.cells, Value.oneCell']) rfl rfl hT rfl ?_
    intro k1 hk1 hT1
    replace hT1 : Blk k1 _ 28 (bcells x) := hT1
    refine s_look (look_assign rfl rfl) ?_
    refine s_nil ?_
    refine then_normal ?_
    refine wp_ret ?_
    have ef : Ext w k1 := (e1.comp (Kp.below (hv0.comp hw1) hk1 (Nat.le_of_eq ha0)))
    exact resCT Tryd.results14 Tryd.underlying28 rfl szTryd_28 rfl rfl (fun j v hv => by rw [Nat.zero_add]; exact hT1.cell hv) rfl ⟨by simp [findP, hfx], ef⟩

theorem reffind_any (l : List B) (A : Option Addr) (cap : Nat) (kind thick : Int) (w : World) (hS : SlB w A l) (hlen : l.length ≤ 1000) :
    Calls Tryd.prog 15 #[.slice A l.length cap, .int .i64 kind, .int .i64 thick] w fun e w' => e = .returned (.tuple #[.agg (bcells (findP (hits kind thick) l).1).toArray, .bool (findP (hits kind thick) l).2]) ∧ Ext w w' := by
  refine calls_act Tryd.func15 rfl Tryd.ntmps15 rfl rfl ?_
  show Code.wp _ _ _ (act 45 [(0, true, .slice A l.length cap), (1, true, .int .i64 kind), (2, true, .int .i64 thick)] _) _
  refine wp_seq ?_
  refine wp_region_lit ?_
  refine s_alloc zeTryd_28 ?_
  intro a0 v0 hv0 hA0 ha0 hz0
  refine s_look (look_assign rfl rfl) ?_
  refine s_nil ?_
  refine then_normal ?_
  refine wp_seq ?_
  refine wp_seq ?_
  refine region_s ?_
  refine q_look (look_assign rfl rfl) ?_
  refine q_nil ?_
  rintro _ rfl
  refine then_normal ?_
  refine wp_block ?_
  refine loop_act (fun (k : Nat) => [(0, .slice A l.length cap), (1, .int .i64 kind), (2, .int .i64 thick), (6, .pointer (some ⟨a0, 0, none⟩)), (8, .int .i64 (k : Int))]) (fun (k : Nat) w' => Below w.heap.size w w' ∧ w.heap.size = a0 ∧ Blk w' a0 28 (bcells zB) ∧ SlB w' A l ∧ k ≤ l.length ∧ l.find? (hits kind thick) = (l.drop k).find? (hits kind thick)) (fun (k : Nat) => l.length - k) (0) ?_ ?_ ?_
  · exact ⟨rfl, rfl, rfl, rfl, rfl, trivial⟩
  · exact ⟨hv0, ha0, hA0, hS.ext hv0, Nat.zero_le _, rfl⟩
  · rintro k σ wr ⟨hx, hga, hA, hSr, hk, hf⟩
    show Code.wp _ _ _ (act 45 [(0, true, .slice A l.length cap), (1, true, .int .i64 kind), (2, true, .int .i64 thick), (6, true, .pointer (some ⟨a0, 0, none⟩)), (8, true, .int .i64 (k : Int))] _) _
    refine wp_seq ?_
    refine wp_seq ?_
    refine region_s ?_
    refine q_look (look_move rfl rfl) ?_
    refine q_look (look_move rfl rfl) ?_
    refine q_look (look_len_slice Tryd.underlying22 rfl rfl) ?_
    refine q_look (look_lss rfl rfl rfl rfl) ?_
    refine q_nil ?_
    rintro _ rfl
    refine then_normal ?_
    refine cond_split rfl (fun hc12 => ?_) (fun hc12 => ?_)
    · have hlt : k < l.length := by simp at hc12; omega
      obtain ⟨x, hxk⟩ := get_lt hlt
      obtain ⟨b, o, rfl, hcc⟩ := hSr.at_ hlt
      refine wp_skip ?_
      refine then_normal ?_
      refine wp_seq ?_
      refine wp_block ?_
      refine wp_seq ?_
      refine region_s ?_
      refine q_look (look_move rfl rfl) ?_
      refine q_look (look_move rfl rfl) ?_
      refine q_look (look_indexAddr _ Tryd.underlying22 szTryd_28 rfl rfl rfl rfl rfl (by omega)) ?_
      refine q_look (look_fieldAddr Tryd.underlying28 rfl (fun _ _ => rfl) rfl rfl) ?_
      refine q_look (look_load1 Tryd.underlying3 rfl rfl rfl (eqc (hcc k x hxk _ _ rfl))) ?_
      refine q_look (look_move rfl rfl) ?_
      refine q_look (look_eql rfl rfl rfl rfl) ?_
      refine q_look (look_move rfl rfl) ?_
      refine q_lookg rfl rfl rfl (fun hq => look_move rfl rfl) ?_
      refine q_lookg rfl rfl rfl (fun hq => look_move rfl rfl) ?_
      refine q_lookg rfl rfl rfl (fun hq => look_indexAddr _ Tryd.underlying22 szTryd_28 rfl hq rfl hq rfl (by omega)) ?_
      refine q_lookg rfl rfl rfl (fun hq => look_fieldAddr Tryd.underlying28 rfl (fun _ _ => rfl) rfl hq) ?_
      refine q_lookg rfl rfl rfl (fun hq => look_load1 Tryd.underlying3 rfl rfl hq (eqc (hcc k x hxk _ _ rfl))) ?_
      refine q_lookg rfl rfl rfl (fun hq => look_move rfl rfl) ?_
      refine q_lookg rfl rfl rfl (fun hq => look_leq rfl hq rfl hq) ?_
      refine q_look (look_and rfl rfl rfl rfl) ?_
      refine q_look (look_move rfl rfl) ?_
      refine q_lookg rfl rfl rfl (fun hq => look_move rfl rfl) ?_
      refine q_lookg rfl rfl rfl (fun hq => look_move rfl rfl) ?_
      refine q_lookg rfl rfl rfl (fun hq => look_move rfl rfl) ?_
      refine q_lookg rfl rfl rfl (fun hq => look_indexAddr _ Tryd.underlying22 szTryd_28 rfl hq rfl hq rfl (by omega)) ?_
      refine q_lookg rfl rfl rfl (fun hq => look_fieldAddr Tryd.underlying28 rfl (fun _ _ => rfl) rfl hq) ?_
      refine q_lookg rfl rfl rfl (fun hq => look_load1 Tryd.underlying3 rfl rfl hq (eqc (hcc k x hxk _ _ rfl))) ?_
      refine q_lookg rfl rfl rfl (fun hq => look_leq rfl hq rfl hq) ?_
      refine q_look (look_and rfl rfl rfl rfl) ?_
      refine q_nil ?_
      rintro _ rfl
      refine then_normal ?_
      refine cond_split rfl (fun hc39 => ?_) (fun hc39 => ?_)
      · have hp : hits kind thick x = true := by unfold hits withinB; rw [← Bool.and_assoc]; exact hc39
        refine wp_seq ?_
        refine wp_region_lit ?_
        refine s_look (look_move rfl rfl) ?_
        refine s_look (look_move rfl rfl) ?_
        refine s_look (look_indexAddr _ Tryd.underlying22 szTryd_28 rfl rfl rfl rfl rfl (by omega)) ?_
        refine s_look (look_loadN Tryd.underlying28 rfl szTryd_28 rfl rfl rfl (cs := bcells x) (fun w' e j v hv => e ▸ hcc k x hxk j v hv)) ?_
        refine s_store szTryd_28 rfl (by simp [bcells, zB, Value.cells, Value.oneCell']) rfl rfl hA rfl ?_
        intro k0 hk0 hT0
        replace hT0 : Blk k0 _ 28 (bcells x) := hT0
        refine s_look (look_assign rfl rfl) ?_
        refine s_nil ?_
        refine then_normal ?_
        refine wp_ret ?_
        refine inB_ret ?_
        refine then_ret ?_
        refine then_ret ?_
        refine inB_ret ?_
        refine then_ret ?_
        have ef : Ext w k0 := Kp.below hx hk0 (Nat.le_of_eq hga)
        exact resCT Tryd.results15 Tryd.underlying28 rfl szTryd_28 rfl rfl (fun j v hv => by rw [Nat.zero_add]; exact hT0.cell hv) rfl ⟨by simp [findP, hf, drop_get hxk, List.find?_cons_of_pos hp], ef⟩
      · have hp : hits kind thick x = false := by unfold hits withinB; rw [← Bool.and_assoc]; exact hc39
        refine wp_skip ?_
        refine inB_normal ?_
        refine then_normal ?_
        refine region_s ?_
        refine q_look (look_move rfl rfl) ?_
        refine q_look (look_add rfl rfl rfl rfl (by unfold I64; omega)) ?_
        refine q_look (look_assign rfl rfl) ?_
        refine q_nil ?_
        rintro _ rfl
        exact loop_end (k + 1) (by omega) ⟨rfl, rfl, rfl, rfl, rfl, trivial⟩ ⟨hx, hga, hA, hSr, by omega, by rw [hf, drop_get hxk, List.find?_cons_of_neg (by simp [hp])]⟩
    · have hge : ¬ k < l.length := by simp at hc12; omega
      refine wp_exit ?_
      refine then_exit ?_
      refine then_exit ?_
      refine inB_exit_same ?_
      refine then_normal ?_
      refine wp_seq ?_
      refine wp_region_lit ?_
      refine s_look (look_build (pl := [(0, 1), (1, 1), (2, 1), (3, 1), (4, 1), (5, 1)]) (parts := []) (vs := []) (cells := bcells zB) Tryd.underlying28 zeTryd_28 (by kernel_rfl) trivial rfl rfl) ?_
      refine s_store szTryd_28 rfl (by simp [bcells, zB, Value.cells, Value.oneCell']) rfl rfl hA rfl ?_
      intro k1 hk1 hT1
      replace hT1 : Blk k1 _ 28 (bcells zB) := hT1
      refine s_look (look_assign rfl rfl) ?_
      refine s_nil ?_
      refine then_normal ?_
      refine wp_ret ?_
      have ef : Ext w k1 := Kp.below hx hk1 (Nat.le_of_eq hga)
      exact resCT Tryd.results15 Tryd.underlying28 rfl szTryd_28 rfl rfl (fun j v hv => by rw [Nat.zero_add]; exact hT1.cell hv) rfl ⟨by simp [findP, hf, List.drop_eq_nil_of_le (show l.length ≤ k by omega)], ef⟩

theorem chk_step {l : List B} {k : Nat} {x : B} (hx : l[k]? = some x) (h : chk none l = chk (prevOf l k) (l.drop k)) (h1 : knownB x.kind = true) (h2 : rightB x = true) (h3 : badP (prevOf l k) x = false) : chk none l = chk (prevOf l (k + 1)) (l.drop (k + 1)) := by
  rw [h, drop_get hx, chk, if_neg (by simp [h1]), if_neg (by simp [h2]), if_neg (by simp [h3])]
  simp [prevOf, hx]
theorem bad_of {l : List B} {k : Nat} {q x : B} (hq : 0 < k → l[k - 1]? = some q) : (decide ((0 : Int) < (k : Int)) && (decide (x.kind < q.kind) || (decide (x.kind = q.kind) && decide (x.fr ≤ q.un)))) = badP (prevOf l k) x := by
  by_cases hk : k = 0
  · subst hk; rfl
  · have : (0 : Int) < (k : Int) := by omega
    rw [decide_eq_true this, prevOf, if_neg hk, hq (by omega)]; rfl
theorem prev_ex (l : List B) (k : Nat) (hk : k < l.length) : ∃ q, 0 < k → l[k - 1]? = some q := by
  obtain ⟨q, hq⟩ := get_lt (l := l) (k := k - 1) (by omega)
  exact ⟨q, fun _ => hq⟩

theorem check_any (l : List B) (A : Option Addr) (cap : Nat) (w : World) (hG : G w) (hS : SlB w A l) (hlen : l.length ≤ 1000) :
    Calls Tryd.prog 12 #[.slice A l.length cap] w fun e w' => e = .returned (.int .i64 (checkP l)) ∧ Ext w w' := by
  refine calls_act Tryd.func12 rfl Tryd.ntmps12 rfl rfl ?_
  show Code.wp _ _ _ (act 61 [(0, true, .slice A l.length cap)] _) _
  refine wp_seq ?_
  refine region_s ?_
  refine q_look (look_assign rfl rfl) ?_
  refine q_nil ?_
  rintro _ rfl
  refine then_normal ?_
  refine wp_seq ?_
  refine wp_seq ?_
  refine region_s ?_
  refine q_look (look_move rfl rfl) ?_
  refine q_look (look_len_slice Tryd.underlying22 rfl rfl) ?_
  refine q_look (look_gtr rfl rfl rfl rfl) ?_
  refine q_nil ?_
  rintro _ rfl
  refine then_normal ?_
  refine cond_split rfl (fun hc7 => ?_) (fun hc7 => ?_)
  · have hlong : 32 < l.length := by simp at hc7; omega
    refine wp_seq ?_
    refine region_s ?_
    refine q_look (look_assign rfl rfl) ?_
    refine q_nil ?_
    rintro _ rfl
    refine then_normal ?_
    refine wp_ret ?_
    refine then_ret ?_
    exact res1 Tryd.results12 rfl ⟨ret_int (by unfold checkP; rw [if_pos hlong]), Ext.rfl' _⟩
  · have hlong : ¬ 32 < l.length := by simp at hc7; omega
    refine wp_skip ?_
    refine then_normal ?_
    refine wp_seq ?_
    refine wp_seq ?_
    refine region_s ?_
    refine q_look (look_move rfl rfl) ?_
    refine q_look (look_len_slice Tryd.underlying22 rfl rfl) ?_
    refine q_look (look_move rfl rfl) ?_
    refine q_nil ?_
    rintro _ rfl
    refine then_normal ?_
    refine wp_block ?_
    refine loop_act (fun (k : Nat) => [(0, .slice A l.length cap), (8, .slice A l.length cap), (9, .int .i64 (l.length : Int)), (10, .int .i64 (k : Int))]) (fun (k : Nat) w' => Ext w w' ∧ k ≤ l.length ∧ chk none l = chk (prevOf l k) (l.drop k)) (fun (k : Nat) => l.length - k) (0) ?_ ?_ ?_
    · exact ⟨rfl, rfl, rfl, rfl, trivial⟩
    · exact ⟨Ext.rfl' _, Nat.zero_le _, rfl⟩
    · rintro k σ wr ⟨hx, hk, hf⟩
      show Code.wp _ _ _ (act 61 [(0, true, .slice A l.length cap), (8, true, .slice A l.length cap), (9, true, .int .i64 (l.length : Int)), (10, true, .int .i64 (k : Int))] _) _
      refine wp_seq ?_
      refine region_s ?_
      refine q_look (look_lss rfl rfl rfl rfl) ?_
      refine q_nil ?_
      rintro _ rfl
      refine then_normal ?_
      refine wp_seq ?_
      refine cond_split rfl (fun hc11 => ?_) (fun hc11 => ?_)
      · have hlt : k < l.length := by simp at hc11; omega
        obtain ⟨x, hxk⟩ := get_lt hlt
        obtain ⟨q, hqk⟩ := prev_ex l k hlt
        obtain ⟨b, o, rfl, hcc0⟩ := (hS.ext hx).at_ hlt
        refine wp_skip ?_
        refine then_normal ?_
        refine wp_seq ?_
        refine wp_block ?_
        refine wp_seq ?_
        refine wp_region_lit ?_
        refine s_look (look_move rfl rfl) ?_
        refine s_look (look_indexAddr _ Tryd.underlying22 szTryd_28 rfl rfl rfl rfl rfl (by omega)) ?_
        refine s_look (look_loadN Tryd.underlying28 rfl szTryd_28 rfl rfl rfl (cs := bcells x) (fun w' e j v hv => e ▸ hcc0 k x hxk j v hv)) ?_
        refine s_alloc zeTryd_28 ?_
        intro a0 v0 hv0 hA0 ha0 hz0
        refine s_look (look_assign rfl rfl) ?_
        refine s_store szTryd_28 rfl (by simp [bcells, zB, Value.cells, Value.oneCell']) rfl rfl hA0 rfl ?_
        intro k0 hk0 hT0
        replace hT0 : Blk k0 _ 28 (bcells x) := hT0
        refine s_nil ?_
        have e2 : Ext wr k0 := Kp.below hv0 hk0 (Nat.le_of_eq ha0)
        have hG2 := (hG.ext hx).ext e2
        refine then_normal ?_
        refine wp_block ?_
        refine wp_seq ?_
        refine region_q ?_
        refine q_look (look_fieldAddr Tryd.underlying28 rfl (fun _ _ => rfl) rfl rfl) ?_
        refine q_look (look_load1 Tryd.underlying3 rfl rfl rfl (ext_cell (hT0.cell rfl))) ?_
        refine q_call (vs := [_]) enTryd_24 ⟨⟨_, rfl, rfl⟩, trivial⟩ (fun wc hw => cext hw (known_any _ wc (hG2.ext hw))) ?_
        refine q_look (look_not rfl rfl) ?_
        refine q_look (look_assign rfl rfl) ?_
        refine q_nil ?_
        intro w1 hw1
        refine then_normal ?_
        refine cond_split rfl (fun hc15 => ?_) (fun hc15 => ?_)
        · have h1 : knownB x.kind = false := by simpa using hc15
          refine wp_seq ?_
          refine region_s ?_
          refine q_look (look_assign rfl rfl) ?_
          refine q_nil ?_
          rintro _ rfl
          refine then_normal ?_
          refine wp_ret ?_
          refine inB_ret ?_
          refine inB_ret ?_
          refine then_ret ?_
          refine then_ret ?_
          refine inB_ret ?_
          refine then_ret ?_
          exact res1 Tryd.results12 rfl ⟨ret_int (by unfold checkP; rw [if_neg hlong, hf, drop_get hxk, chk, if_pos h1]), (hx.comp e2).comp hw1⟩
        · have h1 : knownB x.kind = true := by simpa using hc15
          refine wp_seq ?_
          refine region_q ?_
          refine q_look (look_loadN Tryd.underlying28 rfl szTryd_28 rfl rfl rfl (ext_cell_n (hT0.ext hw1))) ?_
          refine q_call (vs := [_]) enTryd_25 ⟨⟨_, rfl, rfl⟩, trivial⟩ (fun wc hw => cext hw (right_any x wc ((hG2.ext hw1).ext hw))) ?_
          refine q_look (look_not rfl rfl) ?_
          refine q_look (look_assign rfl rfl) ?_
          refine q_nil ?_
          intro w2 hw2
          refine then_normal ?_
          refine cond_split rfl (fun hc20 => ?_) (fun hc20 => ?_)
          · have h2 : rightB x = false := by simpa using hc20
            refine wp_seq ?_
            refine region_s ?_
            refine q_look (look_assign rfl rfl) ?_
            refine q_nil ?_
            rintro _ rfl
            refine then_normal ?_
            refine wp_ret ?_
            refine inB_ret ?_
            refine inB_ret ?_
            refine then_ret ?_
            refine then_ret ?_
            refine inB_ret ?_
            refine then_ret ?_
            exact res1 Tryd.results12 rfl ⟨ret_int (by unfold checkP; rw [if_neg hlong, hf, drop_get hxk, chk, if_neg (by simp [h1]), if_pos h2]), ((hx.comp e2).comp hw1).comp hw2⟩
          · have h2 : rightB x = true := by simpa using hc20
            have hcc := fun i y hy j v hv => (e2.comp (hw1.comp hw2)).cell (hcc0 i y hy j v hv)
            replace hT0 := (hT0.ext hw1).ext hw2
            refine wp_seq ?_
            refine region_qd mixed (by kernel_rfl) ?_
            refine q_look (look_move rfl rfl) ?_
            refine q_look (look_gtr rfl rfl rfl rfl) ?_
            refine q_look (look_move rfl rfl) ?_
            refine q_lookg rfl rfl rfl (fun hq => look_fieldAddr Tryd.underlying28 rfl (fun _ _ => rfl) rfl rfl) ?_
            refine q_lookg rfl rfl rfl (fun hq => look_load1 Tryd.underlying3 rfl rfl hq (ext_cell (hT0.cell rfl))) ?_
            refine q_lookg rfl rfl rfl (fun hq => look_move rfl rfl) ?_
            refine q_lookg rfl rfl rfl (fun hq => look_move rfl rfl) ?_
            refine q_lookg rfl rfl rfl (fun hq => look_sub rfl hq rfl rfl (by unfold I64; omega)) ?_
            refine q_lookg rfl rfl rfl (fun hq => look_indexAddr (k - 1) Tryd.underlying22 szTryd_28 rfl hq rfl hq (by have h0 := of_decide_eq_true (gqR hq); omega) (by omega)) ?_
            refine q_lookg rfl rfl rfl (fun hq => look_fieldAddr Tryd.underlying28 rfl (fun _ _ => rfl) rfl hq) ?_
            refine q_lookg rfl rfl rfl (fun hq => look_load1 Tryd.underlying3 rfl rfl hq (ext_cell (hcc (k - 1) q (hqk (by have h0 := of_decide_eq_true (gqR hq); omega)) _ _ rfl))) ?_
            refine q_lookg rfl rfl rfl (fun hq => look_lss rfl hq rfl hq) ?_
            refine q_lookg rfl rfl rfl (fun hq => look_move rfl hq) ?_
            refine q_lookg rfl rfl rfl (fun hq => look_fieldAddr Tryd.underlying28 rfl (fun _ _ => rfl) rfl rfl) ?_
            refine q_lookg rfl rfl rfl (fun hq => look_load1 Tryd.underlying3 rfl rfl hq (ext_cell (hT0.cell rfl))) ?_
            refine q_lookg rfl rfl rfl (fun hq => look_move rfl rfl) ?_
            refine q_lookg rfl rfl rfl (fun hq => look_move rfl rfl) ?_
            refine q_lookg rfl rfl rfl (fun hq => look_sub rfl hq rfl rfl (by unfold I64; omega)) ?_
            refine q_lookg rfl rfl rfl (fun hq => look_indexAddr (k - 1) Tryd.underlying22 szTryd_28 rfl hq rfl hq (by have h0 := of_decide_eq_true (gqR (gqL hq)); omega) (by omega)) ?_
            refine q_lookg rfl rfl rfl (fun hq => look_fieldAddr Tryd.underlying28 rfl (fun _ _ => rfl) rfl hq) ?_
            refine q_lookg rfl rfl rfl (fun hq => look_load1 Tryd.underlying3 rfl rfl hq (ext_cell (hcc (k - 1) q (hqk (by have h0 := of_decide_eq_true (gqR (gqL hq)); omega)) _ _ rfl))) ?_
            refine q_lookg rfl rfl rfl (fun hq => look_eql rfl hq rfl hq) ?_
            refine q_lookg rfl rfl rfl (fun hq => look_move rfl hq) ?_
            refine q_lookg rfl rfl rfl (fun hq => look_fieldAddr Tryd.underlying28 rfl (fun _ _ => rfl) rfl rfl) ?_
            refine q_lookg rfl rfl rfl (fun hq => look_load1 Tryd.underlying3 rfl rfl hq (ext_cell (hT0.cell rfl))) ?_
            refine q_lookg rfl rfl rfl (fun hq => look_move rfl rfl) ?_
            refine q_lookg rfl rfl rfl (fun hq => look_move rfl rfl) ?_
            refine q_lookg rfl rfl rfl (fun hq => look_sub rfl hq rfl rfl (by unfold I64; omega)) ?_
            refine q_lookg rfl rfl rfl (fun hq => look_indexAddr (k - 1) Tryd.underlying22 szTryd_28 rfl hq rfl hq (by have h0 := of_decide_eq_true (gqR (gqL (gqL hq))); omega) (by omega)) ?_
            refine q_lookg rfl rfl rfl (fun hq => look_fieldAddr Tryd.underlying28 rfl (fun _ _ => rfl) rfl hq) ?_
            refine q_lookg rfl rfl rfl (fun hq => look_load1 Tryd.underlying3 rfl rfl hq (ext_cell (hcc (k - 1) q (hqk (by have h0 := of_decide_eq_true (gqR (gqL (gqL hq))); omega)) _ _ rfl))) ?_
            refine q_lookg rfl rfl rfl (fun hq => look_leq rfl hq rfl hq) ?_
            refine q_lookg rfl rfl rfl (fun hq => look_and rfl hq rfl hq) ?_
            refine q_lookg rfl rfl rfl (fun hq => look_or rfl hq rfl hq) ?_
            refine q_look (look_and rfl rfl rfl rfl) ?_
            refine q_look (look_assign rfl rfl) ?_
            refine q_nil ?_
            intro w3 hw3
            refine then_normal ?_
            refine cond_split rfl (fun hc24 => ?_) (fun hc24 => ?_)
            · have h3 : badP (prevOf l k) x = true := by rw [← bad_of hqk]; exact hc24
              refine wp_seq ?_
              refine region_s ?_
              refine q_look (look_assign rfl rfl) ?_
              refine q_nil ?_
              rintro _ rfl
              refine then_normal ?_
              refine wp_ret ?_
              refine inB_ret ?_
              refine inB_ret ?_
              refine then_ret ?_
              refine then_ret ?_
              refine inB_ret ?_
              refine then_ret ?_
              exact res1 Tryd.results12 rfl ⟨ret_int (by unfold checkP; rw [if_neg hlong, hf, drop_get hxk, chk, if_neg (by simp [h1]), if_neg (by simp [h2]), if_pos h3]), (((hx.comp e2).comp hw1).comp hw2).comp hw3⟩
            · have h3 : badP (prevOf l k) x = false := by rw [← bad_of hqk]; exact hc24
              refine wp_skip ?_
              refine inB_normal ?_
              refine inB_normal ?_
              refine then_normal ?_
              refine region_s ?_
              refine q_look (look_add rfl rfl rfl rfl (by unfold I64; omega)) ?_
              refine q_look (look_move rfl rfl) ?_
              refine q_nil ?_
              rintro _ rfl
              exact loop_end (k + 1) (by omega) ⟨rfl, rfl, rfl, rfl, trivial⟩ ⟨(((hx.comp e2).comp hw1).comp hw2).comp hw3, by omega, chk_step hxk hf h1 h2 h3⟩
      · have hge : ¬ k < l.length := by simp at hc11; omega
        refine wp_exit ?_
        refine then_exit ?_
        refine then_exit ?_
        refine inB_exit_same ?_
        refine then_normal ?_
        refine wp_seq ?_
        refine region_s ?_
        refine q_look (look_assign rfl rfl) ?_
        refine q_nil ?_
        rintro _ rfl
        refine then_normal ?_
        refine wp_ret ?_
        exact res1 Tryd.results12 rfl ⟨ret_int (by unfold checkP; rw [if_neg hlong, hf, List.drop_eq_nil_of_le (by omega)]; rfl), hx⟩

theorem refcheck_any (l : List B) (A : Option Addr) (cap : Nat) (w : World) (hS : SlB w A l) (hlen : l.length ≤ 1000) :
    Calls Tryd.prog 13 #[.slice A l.length cap] w fun e w' => e = .returned (.int .i64 (checkP l)) ∧ Ext w w' := by
  refine calls_act Tryd.func13 rfl Tryd.ntmps13 rfl rfl ?_
  show Code.wp _ _ _ (act 66 [(0, true, .slice A l.length cap)] _) _
  refine wp_seq ?_
  refine region_s ?_
  refine q_look (look_assign rfl rfl) ?_
  refine q_nil ?_
  rintro _ rfl
  refine then_normal ?_
  refine wp_seq ?_
  refine wp_seq ?_
  refine region_s ?_
  refine q_look (look_move rfl rfl) ?_
  refine q_look (look_len_slice Tryd.underlying22 rfl rfl) ?_
  refine q_look (look_gtr rfl rfl rfl rfl) ?_
  refine q_nil ?_
  rintro _ rfl
  refine then_normal ?_
  refine cond_split rfl (fun hc7 => ?_) (fun hc7 => ?_)
  · have hlong : 32 < l.length := by simp at hc7; omega
    refine wp_seq ?_
    refine region_s ?_
    refine q_look (look_assign rfl rfl) ?_
    refine q_nil ?_
    rintro _ rfl
    refine then_normal ?_
    refine wp_ret ?_
    refine then_ret ?_
    exact res1 Tryd.results13 rfl ⟨ret_int (by unfold checkP; rw [if_pos hlong]), Ext.rfl' _⟩
  · have hlong : ¬ 32 < l.length := by simp at hc7; omega
    refine wp_skip ?_
    refine then_normal ?_
    refine wp_seq ?_
    refine wp_seq ?_
    refine region_s ?_
    refine q_look (look_assign rfl rfl) ?_
    refine q_nil ?_
    rintro _ rfl
    refine then_normal ?_
    refine wp_block ?_
    refine loop_act (fun (k : Nat) => [(0, .slice A l.length cap), (3, .int .i64 (k : Int))]) (fun (k : Nat) w' => Ext w w' ∧ k ≤ l.length ∧ chk none l = chk (prevOf l k) (l.drop k)) (fun (k : Nat) => l.length - k) (0) ?_ ?_ ?_
    · exact ⟨rfl, rfl, trivial⟩
    · exact ⟨Ext.rfl' _, Nat.zero_le _, rfl⟩
    · rintro k σ wr ⟨hx, hk, hf⟩
      show Code.wp _ _ _ (act 66 [(0, true, .slice A l.length cap), (3, true, .int .i64 (k : Int))] _) _
      refine wp_seq ?_
      refine wp_seq ?_
      refine region_s ?_
      refine q_look (look_move rfl rfl) ?_
      refine q_look (look_move rfl rfl) ?_
      refine q_look (look_len_slice Tryd.underlying22 rfl rfl) ?_
      refine q_look (look_lss rfl rfl rfl rfl) ?_
      refine q_nil ?_
      rintro _ rfl
      refine then_normal ?_
      refine cond_split rfl (fun hc11 => ?_) (fun hc11 => ?_)
      · have hlt : k < l.length := by simp at hc11; omega
        obtain ⟨x, hxk⟩ := get_lt hlt
        obtain ⟨q, hqk⟩ := prev_ex l k hlt
        obtain ⟨b, o, rfl, hcc0⟩ := (hS.ext hx).at_ hlt
        refine wp_skip ?_
        refine then_normal ?_
        refine wp_seq ?_
        refine wp_block ?_
        refine wp_seq ?_
        refine wp_seq ?_
        refine region_q ?_
        refine q_look (look_move rfl rfl) ?_
        refine q_look (look_move rfl rfl) ?_
        refine q_look (look_indexAddr _ Tryd.underlying22 szTryd_28 rfl rfl rfl rfl rfl (by omega)) ?_
        refine q_look (look_loadN Tryd.underlying28 rfl szTryd_28 rfl rfl rfl (cs := bcells x) (fun w' e j v hv => e.cell (hcc0 k x hxk j v hv))) ?_
        refine q_call (vs := [_]) enTryd_26 ⟨⟨_, rfl, rfl⟩, trivial⟩ (fun wc hw => cext hw (refright_any x wc)) ?_
        refine q_look (look_assign rfl rfl) ?_
        refine q_nil ?_
        intro w1 hw1
        refine then_normal ?_
        refine wp_seq ?_
        refine region_s ?_
        refine q_look (look_move rfl rfl) ?_
        refine q_look (look_neq rfl rfl rfl rfl) ?_
        refine q_nil ?_
        rintro _ rfl
        refine then_normal ?_
        refine cond_split rfl (fun hc20 => ?_) (fun hc20 => ?_)
        · have he : ¬ rightE x = 0 := by simpa using hc20
          refine wp_seq ?_
          refine region_s ?_
          refine q_look (look_move rfl rfl) ?_
          refine q_look (look_assign rfl rfl) ?_
          refine q_nil ?_
          rintro _ rfl
          refine then_normal ?_
          refine wp_ret ?_
          refine then_ret ?_
          refine inB_ret ?_
          refine then_ret ?_
          refine then_ret ?_
          refine inB_ret ?_
          refine then_ret ?_
          exact res1 Tryd.results13 rfl ⟨ret_int (by unfold checkP; rw [if_neg hlong, hf, drop_get hxk, chk]; unfold rightE at he ⊢; split <;> simp_all), hx.comp hw1⟩
        · have he : rightE x = 0 := by simpa using hc20
          have h2 := (rightE_ok x).1 he
          have h1 := (knownB_iff x.kind).2 ((rightB_iff x).1 h2).1
          have hcc := fun i y hy j v hv => hw1.cell (hcc0 i y hy j v hv)
          refine wp_skip ?_
          refine then_normal ?_
          refine wp_seq ?_
          refine region_qd mixed (by kernel_rfl) ?_
          refine q_look (look_move rfl rfl) ?_
          refine q_look (look_gtr rfl rfl rfl rfl) ?_
          refine q_look (look_move rfl rfl) ?_
          refine q_lookg rfl rfl rfl (fun hq => look_move rfl rfl) ?_
          refine q_lookg rfl rfl rfl (fun hq => look_move rfl rfl) ?_
          refine q_lookg rfl rfl rfl (fun hq => look_indexAddr _ Tryd.underlying22 szTryd_28 rfl hq rfl hq rfl (by omega)) ?_
          refine q_lookg rfl rfl rfl (fun hq => look_fieldAddr Tryd.underlying28 rfl (fun _ _ => rfl) rfl hq) ?_
          refine q_lookg rfl rfl rfl (fun hq => look_load1 Tryd.underlying3 rfl rfl hq (ext_cell (hcc k x hxk _ _ rfl))) ?_
          refine q_lookg rfl rfl rfl (fun hq => look_move rfl rfl) ?_
          refine q_lookg rfl rfl rfl (fun hq => look_move rfl rfl) ?_
          refine q_lookg rfl rfl rfl (fun hq => look_sub rfl hq rfl rfl (by unfold I64; omega)) ?_
          refine q_lookg rfl rfl rfl (fun hq => look_indexAddr (k - 1) Tryd.underlying22 szTryd_28 rfl hq rfl hq (by have h0 := of_decide_eq_true (gqR hq); omega) (by omega)) ?_
          refine q_lookg rfl rfl rfl (fun hq => look_fieldAddr Tryd.underlying28 rfl (fun _ _ => rfl) rfl hq) ?_
          refine q_lookg rfl rfl rfl (fun hq => look_load1 Tryd.underlying3 rfl rfl hq (ext_cell (hcc (k - 1) q (hqk (by have h0 := of_decide_eq_true (gqR hq); omega)) _ _ rfl))) ?_
          refine q_lookg rfl rfl rfl (fun hq => look_lss rfl hq rfl hq) ?_
          refine q_lookg rfl rfl rfl (fun hq => look_move rfl hq) ?_
          refine q_lookg rfl rfl rfl (fun hq => look_move rfl rfl) ?_
          refine q_lookg rfl rfl rfl (fun hq => look_move rfl rfl) ?_
          refine q_lookg rfl rfl rfl (fun hq => look_indexAddr _ Tryd.underlying22 szTryd_28 rfl hq rfl hq rfl (by omega)) ?_
          refine q_lookg rfl rfl rfl (fun hq => look_fieldAddr Tryd.underlying28 rfl (fun _ _ => rfl) rfl hq) ?_
          refine q_lookg rfl rfl rfl (fun hq => look_load1 Tryd.underlying3 rfl rfl hq (ext_cell (hcc k x hxk _ _ rfl))) ?_
          refine q_lookg rfl rfl rfl (fun hq => look_move rfl rfl) ?_
          refine q_lookg rfl rfl rfl (fun hq => look_move rfl rfl) ?_
          refine q_lookg rfl rfl rfl (fun hq => look_sub rfl hq rfl rfl (by unfold I64; omega)) ?_
          refine q_lookg rfl rfl rfl (fun hq => look_indexAddr (k - 1) Tryd.underlying22 szTryd_28 rfl hq rfl hq (by have h0 := of_decide_eq_true (gqR (gqL hq)); omega) (by omega)) ?_
          refine q_lookg rfl rfl rfl (fun hq => look_fieldAddr Tryd.underlying28 rfl (fun _ _ => rfl) rfl hq) ?_
          refine q_lookg rfl rfl rfl (fun hq => look_load1 Tryd.underlying3 rfl rfl hq (ext_cell (hcc (k - 1) q (hqk (by have h0 := of_decide_eq_true (gqR (gqL hq)); omega)) _ _ rfl))) ?_
          refine q_lookg rfl rfl rfl (fun hq => look_eql rfl hq rfl hq) ?_
          refine q_lookg rfl rfl rfl (fun hq => look_move rfl hq) ?_
          refine q_lookg rfl rfl rfl (fun hq => look_move rfl rfl) ?_
          refine q_lookg rfl rfl rfl (fun hq => look_move rfl rfl) ?_
          refine q_lookg rfl rfl rfl (fun hq => look_indexAddr _ Tryd.underlying22 szTryd_28 rfl hq rfl hq rfl (by omega)) ?_
          refine q_lookg rfl rfl rfl (fun hq => look_fieldAddr Tryd.underlying28 rfl (fun _ _ => rfl) rfl hq) ?_
          refine q_lookg rfl rfl rfl (fun hq => look_load1 Tryd.underlying3 rfl rfl hq (ext_cell (hcc k x hxk _ _ rfl))) ?_
          refine q_lookg rfl rfl rfl (fun hq => look_move rfl rfl) ?_
          refine q_lookg rfl rfl rfl (fun hq => look_move rfl rfl) ?_
          refine q_lookg rfl rfl rfl (fun hq => look_sub rfl hq rfl rfl (by unfold I64; omega)) ?_
          refine q_lookg rfl rfl rfl (fun hq => look_indexAddr (k - 1) Tryd.underlying22 szTryd_28 rfl hq rfl hq (by have h0 := of_decide_eq_true (gqR (gqL (gqL hq))); omega) (by omega)) ?_
          refine q_lookg rfl rfl rfl (fun hq => look_fieldAddr Tryd.underlying28 rfl (fun _ _ => rfl) rfl hq) ?_
          refine q_lookg rfl rfl rfl (fun hq => look_load1 Tryd.underlying3 rfl rfl hq (ext_cell (hcc (k - 1) q (hqk (by have h0 := of_decide_eq_true (gqR (gqL (gqL hq))); omega)) _ _ rfl))) ?_
          refine q_lookg rfl rfl rfl (fun hq => look_leq rfl hq rfl hq) ?_
          refine q_lookg rfl rfl rfl (fun hq => look_and rfl hq rfl hq) ?_
          refine q_lookg rfl rfl rfl (fun hq => look_or rfl hq rfl hq) ?_
          refine q_look (look_and rfl rfl rfl rfl) ?_
          refine q_nil ?_
          intro w2 hw2
          refine then_normal ?_
          refine cond_split rfl (fun hc65 => ?_) (fun hc65 => ?_)
          · have h3 : badP (prevOf l k) x = true := by rw [← bad_of hqk]; exact hc65
            refine wp_seq ?_
            refine region_s ?_
            refine q_look (look_assign rfl rfl) ?_
            refine q_nil ?_
            rintro _ rfl
            refine then_normal ?_
            refine wp_ret ?_
            refine inB_ret ?_
            refine then_ret ?_
            refine then_ret ?_
            refine inB_ret ?_
            refine then_ret ?_
            exact res1 Tryd.results13 rfl ⟨ret_int (by unfold checkP; rw [if_neg hlong, hf, drop_get hxk, chk, if_neg (by simp [h1]), if_neg (by simp [h2]), if_pos h3]), (hx.comp hw1).comp hw2⟩
          · have h3 : badP (prevOf l k) x = false := by rw [← bad_of hqk]; exact hc65
            refine wp_skip ?_
            refine inB_normal ?_
            refine then_normal ?_
            refine region_s ?_
            refine q_look (look_move rfl rfl) ?_
            refine q_look (look_add rfl rfl rfl rfl (by unfold I64; omega)) ?_
            refine q_look (look_assign rfl rfl) ?_
            refine q_nil ?_
            rintro _ rfl
            exact loop_end (k + 1) (by omega) ⟨rfl, rfl, trivial⟩ ⟨(hx.comp hw1).comp hw2, by omega, chk_step hxk hf h1 h2 h3⟩
      · have hge : ¬ k < l.length := by simp at hc11; omega
        refine wp_exit ?_
        refine then_exit ?_
        refine then_exit ?_
        refine inB_exit_same ?_
        refine then_normal ?_
        refine wp_seq ?_
        refine region_s ?_
        refine q_look (look_assign rfl rfl) ?_
        refine q_nil ?_
        rintro _ rfl
        refine then_normal ?_
        refine wp_ret ?_
        exact res1 Tryd.results13 rfl ⟨ret_int (by unfold checkP; rw [if_neg hlong, hf, List.drop_eq_nil_of_le (by omega)]; rfl), hx⟩

end Go.Proofs.YtbmkkepmecpffaaDoor
