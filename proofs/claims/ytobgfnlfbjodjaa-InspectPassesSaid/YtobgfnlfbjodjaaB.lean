/- The walks of chapter 35 (inspect), second part: the functions that make lists. -/
import Derived.Test.YtobgfnlfbjodjaaA
namespace Go.Proofs.Ytobgfnlfbjodjaa
open Go Go.RowKit Core
set_option linter.unusedVariables false
set_option linter.unusedSimpArgs false
attribute [local irreducible] wpQuiet wpList wpH Code.wp Calls bodyPost act


structure Sm where
  id : ByteArray
  a : ByteArray
  b : ByteArray
  kind : Int
  len : Int
  cls : Int
def smcell (x : Sm) : List Value := [.string x.id, .string x.a, .string x.b, .int .i64 x.kind, .int .i64 x.len, .int .i64 x.cls]
theorem hce_m : ∀ x, (smcell x).length = 6 := fun _ => rfl
structure Wd where
  seam : ByteArray
  st : Int
  cls : Int
  proc : ByteArray
  by_ : ByteArray
  at_ : Int
  rep : Int
  pA : Option Addr
  pl : List Int
  pc : Nat
def wdcell (x : Wd) : List Value := [.string x.seam, .int .i64 x.st, .int .i64 x.cls, .string x.proc, .string x.by_, .int .i64 x.at_, .int .i64 x.rep, .slice x.pA x.pl.length x.pc]
structure Dz where
  h : Value
  nd : Value
  pt : Value
  sA : Option Addr
  sl : List Sm
  sc : Nat
  pk : Value
  ne : Value
def dcell (x : Dz) : List Value := [x.h, x.nd, x.pt, .slice x.sA x.sl.length x.sc, x.pk, x.ne]
/-- The welds' lists read as they stand. -/
def WOk (w : World) (x : Wd) : Prop := Sl icell 1 w x.pA x.pl ∧ x.pl.length ≤ maxLen
theorem WOk.ext {w w' : World} {x : Wd} (h : WOk w x) (e : Ext w w') : WOk w' x := ⟨h.1.ext e, h.2⟩
def WsOk (w : World) (l : List Wd) : Prop := ∀ x ∈ l, WOk w x
theorem WsOk.ext {w w' : World} {l : List Wd} (h : WsOk w l) (e : Ext w w') : WsOk w' l := fun x hx => (h x hx).ext e
theorem WsOk.get {w : World} {l : List Wd} (h : WsOk w l) {k : Nat} {x : Wd} (hx : l[k]? = some x) : WOk w x := h x (List.mem_of_getElem? hx)
def mkT (s : Sm) (m : Int) : Tk := ⟨s.id, m⟩
def tasksP (l : List Sm) : List Tk := l.flatMap fun s => (methodsP s.kind s.cls).map (mkT s)
theorem tasks_take {l : List Sm} {k : Nat} {x : Sm} (hx : l[k]? = some x) : tasksP (l.take (k + 1)) = tasksP (l.take k) ++ (methodsP x.kind x.cls).map (mkT x) := by
  rw [take_get hx]; simp [tasksP]
theorem methods_len (k c : Int) : (methodsP k c).length ≤ 3 := by unfold methodsP; (repeat' split) <;> simp
theorem tasks_len : ∀ (l : List Sm), (tasksP l).length ≤ 3 * l.length
  | [] => by simp [tasksP]
  | x :: r => by
    have h1 := methods_len x.kind x.cls
    have h2 := tasks_len r
    simp only [tasksP, List.flatMap_cons, List.length_append, List.length_map, List.length_cons] at h2 ⊢
    omega
def passedP (ws : List Wd) (t : Tk) : Bool := ws.any fun x => decide (x.seam = t.seam) && decide (t.m ∈ x.pl)
def openP (l : List Sm) (ws : List Wd) : List Tk := (tasksP l).filter fun t => !passedP ws t
theorem filter_take {α : Type} {p : α → Bool} {l : List α} {k : Nat} {x : α} (hx : l[k]? = some x) : (l.take (k + 1)).filter p = (l.take k).filter p ++ if p x = true then [x] else [] := by
  rw [take_get hx, List.filter_append]
  by_cases h : p x = true <;> simp [h]
def smp (p : Int) : Nat → List ByteArray → List ByteArray
  | _, [] => []
  | i, x :: r => if decide ((i : Int) * p / 100 < ((i : Int) + 1) * p / 100) = true then x :: smp p (i + 1) r else smp p (i + 1) r
def sampleP (l : List ByteArray) (p : Int) : List ByteArray := smp (cutP p) 0 l
theorem smp_bd {k : Nat} {p : Int} (hk : k ≤ 1000) (hp : 0 ≤ p ∧ p ≤ 100) : 0 ≤ (k : Int) * p ∧ (k : Int) * p ≤ 100000 := by
  have h1 := Int.mul_nonneg (show (0 : Int) ≤ (k : Int) by omega) hp.1
  have h2 := Int.mul_le_mul (show (k : Int) ≤ 1000 by omega) hp.2 hp.1 (by omega)
  omega
def tfi (t : Tk) : List Wd → Int → Int
  | [], _ => -1
  | x :: r, k => if (decide (x.seam = t.seam) && decide (t.m ∈ x.pl)) = true then k else tfi t r (k + 1)
theorem tfi_ge (t : Tk) : ∀ (l : List Wd) (k : Int), 0 ≤ k → (decide (0 ≤ tfi t l k) = passedP l t)
  | [], k, hk => by simp [tfi, passedP]
  | y :: r, k, hk => by
    have ih := tfi_ge t r (k + 1) (by omega)
    unfold tfi
    by_cases h : (decide (y.seam = t.seam) && decide (t.m ∈ y.pl)) = true
    · rw [if_pos h]
      unfold passedP
      rw [List.any_cons, h]; simp [hk]
    · rw [if_neg h, ih]
      unfold passedP
      rw [List.any_cons, show (decide (y.seam = t.seam) && decide (t.m ∈ y.pl)) = false by simpa using h, Bool.false_or]

theorem methods_any (k c : Int) (w : World)  :
    Calls Try.prog 12 #[.int .i64 k, .int .i64 c] w fun e w' => ∃ v, e = .returned v ∧ Ext w w' ∧ Own icell 3 1 w.heap.size w' v (methodsP k c) := by
  refine calls_act Try.func12 rfl Try.ntmps12 rfl rfl ?_
  show Code.wp _ _ _ (act 20 [(0, true, .int .i64 k), (1, true, .int .i64 c)] _) _
  have hX : Ext w w := Ext.rfl' w
  refine wp_seq ?_
  refine region_s ?_
  refine q_look (look_assign rfl rfl) ?_
  refine q_nil ?_
  rintro _ rfl
  refine then_normal ?_
  refine wp_seq ?_
  refine wp_seq ?_
  refine region_q ?_
  refine q_look (look_move rfl rfl) ?_
  refine q_look (look_move rfl rfl) ?_
  refine q_call (vs := [_, _]) enTry_26 ⟨⟨_, rfl, rfl⟩, ⟨_, rfl, rfl⟩, trivial⟩ (fun wc hw => cext hw (table_any k c wc)) ?_
  refine q_nil ?_
  intro w1 hw1
  replace hX := hX.comp hw1
  refine then_normal ?_
  refine wp_block ?_
  refine wp_seq ?_
  refine region_s ?_
  refine q_look (look_eql rfl rfl rfl rfl) ?_
  refine q_look (look_assign rfl rfl) ?_
  refine q_nil ?_
  rintro _ rfl
  refine then_normal ?_
  refine cond_split rfl (fun hc8 => ?_) (fun hc8 => ?_)
  · have e1 : tableP k c = 1 := by simpa using hc8
    refine wp_seq ?_
    refine wp_region_lit ?_
    refine s_buildSlice (parts := [(0, .const (Go.Value.int Go.IntKind.i64 1))]) (vs := [(0, _)]) (cells := [(1 : Int)].flatMap icell) Try.underlying23 szTry_3 zeTry_3 rfl rfl ⟨⟨_, rfl, rfl⟩, trivial⟩ rfl (by kernel_rfl) ?_
    intro g1 u1 hu1 hB1 hg1 hs1
    have ge_g1 : w.heap.size ≤ g1 := by have := hX.size; omega
    replace hX := hX.comp hu1
    refine s_look (look_assign rfl rfl) ?_
    refine s_nil ?_
    refine then_normal ?_
    refine wp_ret ?_
    refine inB_ret ?_
    refine then_ret ?_
    exact res1 Try.results12 rfl ⟨_, rfl, hX, (Own.lit (l := [1]) (ce := icell) (size := 1) hB1 rfl rfl rfl ge_g1 (by decide)).as (by simp [methodsP, e1])⟩
  · have e1 : ¬ tableP k c = 1 := by simpa using hc8
    refine wp_seq ?_
    refine region_s ?_
    refine q_look (look_eql rfl rfl rfl rfl) ?_
    refine q_look (look_assign rfl rfl) ?_
    refine q_nil ?_
    rintro _ rfl
    refine then_normal ?_
    refine cond_split rfl (fun hc11 => ?_) (fun hc11 => ?_)
    · have e2 : tableP k c = 2 := by simpa using hc11
      refine wp_seq ?_
      refine wp_region_lit ?_
      refine s_buildSlice (parts := [(0, .const (Go.Value.int Go.IntKind.i64 1)), (1, .const (Go.Value.int Go.IntKind.i64 2))]) (vs := [(0, _), (1, _)]) (cells := [(1 : Int), 2].flatMap icell) Try.underlying23 szTry_3 zeTry_3 rfl rfl ⟨⟨_, rfl, rfl⟩, ⟨_, rfl, rfl⟩, trivial⟩ rfl (by kernel_rfl) ?_
      intro g2 u2 hu2 hB2 hg2 hs2
      have ge_g2 : w.heap.size ≤ g2 := by have := hX.size; omega
      replace hX := hX.comp hu2
      refine s_look (look_assign rfl rfl) ?_
      refine s_nil ?_
      refine then_normal ?_
      refine wp_ret ?_
      refine inB_ret ?_
      refine then_ret ?_
      exact res1 Try.results12 rfl ⟨_, rfl, hX, (Own.lit (l := [1, 2]) (ce := icell) (size := 1) hB2 rfl rfl rfl ge_g2 (by decide)).as (by simp [methodsP, e1, e2])⟩
    · have e2 : ¬ tableP k c = 2 := by simpa using hc11
      refine wp_seq ?_
      refine region_s ?_
      refine q_look (look_eql rfl rfl rfl rfl) ?_
      refine q_look (look_assign rfl rfl) ?_
      refine q_nil ?_
      rintro _ rfl
      refine then_normal ?_
      refine cond_split rfl (fun hc14 => ?_) (fun hc14 => ?_)
      · have e3 : tableP k c = 3 := by simpa using hc14
        refine wp_seq ?_
        refine wp_region_lit ?_
        refine s_buildSlice (parts := [(0, .const (Go.Value.int Go.IntKind.i64 1)), (1, .const (Go.Value.int Go.IntKind.i64 3))]) (vs := [(0, _), (1, _)]) (cells := [(1 : Int), 3].flatMap icell) Try.underlying23 szTry_3 zeTry_3 rfl rfl ⟨⟨_, rfl, rfl⟩, ⟨_, rfl, rfl⟩, trivial⟩ rfl (by kernel_rfl) ?_
        intro g3 u3 hu3 hB3 hg3 hs3
        have ge_g3 : w.heap.size ≤ g3 := by have := hX.size; omega
        replace hX := hX.comp hu3
        refine s_look (look_assign rfl rfl) ?_
        refine s_nil ?_
        refine then_normal ?_
        refine wp_ret ?_
        refine inB_ret ?_
        refine then_ret ?_
        exact res1 Try.results12 rfl ⟨_, rfl, hX, (Own.lit (l := [1, 3]) (ce := icell) (size := 1) hB3 rfl rfl rfl ge_g3 (by decide)).as (by simp [methodsP, e1, e2, e3])⟩
      · have e3 : ¬ tableP k c = 3 := by simpa using hc14
        refine wp_seq ?_
        refine region_s ?_
        refine q_look (look_eql rfl rfl rfl rfl) ?_
        refine q_look (look_assign rfl rfl) ?_
        refine q_nil ?_
        rintro _ rfl
        refine then_normal ?_
        refine cond_split rfl (fun hc17 => ?_) (fun hc17 => ?_)
        · have e4 : tableP k c = 4 := by simpa using hc17
          refine wp_seq ?_
          refine wp_region_lit ?_
          refine s_buildSlice (parts := [(0, .const (Go.Value.int Go.IntKind.i64 1)), (1, .const (Go.Value.int Go.IntKind.i64 3)), (2, .const (Go.Value.int Go.IntKind.i64 4))]) (vs := [(0, _), (1, _), (2, _)]) (cells := [(1 : Int), 3, 4].flatMap icell) Try.underlying23 szTry_3 zeTry_3 rfl rfl ⟨⟨_, rfl, rfl⟩, ⟨_, rfl, rfl⟩, ⟨_, rfl, rfl⟩, trivial⟩ rfl (by kernel_rfl) ?_
          intro g4 u4 hu4 hB4 hg4 hs4
          have ge_g4 : w.heap.size ≤ g4 := by have := hX.size; omega
          replace hX := hX.comp hu4
          refine s_look (look_assign rfl rfl) ?_
          refine s_nil ?_
          refine then_normal ?_
          refine wp_ret ?_
          refine inB_ret ?_
          refine then_ret ?_
          exact res1 Try.results12 rfl ⟨_, rfl, hX, (Own.lit (l := [1, 3, 4]) (ce := icell) (size := 1) hB4 rfl rfl rfl ge_g4 (by decide)).as (by simp [methodsP, e1, e2, e3, e4])⟩
        · have e4 : ¬ tableP k c = 4 := by simpa using hc17
          refine wp_skip ?_
          refine inB_normal ?_
          refine then_normal ?_
          refine wp_seq ?_
          refine region_s ?_
          refine q_look (look_assign rfl rfl) ?_
          refine q_nil ?_
          rintro _ rfl
          refine then_normal ?_
          refine wp_ret ?_
          exact res1 Try.results12 rfl ⟨_, rfl, hX, (Own.nil icell 3 1 _ _).as (by simp [methodsP, e1, e2, e3, e4])⟩

theorem methods_bad {k c : Int} (h : k < 1 ∨ k > 2 ∨ c < 1 ∨ c > 3) : methodsP k c = [] := by
  have e : tableP k c = 0 := by
    unfold tableP
    rw [if_neg (by simp; omega), if_neg (by simp; omega), if_neg (by simp; omega), if_neg (by simp; omega)]
  simp [methodsP, e]

theorem refmethods_any (k c : Int) (w : World)  :
    Calls Try.prog 13 #[.int .i64 k, .int .i64 c] w fun e w' => ∃ v, e = .returned v ∧ Ext w w' ∧ Own icell 3 1 w.heap.size w' v (methodsP k c) := by
  refine calls_act Try.func13 rfl Try.ntmps13 rfl rfl ?_
  show Code.wp _ _ _ (act 49 [(0, true, .int .i64 k), (1, true, .int .i64 c)] _) _
  have hX : Ext w w := Ext.rfl' w
  refine wp_seq ?_
  refine region_s ?_
  refine q_look (look_assign rfl rfl) ?_
  refine q_nil ?_
  rintro _ rfl
  refine then_normal ?_
  refine wp_seq ?_
  refine wp_seq ?_
  refine region_s ?_
  refine q_look (look_move rfl rfl) ?_
  refine q_look (look_lss rfl rfl rfl rfl) ?_
  refine q_look (look_move rfl rfl) ?_
  refine q_lookg rfl rfl rfl (fun hq => look_move rfl rfl) ?_
  refine q_lookg rfl rfl rfl (fun hq => look_gtr rfl hq rfl rfl) ?_
  refine q_look (look_or rfl rfl rfl rfl) ?_
  refine q_look (look_move rfl rfl) ?_
  refine q_lookg rfl rfl rfl (fun hq => look_move rfl rfl) ?_
  refine q_lookg rfl rfl rfl (fun hq => look_lss rfl hq rfl rfl) ?_
  refine q_look (look_or rfl rfl rfl rfl) ?_
  refine q_look (look_move rfl rfl) ?_
  refine q_lookg rfl rfl rfl (fun hq => look_move rfl rfl) ?_
  refine q_lookg rfl rfl rfl (fun hq => look_gtr rfl hq rfl rfl) ?_
  refine q_look (look_or rfl rfl rfl rfl) ?_
  refine q_nil ?_
  rintro _ rfl
  refine then_normal ?_
  refine cond_split rfl (fun hc19 => ?_) (fun hc19 => ?_)
  · have hbad : k < 1 ∨ k > 2 ∨ c < 1 ∨ c > 3 := by simp at hc19; omega
    refine wp_seq ?_
    refine region_s ?_
    refine q_look (look_assign rfl rfl) ?_
    refine q_nil ?_
    rintro _ rfl
    refine then_normal ?_
    refine wp_ret ?_
    refine then_ret ?_
    exact res1 Try.results13 rfl ⟨_, rfl, hX, (Own.nil icell 3 1 _ _).as (by rw [eq_comm]; exact methods_bad hbad)⟩
  · have hk : k = 1 ∨ k = 2 := by simp at hc19; omega
    have hc : c = 1 ∨ c = 2 ∨ c = 3 := by simp at hc19; omega
    refine wp_skip ?_
    refine then_normal ?_
    refine wp_seq ?_
    refine wp_region_lit ?_
    refine s_buildSlice (parts := [(0, .const (Go.Value.int Go.IntKind.i64 1))]) (vs := [(0, _)]) (cells := [(1 : Int)].flatMap icell) Try.underlying23 szTry_3 zeTry_3 rfl rfl ⟨⟨_, rfl, rfl⟩, trivial⟩ rfl (by kernel_rfl) ?_
    intro g1 u1 hu1 hB1 hg1 hs1
    have ge_g1 : w.heap.size ≤ g1 := by have := hX.size; omega
    replace hX := hX.comp hu1
    have hO := Own.lit (base := w.heap.size) (l := [(1 : Int)]) (ce := icell) (size := 1) hB1 rfl rfl rfl ge_g1 (by decide)
    refine s_look (look_assign rfl rfl) ?_
    refine s_nil ?_
    refine then_normal ?_
    refine wp_seq ?_
    refine wp_seq ?_
    refine region_s ?_
    refine q_look (look_move rfl rfl) ?_
    refine q_look (look_eql rfl rfl rfl rfl) ?_
    refine q_look (look_move rfl rfl) ?_
    refine q_lookg rfl rfl rfl (fun hq => look_move rfl rfl) ?_
    refine q_lookg rfl rfl rfl (fun hq => look_leq rfl hq rfl rfl) ?_
    refine q_look (look_and rfl rfl rfl rfl) ?_
    refine q_nil ?_
    rintro _ rfl
    refine then_normal ?_
    refine cond_split rfl (fun hc26 => ?_) (fun hc26 => ?_)
    · skip
      refine wp_region_lit ?_
      refine s_look (look_move rfl rfl) ?_
      refine s_buildSlice (parts := [(0, .const (Go.Value.int Go.IntKind.i64 3))]) (vs := [(0, _)]) (cells := [(3 : Int)].flatMap icell) Try.underlying23 szTry_3 zeTry_3 rfl rfl ⟨⟨_, rfl, rfl⟩, trivial⟩ rfl (by kernel_rfl) ?_
      intro g2 u2 hu2 hB2 hg2 hs2
      have ne_hO_g2 : (Value.ownBlock (.slice (some ⟨g1, 0, none⟩) 1 1)) ≠ some g2 := hO.ne_new (by omega)
      have ge_g2 : w.heap.size ≤ g2 := by have := hX.size; omega
      replace hX := hX.comp hu2
      replace hO := hO.ext hu2
      have hsz3 := hX.size
      refine s_appendL (ce := icell) (news := [(3 : Int)]) Try.underlying23 zsbTry_3 rfl rfl rfl hO rfl (Blk.src (x := (3 : Int)) rfl (by simp [icell, Value.oneCell']) hB2) (by simp only [List.length_cons, List.length_nil, List.length_append]; rw [maxLen_is]; omega) (by simp only [List.length_cons, List.length_nil, List.length_append]; omega) (by omega) ?_
      intro v3 u3 hN3 hgr3 hat3
      replace hX := hX.grow hO (Nat.le_refl _) hgr3
      clear hO
      have hO := hN3
      refine s_look (look_assign rfl rfl) ?_
      refine s_nil ?_
      refine then_normal ?_
      refine wp_seq ?_
      refine wp_seq ?_
      refine region_s ?_
      refine q_look (look_move rfl rfl) ?_
      refine q_look (look_eql rfl rfl rfl rfl) ?_
      refine q_look (look_move rfl rfl) ?_
      refine q_lookg rfl rfl rfl (fun hq => look_move rfl rfl) ?_
      refine q_lookg rfl rfl rfl (fun hq => look_eql rfl hq rfl rfl) ?_
      refine q_look (look_and rfl rfl rfl rfl) ?_
      refine q_nil ?_
      rintro _ rfl
      refine then_normal ?_
      refine cond_split rfl (fun hc35 => ?_) (fun hc35 => ?_)
      · skip
        refine wp_region_lit ?_
        refine s_look (look_move rfl rfl) ?_
        refine s_buildSlice (parts := [(0, .const (Go.Value.int Go.IntKind.i64 4))]) (vs := [(0, _)]) (cells := [(4 : Int)].flatMap icell) Try.underlying23 szTry_3 zeTry_3 rfl rfl ⟨⟨_, rfl, rfl⟩, trivial⟩ rfl (by kernel_rfl) ?_
        intro g4 u4 hu4 hB4 hg4 hs4
        have ne_hO_g4 : (Value.ownBlock v3) ≠ some g4 := hO.ne_new (by omega)
        have ge_g4 : w.heap.size ≤ g4 := by have := hX.size; omega
        replace hX := hX.comp hu4
        replace hO := hO.ext hu4
        have hsz5 := hX.size
        refine s_appendL (ce := icell) (news := [(4 : Int)]) Try.underlying23 zsbTry_3 rfl rfl rfl hO rfl (Blk.src (x := (4 : Int)) rfl (by simp [icell, Value.oneCell']) hB4) (by simp only [List.length_cons, List.length_nil, List.length_append]; rw [maxLen_is]; omega) (by simp only [List.length_cons, List.length_nil, List.length_append]; omega) (by omega) ?_
        intro v5 u5 hN5 hgr5 hat5
        replace hX := hX.grow hO (Nat.le_refl _) hgr5
        clear hO
        have hO := hN5
        refine s_look (look_assign rfl rfl) ?_
        refine s_nil ?_
        refine then_normal ?_
        refine wp_seq ?_
        refine wp_seq ?_
        refine region_s ?_
        refine q_look (look_move rfl rfl) ?_
        refine q_look (look_eql rfl rfl rfl rfl) ?_
        refine q_look (look_move rfl rfl) ?_
        refine q_lookg rfl rfl rfl (fun hq => look_move rfl rfl) ?_
        refine q_lookg rfl rfl rfl (fun hq => look_leq rfl hq rfl rfl) ?_
        refine q_look (look_and rfl rfl rfl rfl) ?_
        refine q_nil ?_
        rintro _ rfl
        refine then_normal ?_
        refine cond_split rfl (fun hc44 => ?_) (fun hc44 => ?_)
        · skip
          refine wp_region_lit ?_
          refine s_look (look_move rfl rfl) ?_
          refine s_buildSlice (parts := [(0, .const (Go.Value.int Go.IntKind.i64 2))]) (vs := [(0, _)]) (cells := [(2 : Int)].flatMap icell) Try.underlying23 szTry_3 zeTry_3 rfl rfl ⟨⟨_, rfl, rfl⟩, trivial⟩ rfl (by kernel_rfl) ?_
          intro g6 u6 hu6 hB6 hg6 hs6
          have ne_hO_g6 : (Value.ownBlock v5) ≠ some g6 := hO.ne_new (by omega)
          have ge_g6 : w.heap.size ≤ g6 := by have := hX.size; omega
          replace hX := hX.comp hu6
          replace hO := hO.ext hu6
          have hsz7 := hX.size
          refine s_appendL (ce := icell) (news := [(2 : Int)]) Try.underlying23 zsbTry_3 rfl rfl rfl hO rfl (Blk.src (x := (2 : Int)) rfl (by simp [icell, Value.oneCell']) hB6) (by simp only [List.length_cons, List.length_nil, List.length_append]; rw [maxLen_is]; omega) (by simp only [List.length_cons, List.length_nil, List.length_append]; omega) (by omega) ?_
          intro v7 u7 hN7 hgr7 hat7
          replace hX := hX.grow hO (Nat.le_refl _) hgr7
          clear hO
          have hO := hN7
          refine s_look (look_assign rfl rfl) ?_
          refine s_nil ?_
          refine then_normal ?_
          refine wp_seq ?_
          refine region_s ?_
          refine q_look (look_move rfl rfl) ?_
          refine q_look (look_assign rfl rfl) ?_
          refine q_nil ?_
          rintro _ rfl
          refine then_normal ?_
          refine wp_ret ?_
          exact res1 Try.results13 rfl ⟨_, rfl, hX, hO.as (by rcases hk with rfl | rfl <;> rcases hc with rfl | rfl | rfl <;> first | rfl | (exfalso; revert hc26 hc35 hc44; decide))⟩
        · skip
          refine wp_skip ?_
          refine then_normal ?_
          refine wp_seq ?_
          refine region_s ?_
          refine q_look (look_move rfl rfl) ?_
          refine q_look (look_assign rfl rfl) ?_
          refine q_nil ?_
          rintro _ rfl
          refine then_normal ?_
          refine wp_ret ?_
          exact res1 Try.results13 rfl ⟨_, rfl, hX, hO.as (by rcases hk with rfl | rfl <;> rcases hc with rfl | rfl | rfl <;> first | rfl | (exfalso; revert hc26 hc35 hc44; decide))⟩
      · skip
        refine wp_skip ?_
        refine then_normal ?_
        refine wp_seq ?_
        refine wp_seq ?_
        refine region_s ?_
        refine q_look (look_move rfl rfl) ?_
        refine q_look (look_eql rfl rfl rfl rfl) ?_
        refine q_look (look_move rfl rfl) ?_
        refine q_lookg rfl rfl rfl (fun hq => look_move rfl rfl) ?_
        refine q_lookg rfl rfl rfl (fun hq => look_leq rfl hq rfl rfl) ?_
        refine q_look (look_and rfl rfl rfl rfl) ?_
        refine q_nil ?_
        rintro _ rfl
        refine then_normal ?_
        refine cond_split rfl (fun hc44 => ?_) (fun hc44 => ?_)
        · skip
          refine wp_region_lit ?_
          refine s_look (look_move rfl rfl) ?_
          refine s_buildSlice (parts := [(0, .const (Go.Value.int Go.IntKind.i64 2))]) (vs := [(0, _)]) (cells := [(2 : Int)].flatMap icell) Try.underlying23 szTry_3 zeTry_3 rfl rfl ⟨⟨_, rfl, rfl⟩, trivial⟩ rfl (by kernel_rfl) ?_
          intro g8 u8 hu8 hB8 hg8 hs8
          have ne_hO_g8 : (Value.ownBlock v3) ≠ some g8 := hO.ne_new (by omega)
          have ge_g8 : w.heap.size ≤ g8 := by have := hX.size; omega
          replace hX := hX.comp hu8
          replace hO := hO.ext hu8
          have hsz9 := hX.size
          refine s_appendL (ce := icell) (news := [(2 : Int)]) Try.underlying23 zsbTry_3 rfl rfl rfl hO rfl (Blk.src (x := (2 : Int)) rfl (by simp [icell, Value.oneCell']) hB8) (by simp only [List.length_cons, List.length_nil, List.length_append]; rw [maxLen_is]; omega) (by simp only [List.length_cons, List.length_nil, List.length_append]; omega) (by omega) ?_
          intro v9 u9 hN9 hgr9 hat9
          replace hX := hX.grow hO (Nat.le_refl _) hgr9
          clear hO
          have hO := hN9
          refine s_look (look_assign rfl rfl) ?_
          refine s_nil ?_
          refine then_normal ?_
          refine wp_seq ?_
          refine region_s ?_
          refine q_look (look_move rfl rfl) ?_
          refine q_look (look_assign rfl rfl) ?_
          refine q_nil ?_
          rintro _ rfl
          refine then_normal ?_
          refine wp_ret ?_
          exact res1 Try.results13 rfl ⟨_, rfl, hX, hO.as (by rcases hk with rfl | rfl <;> rcases hc with rfl | rfl | rfl <;> first | rfl | (exfalso; revert hc26 hc35 hc44; decide))⟩
        · skip
          refine wp_skip ?_
          refine then_normal ?_
          refine wp_seq ?_
          refine region_s ?_
          refine q_look (look_move rfl rfl) ?_
          refine q_look (look_assign rfl rfl) ?_
          refine q_nil ?_
          rintro _ rfl
          refine then_normal ?_
          refine wp_ret ?_
          exact res1 Try.results13 rfl ⟨_, rfl, hX, hO.as (by rcases hk with rfl | rfl <;> rcases hc with rfl | rfl | rfl <;> first | rfl | (exfalso; revert hc26 hc35 hc44; decide))⟩
    · skip
      refine wp_skip ?_
      refine then_normal ?_
      refine wp_seq ?_
      refine wp_seq ?_
      refine region_s ?_
      refine q_look (look_move rfl rfl) ?_
      refine q_look (look_eql rfl rfl rfl rfl) ?_
      refine q_look (look_move rfl rfl) ?_
      refine q_lookg rfl rfl rfl (fun hq => look_move rfl rfl) ?_
      refine q_lookg rfl rfl rfl (fun hq => look_eql rfl hq rfl rfl) ?_
      refine q_look (look_and rfl rfl rfl rfl) ?_
      refine q_nil ?_
      rintro _ rfl
      refine then_normal ?_
      refine cond_split rfl (fun hc35 => ?_) (fun hc35 => ?_)
      · skip
        refine wp_region_lit ?_
        refine s_look (look_move rfl rfl) ?_
        refine s_buildSlice (parts := [(0, .const (Go.Value.int Go.IntKind.i64 4))]) (vs := [(0, _)]) (cells := [(4 : Int)].flatMap icell) Try.underlying23 szTry_3 zeTry_3 rfl rfl ⟨⟨_, rfl, rfl⟩, trivial⟩ rfl (by kernel_rfl) ?_
        intro g10 u10 hu10 hB10 hg10 hs10
        have ne_hO_g10 : (Value.ownBlock (.slice (some ⟨g1, 0, none⟩) 1 1)) ≠ some g10 := hO.ne_new (by omega)
        have ge_g10 : w.heap.size ≤ g10 := by have := hX.size; omega
        replace hX := hX.comp hu10
        replace hO := hO.ext hu10
        have hsz11 := hX.size
        refine s_appendL (ce := icell) (news := [(4 : Int)]) Try.underlying23 zsbTry_3 rfl rfl rfl hO rfl (Blk.src (x := (4 : Int)) rfl (by simp [icell, Value.oneCell']) hB10) (by simp only [List.length_cons, List.length_nil, List.length_append]; rw [maxLen_is]; omega) (by simp only [List.length_cons, List.length_nil, List.length_append]; omega) (by omega) ?_
        intro v11 u11 hN11 hgr11 hat11
        replace hX := hX.grow hO (Nat.le_refl _) hgr11
        clear hO
        have hO := hN11
        refine s_look (look_assign rfl rfl) ?_
        refine s_nil ?_
        refine then_normal ?_
        refine wp_seq ?_
        refine wp_seq ?_
        refine region_s ?_
        refine q_look (look_move rfl rfl) ?_
        refine q_look (look_eql rfl rfl rfl rfl) ?_
        refine q_look (look_move rfl rfl) ?_
        refine q_lookg rfl rfl rfl (fun hq => look_move rfl rfl) ?_
        refine q_lookg rfl rfl rfl (fun hq => look_leq rfl hq rfl rfl) ?_
        refine q_look (look_and rfl rfl rfl rfl) ?_
        refine q_nil ?_
        rintro _ rfl
        refine then_normal ?_
        refine cond_split rfl (fun hc44 => ?_) (fun hc44 => ?_)
        · skip
          refine wp_region_lit ?_
          refine s_look (look_move rfl rfl) ?_
          refine s_buildSlice (parts := [(0, .const (Go.Value.int Go.IntKind.i64 2))]) (vs := [(0, _)]) (cells := [(2 : Int)].flatMap icell) Try.underlying23 szTry_3 zeTry_3 rfl rfl ⟨⟨_, rfl, rfl⟩, trivial⟩ rfl (by kernel_rfl) ?_
          intro g12 u12 hu12 hB12 hg12 hs12
          have ne_hO_g12 : (Value.ownBlock v11) ≠ some g12 := hO.ne_new (by omega)
          have ge_g12 : w.heap.size ≤ g12 := by have := hX.size; omega
          replace hX := hX.comp hu12
          replace hO := hO.ext hu12
          have hsz13 := hX.size
          refine s_appendL (ce := icell) (news := [(2 : Int)]) Try.underlying23 zsbTry_3 rfl rfl rfl hO rfl (Blk.src (x := (2 : Int)) rfl (by simp [icell, Value.oneCell']) hB12) (by simp only [List.length_cons, List.length_nil, List.length_append]; rw [maxLen_is]; omega) (by simp only [List.length_cons, List.length_nil, List.length_append]; omega) (by omega) ?_
          intro v13 u13 hN13 hgr13 hat13
          replace hX := hX.grow hO (Nat.le_refl _) hgr13
          clear hO
          have hO := hN13
          refine s_look (look_assign rfl rfl) ?_
          refine s_nil ?_
          refine then_normal ?_
          refine wp_seq ?_
          refine region_s ?_
          refine q_look (look_move rfl rfl) ?_
          refine q_look (look_assign rfl rfl) ?_
          refine q_nil ?_
          rintro _ rfl
          refine then_normal ?_
          refine wp_ret ?_
          exact res1 Try.results13 rfl ⟨_, rfl, hX, hO.as (by rcases hk with rfl | rfl <;> rcases hc with rfl | rfl | rfl <;> first | rfl | (exfalso; revert hc26 hc35 hc44; decide))⟩
        · skip
          refine wp_skip ?_
          refine then_normal ?_
          refine wp_seq ?_
          refine region_s ?_
          refine q_look (look_move rfl rfl) ?_
          refine q_look (look_assign rfl rfl) ?_
          refine q_nil ?_
          rintro _ rfl
          refine then_normal ?_
          refine wp_ret ?_
          exact res1 Try.results13 rfl ⟨_, rfl, hX, hO.as (by rcases hk with rfl | rfl <;> rcases hc with rfl | rfl | rfl <;> first | rfl | (exfalso; revert hc26 hc35 hc44; decide))⟩
      · skip
        refine wp_skip ?_
        refine then_normal ?_
        refine wp_seq ?_
        refine wp_seq ?_
        refine region_s ?_
        refine q_look (look_move rfl rfl) ?_
        refine q_look (look_eql rfl rfl rfl rfl) ?_
        refine q_look (look_move rfl rfl) ?_
        refine q_lookg rfl rfl rfl (fun hq => look_move rfl rfl) ?_
        refine q_lookg rfl rfl rfl (fun hq => look_leq rfl hq rfl rfl) ?_
        refine q_look (look_and rfl rfl rfl rfl) ?_
        refine q_nil ?_
        rintro _ rfl
        refine then_normal ?_
        refine cond_split rfl (fun hc44 => ?_) (fun hc44 => ?_)
        · skip
          refine wp_region_lit ?_
          refine s_look (look_move rfl rfl) ?_
          refine s_buildSlice (parts := [(0, .const (Go.Value.int Go.IntKind.i64 2))]) (vs := [(0, _)]) (cells := [(2 : Int)].flatMap icell) Try.underlying23 szTry_3 zeTry_3 rfl rfl ⟨⟨_, rfl, rfl⟩, trivial⟩ rfl (by kernel_rfl) ?_
          intro g14 u14 hu14 hB14 hg14 hs14
          have ne_hO_g14 : (Value.ownBlock (.slice (some ⟨g1, 0, none⟩) 1 1)) ≠ some g14 := hO.ne_new (by omega)
          have ge_g14 : w.heap.size ≤ g14 := by have := hX.size; omega
          replace hX := hX.comp hu14
          replace hO := hO.ext hu14
          have hsz15 := hX.size
          refine s_appendL (ce := icell) (news := [(2 : Int)]) Try.underlying23 zsbTry_3 rfl rfl rfl hO rfl (Blk.src (x := (2 : Int)) rfl (by simp [icell, Value.oneCell']) hB14) (by simp only [List.length_cons, List.length_nil, List.length_append]; rw [maxLen_is]; omega) (by simp only [List.length_cons, List.length_nil, List.length_append]; omega) (by omega) ?_
          intro v15 u15 hN15 hgr15 hat15
          replace hX := hX.grow hO (Nat.le_refl _) hgr15
          clear hO
          have hO := hN15
          refine s_look (look_assign rfl rfl) ?_
          refine s_nil ?_
          refine then_normal ?_
          refine wp_seq ?_
          refine region_s ?_
          refine q_look (look_move rfl rfl) ?_
          refine q_look (look_assign rfl rfl) ?_
          refine q_nil ?_
          rintro _ rfl
          refine then_normal ?_
          refine wp_ret ?_
          exact res1 Try.results13 rfl ⟨_, rfl, hX, hO.as (by rcases hk with rfl | rfl <;> rcases hc with rfl | rfl | rfl <;> first | rfl | (exfalso; revert hc26 hc35 hc44; decide))⟩
        · skip
          refine wp_skip ?_
          refine then_normal ?_
          refine wp_seq ?_
          refine region_s ?_
          refine q_look (look_move rfl rfl) ?_
          refine q_look (look_assign rfl rfl) ?_
          refine q_nil ?_
          rintro _ rfl
          refine then_normal ?_
          refine wp_ret ?_
          exact res1 Try.results13 rfl ⟨_, rfl, hX, hO.as (by rcases hk with rfl | rfl <;> rcases hc with rfl | rfl | rfl <;> first | rfl | (exfalso; revert hc26 hc35 hc44; decide))⟩

theorem sample_any (l : List ByteArray) (A : Option Addr) (cap : Nat) (p : Int) (w : World) (hA : Sl scell 1 w A l) (hla : l.length ≤ 999) :
    Calls Try.prog 22 #[.slice A l.length cap, .int .i64 p] w fun e w' => ∃ v, e = .returned v ∧ Ext w w' ∧ Own scell 9 1 w.heap.size w' v (sampleP l p) := by
  refine calls_act Try.func22 rfl Try.ntmps22 rfl rfl ?_
  show Code.wp _ _ _ (act 33 [(0, true, .slice A l.length cap), (1, true, .int .i64 p)] _) _
  have hX : Ext w w := Ext.rfl' w
  refine wp_seq ?_
  refine region_s ?_
  refine q_look (look_assign rfl rfl) ?_
  refine q_nil ?_
  rintro _ rfl
  refine then_normal ?_
  refine wp_seq ?_
  refine region_s ?_
  refine q_look (look_move rfl rfl) ?_
  refine q_look (look_max2 rfl rfl rfl rfl) ?_
  refine q_look (look_min2 rfl rfl rfl rfl) ?_
  refine q_look (look_assign rfl rfl) ?_
  refine q_nil ?_
  rintro _ rfl
  refine then_normal ?_
  refine wp_seq ?_
  refine wp_seq ?_
  refine region_s ?_
  refine q_look (look_move rfl rfl) ?_
  refine q_look (look_len_slice Try.underlying40 rfl rfl) ?_
  refine q_look (look_move rfl rfl) ?_
  refine q_nil ?_
  rintro _ rfl
  have hO := Own.nil scell 9 1 w.heap.size w
  refine then_normal ?_
  refine wp_block ?_
  refine loop_act (fun (ls : Nat × Value × List ByteArray) => [(1, .int .i64 (cutP p)), (4, ls.2.1), (10, .slice A l.length cap), (11, .int .i64 (l.length : Int)), (12, .int .i64 (ls.1 : Int))]) (fun ls w' => (Ext w w') ∧ (Own scell 9 1 w.heap.size w' ls.2.1 ls.2.2) ∧ (ls.1 ≤ l.length) ∧ (ls.2.2.length ≤ ls.1) ∧ (ls.2.2 ++ smp (cutP p) ls.1 (l.drop ls.1) = smp (cutP p) 0 l)) (fun ls => l.length - ls.1) ((0, .slice none 0 0, [])) ?_ ?_ ?_
  · exact ⟨rfl, rfl, rfl, rfl, rfl, trivial⟩
  · exact ⟨hX, (Own.nil _ _ _ _ _), Nat.zero_le _, by simp, rfl⟩
  · rintro ⟨k, v, r⟩ σ wr hF
    obtain ⟨hX, hO, hk, hrl, hr⟩ : (Ext w wr) ∧ (Own scell 9 1 w.heap.size wr v r) ∧ (k ≤ l.length) ∧ (r.length ≤ k) ∧ (r ++ smp (cutP p) k (l.drop k) = smp (cutP p) 0 l) := hF
    have hcb := cut_bd p
    show Code.wp _ _ _ (act 33 [(1, true, .int .i64 (cutP p)), (4, true, v), (10, true, .slice A l.length cap), (11, true, .int .i64 (l.length : Int)), (12, true, .int .i64 (k : Int))] _) _
    refine wp_seq ?_
    refine region_s ?_
    refine q_look (look_lss rfl rfl rfl rfl) ?_
    refine q_nil ?_
    rintro _ rfl
    refine then_normal ?_
    refine wp_seq ?_
    refine cond_split rfl (fun hc13 => ?_) (fun hc13 => ?_)
    · have hlt : k < l.length := by simp at hc13; omega
      obtain ⟨x, hx⟩ := get_lt hlt
      obtain ⟨b1, o1, rfl, _⟩ := (hA.ext hX).at_ hlt
      have m1 := smp_bd (show k ≤ 1000 by omega) hcb
      have m2 := smp_bd (show k + 1 ≤ 1000 by omega) hcb
      rw [Int.natCast_add, Int.natCast_one] at m2
      refine wp_skip ?_
      refine then_normal ?_
      refine wp_seq ?_
      refine wp_block ?_
      refine wp_seq ?_
      refine region_s ?_
      refine q_look (look_move rfl rfl) ?_
      refine q_look (look_indexAddr _ Try.underlying40 szTry_9 rfl rfl rfl rfl rfl (by omega)) ?_
      refine q_look (look_load1 Try.underlying9 rfl rfl rfl (eqc (((hA.ext hX).rd k x hx) 0 _ rfl))) ?_
      refine q_look (look_assign rfl rfl) ?_
      refine q_look (look_assign rfl rfl) ?_
      refine q_nil ?_
      rintro _ rfl
      refine then_normal ?_
      refine wp_seq ?_
      refine region_s ?_
      refine q_look (look_move rfl rfl) ?_
      refine q_look (look_add rfl rfl rfl rfl (by unfold I64; omega)) ?_
      refine q_look (look_move rfl rfl) ?_
      refine q_look (look_mul rfl rfl rfl rfl (by unfold I64; omega)) ?_
      refine q_look (look_quo rfl rfl rfl rfl (by omega) (by omega) (by omega)) ?_
      refine q_look (look_move rfl rfl) ?_
      refine q_look (look_move rfl rfl) ?_
      refine q_look (look_mul rfl rfl rfl rfl (by unfold I64; omega)) ?_
      refine q_look (look_quo rfl rfl rfl rfl (by omega) (by omega) (by omega)) ?_
      refine q_look (look_gtr rfl rfl rfl rfl) ?_
      refine q_nil ?_
      rintro _ rfl
      refine then_normal ?_
      refine cond_split rfl (fun hc26 => ?_) (fun hc26 => ?_)
      · skip
        refine wp_region_lit ?_
        refine s_look (look_move rfl rfl) ?_
        refine s_look (look_move rfl rfl) ?_
        refine s_buildSlice (parts := [(0, .tmp 28)]) (vs := [(0, _)]) (cells := scell x) Try.underlying40 szTry_9 zeTry_9 rfl rfl ⟨⟨_, rfl, rfl⟩, trivial⟩ rfl (by kernel_rfl) ?_
        intro g1 u1 hu1 hB1 hg1 hs1
        have ne_hO_g1 : (Value.ownBlock (v)) ≠ some g1 := hO.ne_new (by omega)
        have ge_g1 : w.heap.size ≤ g1 := by have := hX.size; omega
        replace hX := hX.comp hu1
        replace hO := hO.ext hu1
        have hsz2 := hX.size
        refine s_appendL (ce := scell) (news := [x]) Try.underlying40 zsbTry_9 rfl rfl rfl hO rfl (Blk.src (x := x) rfl (by simp [scell, Value.oneCell']) hB1) (by simp only [List.length_cons, List.length_nil]; rw [maxLen_is]; omega) (by simp only [List.length_cons, List.length_nil]; omega) (by omega) ?_
        intro v2 u2 hN2 hgr2 hat2
        replace hX := hX.grow hO (Nat.le_refl _) hgr2
        clear hO
        have hO := hN2
        refine s_look (look_assign rfl rfl) ?_
        refine s_nil ?_
        refine inB_normal ?_
        refine then_normal ?_
        refine region_s ?_
        refine q_look (look_add rfl rfl rfl rfl (by unfold I64; omega)) ?_
        refine q_look (look_move rfl rfl) ?_
        refine q_nil ?_
        rintro _ rfl
        exact loop_end ((k + 1, v2, (r ++ [x]))) (by simp only []; omega) ⟨rfl, rfl, rfl, rfl, rfl, trivial⟩ ⟨hX, hO, by omega, by simp; omega, by rw [← hr, drop_get hx, smp, if_pos hc26]; simp⟩
      · skip
        refine wp_skip ?_
        refine inB_normal ?_
        refine then_normal ?_
        refine region_s ?_
        refine q_look (look_add rfl rfl rfl rfl (by unfold I64; omega)) ?_
        refine q_look (look_move rfl rfl) ?_
        refine q_nil ?_
        rintro _ rfl
        exact loop_end ((k + 1, v, r)) (by simp only []; omega) ⟨rfl, rfl, rfl, rfl, rfl, trivial⟩ ⟨hX, hO, by omega, by show r.length ≤ k + 1; omega, by rw [← hr, drop_get hx, smp, if_neg (by rw [hc26]; decide)]⟩
    · have hge : ¬ k < l.length := by simp at hc13; omega
      refine wp_exit ?_
      refine then_exit ?_
      refine then_exit ?_
      refine inB_exit_same ?_
      refine then_normal ?_
      refine wp_seq ?_
      refine region_s ?_
      refine q_look (look_move rfl rfl) ?_
      refine q_look (look_assign rfl rfl) ?_
      refine q_nil ?_
      rintro _ rfl
      refine then_normal ?_
      refine wp_ret ?_
      exact res1 Try.results22 rfl ⟨_, rfl, hX, hO.as (by rw [List.drop_eq_nil_of_le (by omega)] at hr; simpa [smp, sampleP] using hr)⟩

theorem refsample_any (l : List ByteArray) (A : Option Addr) (cap : Nat) (p : Int) (w : World) (hA : Sl scell 1 w A l) (hla : l.length ≤ 999) :
    Calls Try.prog 23 #[.slice A l.length cap, .int .i64 p] w fun e w' => ∃ v, e = .returned v ∧ Ext w w' ∧ Own scell 9 1 w.heap.size w' v (sampleP l p) := by
  refine calls_act Try.func23 rfl Try.ntmps23 rfl rfl ?_
  show Code.wp _ _ _ (act 34 [(0, true, .slice A l.length cap), (1, true, .int .i64 p)] _) _
  have hX : Ext w w := Ext.rfl' w
  refine wp_seq ?_
  refine region_s ?_
  refine q_look (look_assign rfl rfl) ?_
  refine q_nil ?_
  rintro _ rfl
  refine then_normal ?_
  refine wp_seq ?_
  refine region_q ?_
  refine q_look (look_move rfl rfl) ?_
  refine q_call (vs := [_]) enTry_31 ⟨⟨_, rfl, rfl⟩, trivial⟩ (fun wc hw => cext hw (cut_any p wc)) ?_
  refine q_look (look_assign rfl rfl) ?_
  refine q_nil ?_
  intro w1 hw1
  replace hX := hX.comp hw1
  refine then_normal ?_
  refine wp_seq ?_
  refine region_s ?_
  refine q_look (look_assign rfl rfl) ?_
  refine q_nil ?_
  rintro _ rfl
  refine then_normal ?_
  refine wp_seq ?_
  refine wp_seq ?_
  refine region_s ?_
  refine q_look (look_assign rfl rfl) ?_
  refine q_nil ?_
  rintro _ rfl
  have hO := Own.nil scell 9 1 w.heap.size w
  refine then_normal ?_
  refine wp_block ?_
  refine loop_act (fun (ls : Nat × Value × List ByteArray) => [(0, .slice A l.length cap), (5, .int .i64 (cutP p)), (6, ls.2.1), (7, .int .i64 (ls.1 : Int))]) (fun ls w' => (Ext w w') ∧ (Own scell 9 1 w.heap.size w' ls.2.1 ls.2.2) ∧ (ls.1 ≤ l.length) ∧ (ls.2.2.length ≤ ls.1) ∧ (ls.2.2 ++ smp (cutP p) ls.1 (l.drop ls.1) = smp (cutP p) 0 l)) (fun ls => l.length - ls.1) ((0, .slice none 0 0, [])) ?_ ?_ ?_
  · exact ⟨rfl, rfl, rfl, rfl, trivial⟩
  · exact ⟨hX, (Own.nil _ _ _ _ _), Nat.zero_le _, by simp, rfl⟩
  · rintro ⟨k, v, r⟩ σ wr hF
    obtain ⟨hX, hO, hk, hrl, hr⟩ : (Ext w wr) ∧ (Own scell 9 1 w.heap.size wr v r) ∧ (k ≤ l.length) ∧ (r.length ≤ k) ∧ (r ++ smp (cutP p) k (l.drop k) = smp (cutP p) 0 l) := hF
    have hcb := cut_bd p
    show Code.wp _ _ _ (act 34 [(0, true, .slice A l.length cap), (5, true, .int .i64 (cutP p)), (6, true, v), (7, true, .int .i64 (k : Int))] _) _
    refine wp_seq ?_
    refine wp_seq ?_
    refine region_s ?_
    refine q_look (look_move rfl rfl) ?_
    refine q_look (look_move rfl rfl) ?_
    refine q_look (look_len_slice Try.underlying40 rfl rfl) ?_
    refine q_look (look_lss rfl rfl rfl rfl) ?_
    refine q_nil ?_
    rintro _ rfl
    refine then_normal ?_
    refine cond_split rfl (fun hc13 => ?_) (fun hc13 => ?_)
    · have hlt : k < l.length := by simp at hc13; omega
      obtain ⟨x, hx⟩ := get_lt hlt
      obtain ⟨b1, o1, rfl, _⟩ := (hA.ext hX).at_ hlt
      have m1 := smp_bd (show k ≤ 1000 by omega) hcb
      have m2 := smp_bd (show k + 1 ≤ 1000 by omega) hcb
      rw [Int.natCast_add, Int.natCast_one] at m2
      refine wp_skip ?_
      refine then_normal ?_
      refine wp_seq ?_
      refine wp_block ?_
      refine wp_seq ?_
      refine region_s ?_
      refine q_look (look_move rfl rfl) ?_
      refine q_look (look_add rfl rfl rfl rfl (by unfold I64; omega)) ?_
      refine q_look (look_move rfl rfl) ?_
      refine q_look (look_mul rfl rfl rfl rfl (by unfold I64; omega)) ?_
      refine q_look (look_quo rfl rfl rfl rfl (by omega) (by omega) (by omega)) ?_
      refine q_look (look_move rfl rfl) ?_
      refine q_look (look_move rfl rfl) ?_
      refine q_look (look_mul rfl rfl rfl rfl (by unfold I64; omega)) ?_
      refine q_look (look_quo rfl rfl rfl rfl (by omega) (by omega) (by omega)) ?_
      refine q_look (look_gtr rfl rfl rfl rfl) ?_
      refine q_nil ?_
      rintro _ rfl
      refine then_normal ?_
      refine cond_split rfl (fun hc25 => ?_) (fun hc25 => ?_)
      · skip
        refine wp_region_lit ?_
        refine s_look (look_move rfl rfl) ?_
        refine s_look (look_move rfl rfl) ?_
        refine s_look (look_move rfl rfl) ?_
        refine s_look (look_indexAddr _ Try.underlying40 szTry_9 rfl rfl rfl rfl rfl (by omega)) ?_
        refine s_look (look_load1 Try.underlying9 rfl rfl rfl (eqc (((hA.ext hX).rd k x hx) 0 _ rfl))) ?_
        refine s_buildSlice (parts := [(0, .tmp 30)]) (vs := [(0, _)]) (cells := scell x) Try.underlying40 szTry_9 zeTry_9 rfl rfl ⟨⟨_, rfl, rfl⟩, trivial⟩ rfl (by kernel_rfl) ?_
        intro g1 u1 hu1 hB1 hg1 hs1
        have ne_hO_g1 : (Value.ownBlock (v)) ≠ some g1 := hO.ne_new (by omega)
        have ge_g1 : w.heap.size ≤ g1 := by have := hX.size; omega
        replace hX := hX.comp hu1
        replace hO := hO.ext hu1
        have hsz2 := hX.size
        refine s_appendL (ce := scell) (news := [x]) Try.underlying40 zsbTry_9 rfl rfl rfl hO rfl (Blk.src (x := x) rfl (by simp [scell, Value.oneCell']) hB1) (by simp only [List.length_cons, List.length_nil]; rw [maxLen_is]; omega) (by simp only [List.length_cons, List.length_nil]; omega) (by omega) ?_
        intro v2 u2 hN2 hgr2 hat2
        replace hX := hX.grow hO (Nat.le_refl _) hgr2
        clear hO
        have hO := hN2
        refine s_look (look_assign rfl rfl) ?_
        refine s_nil ?_
        refine inB_normal ?_
        refine then_normal ?_
        refine region_s ?_
        refine q_look (look_move rfl rfl) ?_
        refine q_look (look_add rfl rfl rfl rfl (by unfold I64; omega)) ?_
        refine q_look (look_assign rfl rfl) ?_
        refine q_nil ?_
        rintro _ rfl
        exact loop_end ((k + 1, v2, (r ++ [x]))) (by simp only []; omega) ⟨rfl, rfl, rfl, rfl, trivial⟩ ⟨hX, hO, by omega, by simp; omega, by rw [← hr, drop_get hx, smp, if_pos hc25]; simp⟩
      · skip
        refine wp_skip ?_
        refine inB_normal ?_
        refine then_normal ?_
        refine region_s ?_
        refine q_look (look_move rfl rfl) ?_
        refine q_look (look_add rfl rfl rfl rfl (by unfold I64; omega)) ?_
        refine q_look (look_assign rfl rfl) ?_
        refine q_nil ?_
        rintro _ rfl
        exact loop_end ((k + 1, v, r)) (by simp only []; omega) ⟨rfl, rfl, rfl, rfl, trivial⟩ ⟨hX, hO, by omega, by show r.length ≤ k + 1; omega, by rw [← hr, drop_get hx, smp, if_neg (by rw [hc25]; decide)]⟩
    · have hge : ¬ k < l.length := by simp at hc13; omega
      refine wp_exit ?_
      refine then_exit ?_
      refine then_exit ?_
      refine inB_exit_same ?_
      refine then_normal ?_
      refine wp_seq ?_
      refine region_s ?_
      refine q_look (look_move rfl rfl) ?_
      refine q_look (look_assign rfl rfl) ?_
      refine q_nil ?_
      rintro _ rfl
      refine then_normal ?_
      refine wp_ret ?_
      exact res1 Try.results23 rfl ⟨_, rfl, hX, hO.as (by rw [List.drop_eq_nil_of_le (by omega)] at hr; simpa [smp, sampleP] using hr)⟩

end Go.Proofs.Ytobgfnlfbjodjaa
