/- The walks of chapter 47 (outfit), first part: lists of strings, packages. -/
import Derived.Test.YtldgigjapifagaaRows
import Derived.Test.YtldgigjapifagaaMaps
namespace Go.Proofs.Ytldgigjapifagaa
open Go Go.RowKit Core
set_option linter.unusedVariables false
set_option linter.unusedSimpArgs false
attribute [local irreducible] wpQuiet wpList wpH wpT Code.wp Calls bodyPost act

theorem mixed : Try.prog.follows .mixedOrders = true := by kernel_rfl
theorem enTry_3 : Enters Try.prog 3 := enters_of Try.func3 (by kernel_rfl) rfl
theorem enTry_4 : Enters Try.prog 4 := enters_of Try.func4 (by kernel_rfl) rfl
theorem enTry_5 : Enters Try.prog 5 := enters_of Try.func5 (by kernel_rfl) rfl
theorem enTry_6 : Enters Try.prog 6 := enters_of Try.func6 (by kernel_rfl) rfl
theorem enTry_7 : Enters Try.prog 7 := enters_of Try.func7 (by kernel_rfl) rfl
theorem enTry_8 : Enters Try.prog 8 := enters_of Try.func8 (by kernel_rfl) rfl
theorem enTry_9 : Enters Try.prog 9 := enters_of Try.func9 (by kernel_rfl) rfl
theorem enTry_10 : Enters Try.prog 10 := enters_of Try.func10 (by kernel_rfl) rfl
theorem enTry_11 : Enters Try.prog 11 := enters_of Try.func11 (by kernel_rfl) rfl
theorem enTry_12 : Enters Try.prog 12 := enters_of Try.func12 (by kernel_rfl) rfl
theorem enTry_13 : Enters Try.prog 13 := enters_of Try.func13 (by kernel_rfl) rfl
theorem enTry_14 : Enters Try.prog 14 := enters_of Try.func14 (by kernel_rfl) rfl
theorem enTry_15 : Enters Try.prog 15 := enters_of Try.func15 (by kernel_rfl) rfl
theorem enTry_16 : Enters Try.prog 16 := enters_of Try.func16 (by kernel_rfl) rfl
theorem enTry_17 : Enters Try.prog 17 := enters_of Try.func17 (by kernel_rfl) rfl
theorem enTry_18 : Enters Try.prog 18 := enters_of Try.func18 (by kernel_rfl) rfl
theorem enTry_19 : Enters Try.prog 19 := enters_of Try.func19 (by kernel_rfl) rfl
theorem enTry_20 : Enters Try.prog 20 := enters_of Try.func20 (by kernel_rfl) rfl
theorem enTry_21 : Enters Try.prog 21 := enters_of Try.func21 (by kernel_rfl) rfl
theorem enTry_22 : Enters Try.prog 22 := enters_of Try.func22 (by kernel_rfl) rfl
theorem enTry_23 : Enters Try.prog 23 := enters_of Try.func23 (by kernel_rfl) rfl
theorem enTry_24 : Enters Try.prog 24 := enters_of Try.func24 (by kernel_rfl) rfl
theorem enTry_25 : Enters Try.prog 25 := enters_of Try.func25 (by kernel_rfl) rfl
theorem enTry_26 : Enters Try.prog 26 := enters_of Try.func26 (by kernel_rfl) rfl
theorem enTry_27 : Enters Try.prog 27 := enters_of Try.func27 (by kernel_rfl) rfl
theorem enTry_28 : Enters Try.prog 28 := enters_of Try.func28 (by kernel_rfl) rfl
theorem enTry_29 : Enters Try.prog 29 := enters_of Try.func29 (by kernel_rfl) rfl
theorem enTry_30 : Enters Try.prog 30 := enters_of Try.func30 (by kernel_rfl) rfl
theorem enTry_31 : Enters Try.prog 31 := enters_of Try.func31 (by kernel_rfl) rfl
theorem enTry_32 : Enters Try.prog 32 := enters_of Try.func32 (by kernel_rfl) rfl
theorem enTry_33 : Enters Try.prog 33 := enters_of Try.func33 (by kernel_rfl) rfl
theorem enTry_34 : Enters Try.prog 34 := enters_of Try.func34 (by kernel_rfl) rfl
theorem enTry_35 : Enters Try.prog 35 := enters_of Try.func35 (by kernel_rfl) rfl
theorem enTry_36 : Enters Try.prog 36 := enters_of Try.func36 (by kernel_rfl) rfl
theorem enTry_37 : Enters Try.prog 37 := enters_of Try.func37 (by kernel_rfl) rfl
theorem enTry_38 : Enters Try.prog 38 := enters_of Try.func38 (by kernel_rfl) rfl
theorem enTry_39 : Enters Try.prog 39 := enters_of Try.func39 (by kernel_rfl) rfl
theorem enTry_40 : Enters Try.prog 40 := enters_of Try.func40 (by kernel_rfl) rfl
theorem enTry_41 : Enters Try.prog 41 := enters_of Try.func41 (by kernel_rfl) rfl
theorem enTry_42 : Enters Try.prog 42 := enters_of Try.func42 (by kernel_rfl) rfl
theorem enTry_43 : Enters Try.prog 43 := enters_of Try.func43 (by kernel_rfl) rfl
theorem enTry_44 : Enters Try.prog 44 := enters_of Try.func44 (by kernel_rfl) rfl
theorem enTry_45 : Enters Try.prog 45 := enters_of Try.func45 (by kernel_rfl) rfl
theorem enTry_46 : Enters Try.prog 46 := enters_of Try.func46 (by kernel_rfl) rfl
theorem enTry_47 : Enters Try.prog 47 := enters_of Try.func47 (by kernel_rfl) rfl
theorem szTry_3 : (Try.prog.info? 3).map (fun i => i.size) = some 1 := by kernel_rfl
theorem zeTry_3 : (Try.prog.info? 3).map (fun i => i.zero) = some (some (.int .i64 0)) := by kernel_rfl
theorem szTry_4 : (Try.prog.info? 4).map (fun i => i.size) = some 1 := by kernel_rfl
theorem zeTry_4 : (Try.prog.info? 4).map (fun i => i.zero) = some (some (.bool false)) := by kernel_rfl
theorem szTry_9 : (Try.prog.info? 9).map (fun i => i.size) = some 1 := by kernel_rfl
theorem zeTry_9 : (Try.prog.info? 9).map (fun i => i.zero) = some (some (.string ⟨#[]⟩)) := by kernel_rfl
theorem szTry_25 : (Try.prog.info? 25).map (fun i => i.size) = some 1 := by kernel_rfl
theorem zeTry_25 : (Try.prog.info? 25).map (fun i => i.zero) = some (some (.slice none 0 0)) := by kernel_rfl
theorem szTry_28 : (Try.prog.info? 28).map (fun i => i.size) = some 6 := by kernel_rfl
theorem zeTry_28 : (Try.prog.info? 28).map (fun i => i.zero) = some (some (.agg #[.string ⟨#[]⟩, .slice none 0 0, .slice none 0 0, .slice none 0 0, .slice none 0 0, .slice none 0 0])) := by kernel_rfl
theorem szTry_31 : (Try.prog.info? 31).map (fun i => i.size) = some 1 := by kernel_rfl
theorem zeTry_31 : (Try.prog.info? 31).map (fun i => i.zero) = some (some (.slice none 0 0)) := by kernel_rfl
theorem szTry_46 : (Try.prog.info? 46).map (fun i => i.size) = some 2 := by kernel_rfl
theorem zeTry_46 : (Try.prog.info? 46).map (fun i => i.zero) = some (some (.agg #[.string ⟨#[]⟩, .string ⟨#[]⟩])) := by kernel_rfl
theorem szTry_48 : (Try.prog.info? 48).map (fun i => i.size) = some 5 := by kernel_rfl
theorem zeTry_48 : (Try.prog.info? 48).map (fun i => i.zero) = some (some (.agg #[.string ⟨#[]⟩, .string ⟨#[]⟩, .slice none 0 0, .int .i64 0, .slice none 0 0])) := by kernel_rfl
theorem szTry_57 : (Try.prog.info? 57).map (fun i => i.size) = some 1 := by kernel_rfl
theorem zeTry_57 : (Try.prog.info? 57).map (fun i => i.zero) = some (some (.slice none 0 0)) := by kernel_rfl
theorem szTry_60 : (Try.prog.info? 60).map (fun i => i.size) = some 1 := by kernel_rfl
theorem zeTry_60 : (Try.prog.info? 60).map (fun i => i.zero) = some (some (.map none)) := by kernel_rfl
theorem zsbTry_3 : (Try.prog.info? 3).map (fun i => (i.zero, i.size, i.bytes)) = some (some (.int .i64 0), 1, 8) := by kernel_rfl
theorem zsbTry_4 : (Try.prog.info? 4).map (fun i => (i.zero, i.size, i.bytes)) = some (some (.bool false), 1, 1) := by kernel_rfl
theorem zsbTry_9 : (Try.prog.info? 9).map (fun i => (i.zero, i.size, i.bytes)) = some (some (.string ⟨#[]⟩), 1, 16) := by kernel_rfl

def scell (x : ByteArray) : List Value := [.string x]
def icell (x : Int) : List Value := [.int .i64 x]
def bocell (b : Bool) : List Value := [.bool b]
structure Pk where
  id : ByteArray
  block : ByteArray
  pA : Option Addr
  pn : Nat
  pc : Nat
  hours : Int
  A : Option Addr
  after : List ByteArray
  cap : Nat
def pcell (p : Pk) : List Value := [.string p.id, .string p.block, .slice p.pA p.pn p.pc, .int .i64 p.hours, .slice p.A p.after.length p.cap]
theorem hce_s : ∀ x, (scell x).length = 1 := fun _ => rfl
theorem hce_i : ∀ x, (icell x).length = 1 := fun _ => rfl
theorem hce_bo : ∀ x, (bocell x).length = 1 := fun _ => rfl
theorem hce_p : ∀ x, (pcell x).length = 5 := fun _ => rfl
def POk (w : World) (p : Pk) : Prop := Sl scell 1 w p.A p.after ∧ p.after.length ≤ maxLen ∧ I64 p.hours
theorem POk.ext {w w' : World} {p : Pk} (h : POk w p) (e : Ext w w') : POk w' p := ⟨h.1.ext e, h.2⟩
/-- The packages of a design. -/
structure DOk (w : World) (pA : Option Addr) (ps : List Pk) : Prop where
  sl : Sl pcell 5 w pA ps
  ok : ∀ p ∈ ps, POk w p
  len : ps.length ≤ maxLen
theorem DOk.ext {w w' : World} {pA : Option Addr} {ps : List Pk} (h : DOk w pA ps) (e : Ext w w') : DOk w' pA ps := ⟨h.sl.ext e, fun p hp => (h.ok p hp).ext e, h.len⟩
theorem all_same {α : Type} {a b : List α} (h : a.length = b.length) (h2 : a.take a.length = b.take a.length) : a = b := by
  rw [List.take_length, h, List.take_length] at h2; exact h2
theorem not_same {α : Type} {a b : List α} {k : Nat} {x y : α} (hx : a[k]? = some x) (hy : b[k]? = some y) (hne : x ≠ y) : a ≠ b := by
  intro e; subst e; rw [hx] at hy; exact hne (Option.some.inj hy)
/-- The place of the first element of which q holds, counted from k; -1 if there is none. -/
def fiG {α : Type} (q : α → Bool) : List α → Int → Int
  | [], _ => -1
  | y :: r, k => if q y = true then k else fiG q r (k + 1)
theorem fiG_ge {α : Type} (q : α → Bool) : ∀ (l : List α) (k : Int), 0 ≤ k → (decide (0 ≤ fiG q l k) = l.any q)
  | [], k, hk => rfl
  | y :: r, k, hk => by
    unfold fiG
    by_cases h : q y = true
    · rw [if_pos h]; simp [h, hk]
    · rw [if_neg h, fiG_ge q r (k + 1) (by omega)]; simp [h]
theorem fiG_bd {α : Type} (q : α → Bool) : ∀ (l : List α) (k : Int), -1 ≤ k → fiG q l k = -1 ∨ (k ≤ fiG q l k ∧ fiG q l k < k + (l.length : Int))
  | [], k, hk => .inl rfl
  | y :: r, k, hk => by
    unfold fiG
    split
    · right; simp only [List.length_cons]; omega
    · rcases fiG_bd q r (k + 1) (by omega) with h | h
      · exact .inl h
      · right; simp only [List.length_cons]; omega
theorem fiG_congr {α : Type} {q q' : α → Bool} : ∀ (l : List α) (k : Int), (∀ x ∈ l, q x = q' x) → fiG q l k = fiG q' l k
  | [], k, h => rfl
  | y :: r, k, h => by
    unfold fiG
    rw [h y (.head _), fiG_congr r (k + 1) (fun x hx => h x (.tail _ hx))]
instance memDec (x : ByteArray) (l : List ByteArray) : Decidable (x ∈ l) := decidable_of_iff ((l.any fun y => decide (x = y)) = true) (by
  rw [List.any_eq_true]
  exact ⟨fun ⟨y, h1, h2⟩ => by rw [of_decide_eq_true h2]; exact h1, fun h => ⟨x, h, decide_eq_true rfl⟩⟩)
theorem any_mem (x : ByteArray) (l : List ByteArray) : (l.any fun y => decide (x = y)) = decide (x ∈ l) := by
  rw [Bool.eq_iff_iff, List.any_eq_true, decide_eq_true_eq]
  exact ⟨fun ⟨y, h1, h2⟩ => by rw [of_decide_eq_true h2]; exact h1, fun h => ⟨x, h, decide_eq_true rfl⟩⟩
def findP (id : ByteArray) (ps : List Pk) : Int := fiG (fun p => decide (p.id = id)) ps 0
def hrs (p : Pk) : Int := if p.hours < 0 ∨ 10000 < p.hours then 0 else p.hours
theorem hrs_bd (p : Pk) : 0 ≤ hrs p ∧ hrs p ≤ 10000 := by unfold hrs; split <;> omega
def allP (b : ByteArray) : List Pk → Int
  | [] => 0
  | p :: r => (if p.block = b then hrs p else 0) + allP b r
def leftP (dn : List ByteArray) (b : ByteArray) : List Pk → Int
  | [] => 0
  | p :: r => (if p.block = b ∧ ¬ p.id ∈ dn then hrs p else 0) + leftP dn b r
theorem all_bd (b : ByteArray) : ∀ ps : List Pk, 0 ≤ allP b ps ∧ allP b ps ≤ 10000 * (ps.length : Int)
  | [] => by simp [allP]
  | p :: r => by
    have := all_bd b r
    have := hrs_bd p
    simp only [allP, List.length_cons]
    split <;> omega
theorem left_bd (dn : List ByteArray) (b : ByteArray) : ∀ ps : List Pk, 0 ≤ leftP dn b ps ∧ leftP dn b ps ≤ allP b ps
  | [] => by simp [leftP, allP]
  | p :: r => by
    have := left_bd dn b r
    have := hrs_bd p
    simp only [leftP, allP]
    by_cases hb : p.block = b
    · rw [if_pos hb]; split <;> omega
    · rw [if_neg hb, if_neg (fun h => hb h.1)]; omega
def pctP (dn : List ByteArray) (b : ByteArray) (ps : List Pk) : Int := if allP b ps = 0 then 100 else 100 * (allP b ps - leftP dn b ps) / allP b ps
def readyP (dn : List ByteArray) (id : ByteArray) (ps : List Pk) : Int :=
  if findP id ps < 0 then 8 else if id ∈ dn then 14 else if ((ps.getD (findP id ps).toNat ⟨⟨#[]⟩, ⟨#[]⟩, none, 0, 0, 0, none, [], 0⟩).after.any fun x => !decide (x ∈ dn)) = true then 28 else 0
theorem findP_bd (id : ByteArray) (ps : List Pk) : findP id ps = -1 ∨ (0 ≤ findP id ps ∧ findP id ps < (ps.length : Int)) := by
  rcases fiG_bd (fun p => decide (p.id = id)) ps 0 (by omega) with h | h
  · exact .inl h
  · right; unfold findP; omega

theorem index_s (l : List ByteArray) (A : Option Addr) (c : Nat) (x0 : ByteArray) (w : World) (hA : Sl scell 1 w A l) (hla : l.length ≤ maxLen) :
    Calls Try.prog 45 #[.slice A l.length c, .string x0] w fun e w' => e = .returned (.int .i64 (fiG (fun y => decide (x0 = y)) l 0)) ∧ Ext w w' := by
  refine calls_act Try.func45 rfl Try.ntmps45 rfl rfl ?_
  show Code.wp _ _ _ (act 19 [(0, true, .slice A l.length c), (1, true, .string x0)] _) _
  have hX : Ext w w := Ext.rfl' w
  refine wp_seq ?_
  refine region_s ?_
  refine q_look (look_assign rfl rfl) ?_
  refine q_nil ?_
  rintro _ rfl
  refine then_normal ?_
  refine wp_seq ?_
  refine wp_seq ?_
  refine region_s ?_
  refine q_look (look_move rfl rfl) ?_
  refine q_look (look_len_slice Try.underlying31 rfl rfl) ?_
  refine q_look (look_move rfl rfl) ?_
  refine q_nil ?_
  rintro _ rfl
  refine then_normal ?_
  refine wp_block ?_
  refine loop_act (fun (k : Nat) => [(0, .slice A l.length c), (1, .string x0), (7, .int .i64 (l.length : Int)), (8, .int .i64 (k : Int))]) (fun k w' => (Ext w w') ∧ (k ≤ l.length) ∧ (fiG (fun y => decide (x0 = y)) l 0 = fiG (fun y => decide (x0 = y)) (l.drop k) (k : Int))) (fun k => l.length - k) (0) ?_ ?_ ?_
  · exact ⟨rfl, rfl, rfl, rfl, trivial⟩
  · exact ⟨hX, Nat.zero_le _, rfl⟩
  · rintro k σ wr hF
    obtain ⟨hX, hk, hf⟩ : (Ext w wr) ∧ (k ≤ l.length) ∧ (fiG (fun y => decide (x0 = y)) l 0 = fiG (fun y => decide (x0 = y)) (l.drop k) (k : Int)) := hF
    show Code.wp _ _ _ (act 19 [(0, true, .slice A l.length c), (1, true, .string x0), (7, true, .int .i64 (l.length : Int)), (8, true, .int .i64 (k : Int))] _) _
    refine wp_seq ?_
    refine region_s ?_
    refine q_look (look_lss rfl rfl rfl rfl) ?_
    refine q_nil ?_
    rintro _ rfl
    refine then_normal ?_
    refine wp_seq ?_
    refine cond_split rfl (fun hc9 => ?_) (fun hc9 => ?_)
    · have hlt : k < l.length := by have := nn_t hc9; omega
      obtain ⟨x, hxx⟩ := get_lt hlt
      obtain ⟨bx, ox, rfl, _⟩ := (hA.ext hX).at_ hlt
      refine wp_skip ?_
      refine then_normal ?_
      refine wp_seq ?_
      refine wp_block ?_
      refine wp_seq ?_
      refine region_s ?_
      refine q_look (look_move rfl rfl) ?_
      refine q_look (look_assign rfl rfl) ?_
      refine q_nil ?_
      rintro _ rfl
      refine then_normal ?_
      refine wp_seq ?_
      refine region_s ?_
      refine q_look (look_move rfl rfl) ?_
      refine q_look (look_move rfl rfl) ?_
      refine q_look (look_move rfl rfl) ?_
      refine q_look (look_indexAddr _ Try.underlying31 szTry_9 rfl rfl rfl rfl rfl (by omega)) ?_
      refine q_look (look_load1 Try.underlying9 rfl rfl rfl (eqc (((hA.ext hX).rd k x hxx) 0 _ rfl))) ?_
      refine q_look (look_eql_str rfl rfl rfl rfl) ?_
      refine q_nil ?_
      rintro _ rfl
      refine then_normal ?_
      refine cond_split rfl (fun hc16 => ?_) (fun hc16 => ?_)
      · have hq0 : (fun y => decide (x0 = y)) x = true := hc16
        refine wp_seq ?_
        refine region_s ?_
        refine q_look (look_move rfl rfl) ?_
        refine q_look (look_assign rfl rfl) ?_
        refine q_nil ?_
        rintro _ rfl
        refine then_normal ?_
        refine wp_ret ?_
        refine inB_ret ?_
        refine then_ret ?_
        refine then_ret ?_
        refine inB_ret ?_
        refine then_ret ?_
        exact res1 Try.results45 rfl ⟨ret_int (by rw [hf, drop_get hxx, fiG, if_pos hq0]), hX⟩
      · have hq0 : ¬ (fun y => decide (x0 = y)) x = true := by rw [show (fun y => decide (x0 = y)) x = false from hc16]; decide
        refine wp_skip ?_
        refine inB_normal ?_
        refine then_normal ?_
        refine region_s ?_
        refine q_look (look_add rfl rfl rfl rfl (by have := maxLen_is; unfold I64; omega)) ?_
        refine q_look (look_move rfl rfl) ?_
        refine q_nil ?_
        rintro _ rfl
        exact loop_end (k + 1) (by omega) ⟨rfl, rfl, rfl, rfl, trivial⟩ ⟨hX, by omega, by rw [hf, drop_get hxx, fiG, if_neg hq0]; rfl⟩
    · have hge : ¬ k < l.length := by have := nn_f hc9; omega
      refine wp_exit ?_
      refine then_exit ?_
      refine then_exit ?_
      refine inB_exit_same ?_
      refine then_normal ?_
      refine wp_seq ?_
      refine region_s ?_
      refine q_look (look_assign rfl rfl) ?_
      refine q_nil ?_
      rintro _ rfl
      refine then_normal ?_
      refine wp_ret ?_
      exact res1 Try.results45 rfl ⟨ret_int (by rw [hf, List.drop_eq_nil_of_le (by omega)]; rfl), hX⟩

theorem contains_s (l : List ByteArray) (A : Option Addr) (c : Nat) (x0 : ByteArray) (w : World) (hA : Sl scell 1 w A l) (hla : l.length ≤ maxLen) :
    Calls Try.prog 35 #[.slice A l.length c, .string x0] w fun e w' => e = .returned (.bool (decide (x0 ∈ l))) ∧ Ext w w' := by
  refine calls_act Try.func35 rfl Try.ntmps35 rfl rfl ?_
  show Code.wp _ _ _ (act 9 [(0, true, .slice A l.length c), (1, true, .string x0)] _) _
  have hX : Ext w w := Ext.rfl' w
  refine wp_seq ?_
  refine region_s ?_
  refine q_look (look_assign rfl rfl) ?_
  refine q_nil ?_
  rintro _ rfl
  refine then_normal ?_
  refine wp_seq ?_
  refine region_q ?_
  refine q_look (look_move rfl rfl) ?_
  refine q_look (look_move rfl rfl) ?_
  refine q_call (vs := [_, _]) enTry_45 ⟨⟨_, rfl, rfl⟩, ⟨_, rfl, rfl⟩, trivial⟩ (fun wc hw => cext hw (index_s l A c x0 wc (hA.ext (hX.comp hw)) hla)) ?_
  refine q_look (look_geq rfl rfl rfl rfl) ?_
  refine q_look (look_assign rfl rfl) ?_
  refine q_nil ?_
  intro w1 hw1
  replace hX := hX.comp hw1
  refine then_normal ?_
  refine wp_ret ?_
  exact res1 Try.results35 rfl ⟨ret_bool ((fiG_ge _ l 0 (by omega)).trans (any_mem x0 l)), hX⟩

theorem has_any (l : List ByteArray) (A : Option Addr) (c : Nat) (x0 : ByteArray) (w : World) (hA : Sl scell 1 w A l) (hla : l.length ≤ maxLen) :
    Calls Try.prog 27 #[.slice A l.length c, .string x0] w fun e w' => e = .returned (.bool (decide (x0 ∈ l))) ∧ Ext w w' := by
  refine calls_act Try.func27 rfl Try.ntmps27 rfl rfl ?_
  show Code.wp _ _ _ (act 18 [(0, true, .slice A l.length c), (1, true, .string x0)] _) _
  have hX : Ext w w := Ext.rfl' w
  refine wp_seq ?_
  refine region_s ?_
  refine q_look (look_assign rfl rfl) ?_
  refine q_nil ?_
  rintro _ rfl
  refine then_normal ?_
  refine wp_seq ?_
  refine wp_seq ?_
  refine region_s ?_
  refine q_look (look_assign rfl rfl) ?_
  refine q_nil ?_
  rintro _ rfl
  refine then_normal ?_
  refine wp_block ?_
  refine loop_act (fun (k : Nat) => [(0, .slice A l.length c), (1, .string x0), (5, .int .i64 (k : Int))]) (fun k w' => (Ext w w') ∧ (k ≤ l.length) ∧ (decide (x0 ∈ l) = decide (x0 ∈ l.drop k))) (fun k => l.length - k) (0) ?_ ?_ ?_
  · exact ⟨rfl, rfl, rfl, trivial⟩
  · exact ⟨hX, Nat.zero_le _, rfl⟩
  · rintro k σ wr hF
    obtain ⟨hX, hk, hf⟩ : (Ext w wr) ∧ (k ≤ l.length) ∧ (decide (x0 ∈ l) = decide (x0 ∈ l.drop k)) := hF
    show Code.wp _ _ _ (act 18 [(0, true, .slice A l.length c), (1, true, .string x0), (5, true, .int .i64 (k : Int))] _) _
    refine wp_seq ?_
    refine wp_seq ?_
    refine region_s ?_
    refine q_look (look_move rfl rfl) ?_
    refine q_look (look_move rfl rfl) ?_
    refine q_look (look_len_slice Try.underlying31 rfl rfl) ?_
    refine q_look (look_lss rfl rfl rfl rfl) ?_
    refine q_nil ?_
    rintro _ rfl
    refine then_normal ?_
    refine cond_split rfl (fun hc9 => ?_) (fun hc9 => ?_)
    · have hlt : k < l.length := by have := nn_t hc9; omega
      obtain ⟨x, hxx⟩ := get_lt hlt
      obtain ⟨bx, ox, rfl, _⟩ := (hA.ext hX).at_ hlt
      refine wp_skip ?_
      refine then_normal ?_
      refine wp_seq ?_
      refine wp_block ?_
      refine wp_seq ?_
      refine region_s ?_
      refine q_look (look_move rfl rfl) ?_
      refine q_look (look_move rfl rfl) ?_
      refine q_look (look_indexAddr _ Try.underlying31 szTry_9 rfl rfl rfl rfl rfl (by omega)) ?_
      refine q_look (look_load1 Try.underlying9 rfl rfl rfl (eqc (((hA.ext hX).rd k x hxx) 0 _ rfl))) ?_
      refine q_look (look_move rfl rfl) ?_
      refine q_look (look_eql_str rfl rfl rfl rfl) ?_
      refine q_nil ?_
      rintro _ rfl
      refine then_normal ?_
      refine cond_split rfl (fun hc17 => ?_) (fun hc17 => ?_)
      · have hq0 : x = x0 := nn_t hc17
        refine wp_seq ?_
        refine region_s ?_
        refine q_look (look_assign rfl rfl) ?_
        refine q_nil ?_
        rintro _ rfl
        refine then_normal ?_
        refine wp_ret ?_
        refine inB_ret ?_
        refine then_ret ?_
        refine then_ret ?_
        refine inB_ret ?_
        refine then_ret ?_
        exact res1 Try.results27 rfl ⟨ret_bool (by rw [hf, drop_get hxx, hq0]; simp), hX⟩
      · have hq0 : ¬ (x = x0) := nn_f hc17
        refine wp_skip ?_
        refine inB_normal ?_
        refine then_normal ?_
        refine region_s ?_
        refine q_look (look_move rfl rfl) ?_
        refine q_look (look_add rfl rfl rfl rfl (by have := maxLen_is; unfold I64; omega)) ?_
        refine q_look (look_assign rfl rfl) ?_
        refine q_nil ?_
        rintro _ rfl
        exact loop_end (k + 1) (by omega) ⟨rfl, rfl, rfl, trivial⟩ ⟨hX, by omega, by rw [hf, drop_get hxx]; simp [Ne.symm hq0]⟩
    · have hge : ¬ k < l.length := by have := nn_f hc9; omega
      refine wp_exit ?_
      refine then_exit ?_
      refine then_exit ?_
      refine inB_exit_same ?_
      refine then_normal ?_
      refine wp_seq ?_
      refine region_s ?_
      refine q_look (look_assign rfl rfl) ?_
      refine q_nil ?_
      rintro _ rfl
      refine then_normal ?_
      refine wp_ret ?_
      exact res1 Try.results27 rfl ⟨ret_bool (by rw [hf, List.drop_eq_nil_of_le (by omega)]; simp), hX⟩

theorem indexf_s (l : List ByteArray) (A : Option Addr) (c : Nat) (f : Nat) (cap : List Value) (q : ByteArray → Bool) (w : World) (hA : Sl scell 1 w A l) (hla : l.length ≤ maxLen) (he : Enters Try.prog f) (hq : ∀ W, Ext w W → ∀ y ∈ l, Calls Try.prog f ([Value.string y] ++ cap).toArray W fun e w' => e = .returned (.bool (q y)) ∧ Ext W w') :
    Calls Try.prog 46 #[.slice A l.length c, .func (.func f) #[] cap.toArray] w fun e w' => e = .returned (.int .i64 (fiG q l 0)) ∧ Ext w w' := by
  refine calls_act Try.func46 rfl Try.ntmps46 rfl rfl ?_
  show Code.wp _ _ _ (act 19 [(0, true, .slice A l.length c), (1, true, .func (.func f) #[] cap.toArray)] _) _
  have hX : Ext w w := Ext.rfl' w
  refine wp_seq ?_
  refine region_s ?_
  refine q_look (look_assign rfl rfl) ?_
  refine q_nil ?_
  rintro _ rfl
  refine then_normal ?_
  refine wp_seq ?_
  refine wp_seq ?_
  refine region_s ?_
  refine q_look (look_move rfl rfl) ?_
  refine q_look (look_len_slice Try.underlying31 rfl rfl) ?_
  refine q_look (look_move rfl rfl) ?_
  refine q_nil ?_
  rintro _ rfl
  refine then_normal ?_
  refine wp_block ?_
  refine loop_act (fun (k : Nat) => [(0, .slice A l.length c), (1, .func (.func f) #[] cap.toArray), (7, .int .i64 (l.length : Int)), (8, .int .i64 (k : Int))]) (fun k w' => (Ext w w') ∧ (k ≤ l.length) ∧ (fiG q l 0 = fiG q (l.drop k) (k : Int))) (fun k => l.length - k) (0) ?_ ?_ ?_
  · exact ⟨rfl, rfl, rfl, rfl, trivial⟩
  · exact ⟨hX, Nat.zero_le _, rfl⟩
  · rintro k σ wr hF
    obtain ⟨hX, hk, hf⟩ : (Ext w wr) ∧ (k ≤ l.length) ∧ (fiG q l 0 = fiG q (l.drop k) (k : Int)) := hF
    show Code.wp _ _ _ (act 19 [(0, true, .slice A l.length c), (1, true, .func (.func f) #[] cap.toArray), (7, true, .int .i64 (l.length : Int)), (8, true, .int .i64 (k : Int))] _) _
    refine wp_seq ?_
    refine region_s ?_
    refine q_look (look_lss rfl rfl rfl rfl) ?_
    refine q_nil ?_
    rintro _ rfl
    refine then_normal ?_
    refine wp_seq ?_
    refine cond_split rfl (fun hc9 => ?_) (fun hc9 => ?_)
    · have hlt : k < l.length := by have := nn_t hc9; omega
      obtain ⟨x, hxx⟩ := get_lt hlt
      obtain ⟨bx, ox, rfl, _⟩ := (hA.ext hX).at_ hlt
      refine wp_skip ?_
      refine then_normal ?_
      refine wp_seq ?_
      refine wp_block ?_
      refine wp_seq ?_
      refine region_s ?_
      refine q_look (look_move rfl rfl) ?_
      refine q_look (look_assign rfl rfl) ?_
      refine q_nil ?_
      rintro _ rfl
      refine then_normal ?_
      refine wp_seq ?_
      refine region_q ?_
      refine q_look (look_move rfl rfl) ?_
      refine q_look (look_move rfl rfl) ?_
      refine q_look (look_move rfl rfl) ?_
      refine q_look (look_indexAddr _ Try.underlying31 szTry_9 rfl rfl rfl rfl rfl (by omega)) ?_
      refine q_look (look_load1 Try.underlying9 rfl rfl rfl (ext_cell (((hA.ext hX).rd k x hxx) 0 _ rfl))) ?_
      refine q_callv (vs := [_]) he rfl ⟨⟨_, rfl, rfl⟩, trivial⟩ (fun wc hw => cext hw (hq wc (hX.comp hw) x (mem_get hxx))) ?_
      refine q_nil ?_
      intro w1 hw1
      replace hX := hX.comp hw1
      refine then_normal ?_
      refine cond_split rfl (fun hc16 => ?_) (fun hc16 => ?_)
      · have hq0 : q x = true := hc16
        refine wp_seq ?_
        refine region_s ?_
        refine q_look (look_move rfl rfl) ?_
        refine q_look (look_assign rfl rfl) ?_
        refine q_nil ?_
        rintro _ rfl
        refine then_normal ?_
        refine wp_ret ?_
        refine inB_ret ?_
        refine then_ret ?_
        refine then_ret ?_
        refine inB_ret ?_
        refine then_ret ?_
        exact res1 Try.results46 rfl ⟨ret_int (by rw [hf, drop_get hxx, fiG, if_pos hq0]), hX⟩
      · have hq0 : ¬ q x = true := by rw [show q x = false from hc16]; decide
        refine wp_skip ?_
        refine inB_normal ?_
        refine then_normal ?_
        refine region_s ?_
        refine q_look (look_add rfl rfl rfl rfl (by have := maxLen_is; unfold I64; omega)) ?_
        refine q_look (look_move rfl rfl) ?_
        refine q_nil ?_
        rintro _ rfl
        exact loop_end (k + 1) (by omega) ⟨rfl, rfl, rfl, rfl, trivial⟩ ⟨hX, by omega, by rw [hf, drop_get hxx, fiG, if_neg hq0]; rfl⟩
    · have hge : ¬ k < l.length := by have := nn_f hc9; omega
      refine wp_exit ?_
      refine then_exit ?_
      refine then_exit ?_
      refine inB_exit_same ?_
      refine then_normal ?_
      refine wp_seq ?_
      refine region_s ?_
      refine q_look (look_assign rfl rfl) ?_
      refine q_nil ?_
      rintro _ rfl
      refine then_normal ?_
      refine wp_ret ?_
      exact res1 Try.results46 rfl ⟨ret_int (by rw [hf, List.drop_eq_nil_of_le (by omega)]; rfl), hX⟩

theorem containsf_s (l : List ByteArray) (A : Option Addr) (c : Nat) (f : Nat) (cap : List Value) (q : ByteArray → Bool) (w : World) (hA : Sl scell 1 w A l) (hla : l.length ≤ maxLen) (he : Enters Try.prog f) (hq : ∀ W, Ext w W → ∀ y ∈ l, Calls Try.prog f ([Value.string y] ++ cap).toArray W fun e w' => e = .returned (.bool (q y)) ∧ Ext W w') :
    Calls Try.prog 36 #[.slice A l.length c, .func (.func f) #[] cap.toArray] w fun e w' => e = .returned (.bool (l.any q)) ∧ Ext w w' := by
  refine calls_act Try.func36 rfl Try.ntmps36 rfl rfl ?_
  show Code.wp _ _ _ (act 9 [(0, true, .slice A l.length c), (1, true, .func (.func f) #[] cap.toArray)] _) _
  have hX : Ext w w := Ext.rfl' w
  refine wp_seq ?_
  refine region_s ?_
  refine q_look (look_assign rfl rfl) ?_
  refine q_nil ?_
  rintro _ rfl
  refine then_normal ?_
  refine wp_seq ?_
  refine region_q ?_
  refine q_look (look_move rfl rfl) ?_
  refine q_look (look_move rfl rfl) ?_
  refine q_call (vs := [_, _]) enTry_46 ⟨⟨_, rfl, rfl⟩, ⟨_, rfl, rfl⟩, trivial⟩ (fun wc hw => cext hw (indexf_s l A c f cap q wc (hA.ext (hX.comp hw)) hla he (fun W e => hq W (((hX.comp hw)).comp e)))) ?_
  refine q_look (look_geq rfl rfl rfl rfl) ?_
  refine q_look (look_assign rfl rfl) ?_
  refine q_nil ?_
  intro w1 hw1
  replace hX := hX.comp hw1
  refine then_normal ?_
  refine wp_ret ?_
  exact res1 Try.results36 rfl ⟨ret_bool (fiG_ge _ l 0 (by omega)), hX⟩

theorem indexf_p (l : List Pk) (A : Option Addr) (c : Nat) (f : Nat) (cap : List Value) (q : Pk → Bool) (w : World) (hA : Sl pcell 5 w A l) (hla : l.length ≤ maxLen) (he : Enters Try.prog f) (hq : ∀ W, Ext w W → ∀ y ∈ l, Calls Try.prog f ([Value.agg (pcell y).toArray] ++ cap).toArray W fun e w' => e = .returned (.bool (q y)) ∧ Ext W w') :
    Calls Try.prog 43 #[.slice A l.length c, .func (.func f) #[] cap.toArray] w fun e w' => e = .returned (.int .i64 (fiG q l 0)) ∧ Ext w w' := by
  refine calls_act Try.func43 rfl Try.ntmps43 rfl rfl ?_
  show Code.wp _ _ _ (act 19 [(0, true, .slice A l.length c), (1, true, .func (.func f) #[] cap.toArray)] _) _
  have hX : Ext w w := Ext.rfl' w
  refine wp_seq ?_
  refine region_s ?_
  refine q_look (look_assign rfl rfl) ?_
  refine q_nil ?_
  rintro _ rfl
  refine then_normal ?_
  refine wp_seq ?_
  refine wp_seq ?_
  refine region_s ?_
  refine q_look (look_move rfl rfl) ?_
  refine q_look (look_len_slice Try.underlying25 rfl rfl) ?_
  refine q_look (look_move rfl rfl) ?_
  refine q_nil ?_
  rintro _ rfl
  refine then_normal ?_
  refine wp_block ?_
  refine loop_act (fun (k : Nat) => [(0, .slice A l.length c), (1, .func (.func f) #[] cap.toArray), (7, .int .i64 (l.length : Int)), (8, .int .i64 (k : Int))]) (fun k w' => (Ext w w') ∧ (k ≤ l.length) ∧ (fiG q l 0 = fiG q (l.drop k) (k : Int))) (fun k => l.length - k) (0) ?_ ?_ ?_
  · exact ⟨rfl, rfl, rfl, rfl, trivial⟩
  · exact ⟨hX, Nat.zero_le _, rfl⟩
  · rintro k σ wr hF
    obtain ⟨hX, hk, hf⟩ : (Ext w wr) ∧ (k ≤ l.length) ∧ (fiG q l 0 = fiG q (l.drop k) (k : Int)) := hF
    show Code.wp _ _ _ (act 19 [(0, true, .slice A l.length c), (1, true, .func (.func f) #[] cap.toArray), (7, true, .int .i64 (l.length : Int)), (8, true, .int .i64 (k : Int))] _) _
    refine wp_seq ?_
    refine region_s ?_
    refine q_look (look_lss rfl rfl rfl rfl) ?_
    refine q_nil ?_
    rintro _ rfl
    refine then_normal ?_
    refine wp_seq ?_
    refine cond_split rfl (fun hc9 => ?_) (fun hc9 => ?_)
    · have hlt : k < l.length := by have := nn_t hc9; omega
      obtain ⟨x, hxx⟩ := get_lt hlt
      obtain ⟨bx, ox, rfl, _⟩ := (hA.ext hX).at_ hlt
      refine wp_skip ?_
      refine then_normal ?_
      refine wp_seq ?_
      refine wp_block ?_
      refine wp_seq ?_
      refine region_s ?_
      refine q_look (look_move rfl rfl) ?_
      refine q_look (look_assign rfl rfl) ?_
      refine q_nil ?_
      rintro _ rfl
      refine then_normal ?_
      refine wp_seq ?_
      refine region_q ?_
      refine q_look (look_move rfl rfl) ?_
      refine q_look (look_move rfl rfl) ?_
      refine q_look (look_move rfl rfl) ?_
      refine q_look (look_indexAddr _ Try.underlying25 szTry_48 rfl rfl rfl rfl rfl (by omega)) ?_
      refine q_look (look_loadN Try.underlying48 rfl szTry_48 rfl rfl rfl (cs := pcell x) (extn ((hA.ext hX).rd k x hxx))) ?_
      refine q_callv (vs := [_]) he rfl ⟨⟨_, rfl, rfl⟩, trivial⟩ (fun wc hw => cext hw (hq wc (hX.comp hw) x (mem_get hxx))) ?_
      refine q_nil ?_
      intro w1 hw1
      replace hX := hX.comp hw1
      refine then_normal ?_
      refine cond_split rfl (fun hc16 => ?_) (fun hc16 => ?_)
      · have hq0 : q x = true := hc16
        refine wp_seq ?_
        refine region_s ?_
        refine q_look (look_move rfl rfl) ?_
        refine q_look (look_assign rfl rfl) ?_
        refine q_nil ?_
        rintro _ rfl
        refine then_normal ?_
        refine wp_ret ?_
        refine inB_ret ?_
        refine then_ret ?_
        refine then_ret ?_
        refine inB_ret ?_
        refine then_ret ?_
        exact res1 Try.results43 rfl ⟨ret_int (by rw [hf, drop_get hxx, fiG, if_pos hq0]), hX⟩
      · have hq0 : ¬ q x = true := by rw [show q x = false from hc16]; decide
        refine wp_skip ?_
        refine inB_normal ?_
        refine then_normal ?_
        refine region_s ?_
        refine q_look (look_add rfl rfl rfl rfl (by have := maxLen_is; unfold I64; omega)) ?_
        refine q_look (look_move rfl rfl) ?_
        refine q_nil ?_
        rintro _ rfl
        exact loop_end (k + 1) (by omega) ⟨rfl, rfl, rfl, rfl, trivial⟩ ⟨hX, by omega, by rw [hf, drop_get hxx, fiG, if_neg hq0]; rfl⟩
    · have hge : ¬ k < l.length := by have := nn_f hc9; omega
      refine wp_exit ?_
      refine then_exit ?_
      refine then_exit ?_
      refine inB_exit_same ?_
      refine then_normal ?_
      refine wp_seq ?_
      refine region_s ?_
      refine q_look (look_assign rfl rfl) ?_
      refine q_nil ?_
      rintro _ rfl
      refine then_normal ?_
      refine wp_ret ?_
      exact res1 Try.results43 rfl ⟨ret_int (by rw [hf, List.drop_eq_nil_of_le (by omega)]; rfl), hX⟩

theorem same_any (a b : List ByteArray) (A B : Option Addr) (ca cb : Nat) (w : World) (hA : Sl scell 1 w A a) (hB : Sl scell 1 w B b) (hla : a.length ≤ maxLen) :
    Calls Try.prog 16 #[.slice A a.length ca, .slice B b.length cb] w fun e w' => e = .returned (.bool (decide (a = b))) ∧ Ext w w' := by
  refine calls_act Try.func16 rfl Try.ntmps16 rfl rfl ?_
  show Code.wp _ _ _ (act 26 [(0, true, .slice A a.length ca), (1, true, .slice B b.length cb)] _) _
  have hX : Ext w w := Ext.rfl' w
  refine wp_seq ?_
  refine region_s ?_
  refine q_look (look_assign rfl rfl) ?_
  refine q_nil ?_
  rintro _ rfl
  refine then_normal ?_
  refine wp_seq ?_
  refine wp_seq ?_
  refine region_s ?_
  refine q_look (look_move rfl rfl) ?_
  refine q_look (look_len_slice Try.underlying31 rfl rfl) ?_
  refine q_look (look_move rfl rfl) ?_
  refine q_look (look_len_slice Try.underlying31 rfl rfl) ?_
  refine q_look (look_neq rfl rfl rfl rfl) ?_
  refine q_nil ?_
  rintro _ rfl
  refine then_normal ?_
  refine cond_split rfl (fun hc10 => ?_) (fun hc10 => ?_)
  · have heq : ¬ ((a.length : Int) = (b.length : Int)) := nd_t hc10
    refine wp_seq ?_
    refine region_s ?_
    refine q_look (look_assign rfl rfl) ?_
    refine q_nil ?_
    rintro _ rfl
    refine then_normal ?_
    refine wp_ret ?_
    refine then_ret ?_
    exact res1 Try.results16 rfl ⟨ret_bool (by rw [eq_comm, decide_eq_false_iff_not]; intro e; exact heq (by rw [e])), hX⟩
  · have heq : (a.length : Int) = (b.length : Int) := nd_f hc10
    replace heq : a.length = b.length := by omega
    refine wp_skip ?_
    refine then_normal ?_
    refine wp_seq ?_
    refine wp_seq ?_
    refine region_s ?_
    refine q_look (look_assign rfl rfl) ?_
    refine q_nil ?_
    rintro _ rfl
    refine then_normal ?_
    refine wp_block ?_
    refine loop_act (fun (k : Nat) => [(0, .slice A a.length ca), (1, .slice B b.length cb), (5, .int .i64 (k : Int))]) (fun k w' => (Ext w w') ∧ (k ≤ a.length) ∧ (a.take k = b.take k)) (fun k => a.length - k) (0) ?_ ?_ ?_
    · exact ⟨rfl, rfl, rfl, trivial⟩
    · exact ⟨hX, Nat.zero_le _, rfl⟩
    · rintro k σ wr hF
      obtain ⟨hX, hk, hs⟩ : (Ext w wr) ∧ (k ≤ a.length) ∧ (a.take k = b.take k) := hF
      show Code.wp _ _ _ (act 26 [(0, true, .slice A a.length ca), (1, true, .slice B b.length cb), (5, true, .int .i64 (k : Int))] _) _
      refine wp_seq ?_
      refine wp_seq ?_
      refine region_s ?_
      refine q_look (look_move rfl rfl) ?_
      refine q_look (look_move rfl rfl) ?_
      refine q_look (look_len_slice Try.underlying31 rfl rfl) ?_
      refine q_look (look_lss rfl rfl rfl rfl) ?_
      refine q_nil ?_
      rintro _ rfl
      refine then_normal ?_
      refine cond_split rfl (fun hc14 => ?_) (fun hc14 => ?_)
      · have hlt : k < a.length := by have := nn_t hc14; omega
        obtain ⟨x, hx⟩ := get_lt hlt
        obtain ⟨y, hy⟩ := get_lt (show k < b.length by omega)
        obtain ⟨b1, o1, rfl, h1⟩ := (hA.ext hX).at_ hlt
        obtain ⟨b2, o2, rfl, h2⟩ := (hB.ext hX).at_ (show k < b.length by omega)
        refine wp_skip ?_
        refine then_normal ?_
        refine wp_seq ?_
        refine wp_block ?_
        refine wp_seq ?_
        refine region_qd mixed (by kernel_rfl) ?_
        refine q_look (look_move rfl rfl) ?_
        refine q_look (look_move rfl rfl) ?_
        refine q_look (look_indexAddr _ Try.underlying31 szTry_9 rfl rfl rfl rfl rfl (by omega)) ?_
        refine q_look (look_load1 Try.underlying9 rfl rfl rfl (ext_cell ((h1 k x hx) 0 _ rfl))) ?_
        refine q_look (look_move rfl rfl) ?_
        refine q_look (look_move rfl rfl) ?_
        refine q_look (look_indexAddr _ Try.underlying31 szTry_9 rfl rfl rfl rfl rfl (by omega)) ?_
        refine q_look (look_load1 Try.underlying9 rfl rfl rfl (ext_cell ((h2 k y hy) 0 _ rfl))) ?_
        refine q_look (look_neq_str rfl rfl rfl rfl) ?_
        refine q_nil ?_
        intro w1 hw1
        replace hX := hX.comp hw1
        refine then_normal ?_
        refine cond_split rfl (fun hc25 => ?_) (fun hc25 => ?_)
        · have hxy : ¬ (x = y) := nd_t hc25
          refine wp_seq ?_
          refine region_s ?_
          refine q_look (look_assign rfl rfl) ?_
          refine q_nil ?_
          rintro _ rfl
          refine then_normal ?_
          refine wp_ret ?_
          refine inB_ret ?_
          refine then_ret ?_
          refine then_ret ?_
          refine inB_ret ?_
          refine then_ret ?_
          exact res1 Try.results16 rfl ⟨ret_bool (by rw [eq_comm, decide_eq_false_iff_not]; exact not_same hx hy hxy), hX⟩
        · have hxy : x = y := nd_f hc25
          refine wp_skip ?_
          refine inB_normal ?_
          refine then_normal ?_
          refine region_s ?_
          refine q_look (look_move rfl rfl) ?_
          refine q_look (look_add rfl rfl rfl rfl (by have := maxLen_is; unfold I64; omega)) ?_
          refine q_look (look_assign rfl rfl) ?_
          refine q_nil ?_
          rintro _ rfl
          exact loop_end (k + 1) (by omega) ⟨rfl, rfl, rfl, trivial⟩ ⟨hX, by omega, by rw [take_get hx, take_get hy, hs, hxy]⟩
      · have hge : ¬ k < a.length := by have := nn_f hc14; omega
        refine wp_exit ?_
        refine then_exit ?_
        refine then_exit ?_
        refine inB_exit_same ?_
        refine then_normal ?_
        refine wp_seq ?_
        refine region_s ?_
        refine q_look (look_assign rfl rfl) ?_
        refine q_nil ?_
        rintro _ rfl
        refine then_normal ?_
        refine wp_ret ?_
        exact res1 Try.results16 rfl ⟨ret_bool (by rw [eq_comm, decide_eq_true_eq]; exact all_same heq (by rw [show k = a.length by omega] at hs; exact hs)), hX⟩

theorem sameints_any (a b : List Int) (A B : Option Addr) (ca cb : Nat) (w : World) (hA : Sl icell 1 w A a) (hB : Sl icell 1 w B b) (hla : a.length ≤ maxLen) :
    Calls Try.prog 17 #[.slice A a.length ca, .slice B b.length cb] w fun e w' => e = .returned (.bool (decide (a = b))) ∧ Ext w w' := by
  refine calls_act Try.func17 rfl Try.ntmps17 rfl rfl ?_
  show Code.wp _ _ _ (act 26 [(0, true, .slice A a.length ca), (1, true, .slice B b.length cb)] _) _
  have hX : Ext w w := Ext.rfl' w
  refine wp_seq ?_
  refine region_s ?_
  refine q_look (look_assign rfl rfl) ?_
  refine q_nil ?_
  rintro _ rfl
  refine then_normal ?_
  refine wp_seq ?_
  refine wp_seq ?_
  refine region_s ?_
  refine q_look (look_move rfl rfl) ?_
  refine q_look (look_len_slice Try.underlying35 rfl rfl) ?_
  refine q_look (look_move rfl rfl) ?_
  refine q_look (look_len_slice Try.underlying35 rfl rfl) ?_
  refine q_look (look_neq rfl rfl rfl rfl) ?_
  refine q_nil ?_
  rintro _ rfl
  refine then_normal ?_
  refine cond_split rfl (fun hc10 => ?_) (fun hc10 => ?_)
  · have heq : ¬ ((a.length : Int) = (b.length : Int)) := nd_t hc10
    refine wp_seq ?_
    refine region_s ?_
    refine q_look (look_assign rfl rfl) ?_
    refine q_nil ?_
    rintro _ rfl
    refine then_normal ?_
    refine wp_ret ?_
    refine then_ret ?_
    exact res1 Try.results17 rfl ⟨ret_bool (by rw [eq_comm, decide_eq_false_iff_not]; intro e; exact heq (by rw [e])), hX⟩
  · have heq : (a.length : Int) = (b.length : Int) := nd_f hc10
    replace heq : a.length = b.length := by omega
    refine wp_skip ?_
    refine then_normal ?_
    refine wp_seq ?_
    refine wp_seq ?_
    refine region_s ?_
    refine q_look (look_assign rfl rfl) ?_
    refine q_nil ?_
    rintro _ rfl
    refine then_normal ?_
    refine wp_block ?_
    refine loop_act (fun (k : Nat) => [(0, .slice A a.length ca), (1, .slice B b.length cb), (5, .int .i64 (k : Int))]) (fun k w' => (Ext w w') ∧ (k ≤ a.length) ∧ (a.take k = b.take k)) (fun k => a.length - k) (0) ?_ ?_ ?_
    · exact ⟨rfl, rfl, rfl, trivial⟩
    · exact ⟨hX, Nat.zero_le _, rfl⟩
    · rintro k σ wr hF
      obtain ⟨hX, hk, hs⟩ : (Ext w wr) ∧ (k ≤ a.length) ∧ (a.take k = b.take k) := hF
      show Code.wp _ _ _ (act 26 [(0, true, .slice A a.length ca), (1, true, .slice B b.length cb), (5, true, .int .i64 (k : Int))] _) _
      refine wp_seq ?_
      refine wp_seq ?_
      refine region_s ?_
      refine q_look (look_move rfl rfl) ?_
      refine q_look (look_move rfl rfl) ?_
      refine q_look (look_len_slice Try.underlying35 rfl rfl) ?_
      refine q_look (look_lss rfl rfl rfl rfl) ?_
      refine q_nil ?_
      rintro _ rfl
      refine then_normal ?_
      refine cond_split rfl (fun hc14 => ?_) (fun hc14 => ?_)
      · have hlt : k < a.length := by have := nn_t hc14; omega
        obtain ⟨x, hx⟩ := get_lt hlt
        obtain ⟨y, hy⟩ := get_lt (show k < b.length by omega)
        obtain ⟨b1, o1, rfl, h1⟩ := (hA.ext hX).at_ hlt
        obtain ⟨b2, o2, rfl, h2⟩ := (hB.ext hX).at_ (show k < b.length by omega)
        refine wp_skip ?_
        refine then_normal ?_
        refine wp_seq ?_
        refine wp_block ?_
        refine wp_seq ?_
        refine region_qd mixed (by kernel_rfl) ?_
        refine q_look (look_move rfl rfl) ?_
        refine q_look (look_move rfl rfl) ?_
        refine q_look (look_indexAddr _ Try.underlying35 szTry_3 rfl rfl rfl rfl rfl (by omega)) ?_
        refine q_look (look_load1 Try.underlying3 rfl rfl rfl (ext_cell ((h1 k x hx) 0 _ rfl))) ?_
        refine q_look (look_move rfl rfl) ?_
        refine q_look (look_move rfl rfl) ?_
        refine q_look (look_indexAddr _ Try.underlying35 szTry_3 rfl rfl rfl rfl rfl (by omega)) ?_
        refine q_look (look_load1 Try.underlying3 rfl rfl rfl (ext_cell ((h2 k y hy) 0 _ rfl))) ?_
        refine q_look (look_neq rfl rfl rfl rfl) ?_
        refine q_nil ?_
        intro w1 hw1
        replace hX := hX.comp hw1
        refine then_normal ?_
        refine cond_split rfl (fun hc25 => ?_) (fun hc25 => ?_)
        · have hxy : ¬ (x = y) := nd_t hc25
          refine wp_seq ?_
          refine region_s ?_
          refine q_look (look_assign rfl rfl) ?_
          refine q_nil ?_
          rintro _ rfl
          refine then_normal ?_
          refine wp_ret ?_
          refine inB_ret ?_
          refine then_ret ?_
          refine then_ret ?_
          refine inB_ret ?_
          refine then_ret ?_
          exact res1 Try.results17 rfl ⟨ret_bool (by rw [eq_comm, decide_eq_false_iff_not]; exact not_same hx hy hxy), hX⟩
        · have hxy : x = y := nd_f hc25
          refine wp_skip ?_
          refine inB_normal ?_
          refine then_normal ?_
          refine region_s ?_
          refine q_look (look_move rfl rfl) ?_
          refine q_look (look_add rfl rfl rfl rfl (by have := maxLen_is; unfold I64; omega)) ?_
          refine q_look (look_assign rfl rfl) ?_
          refine q_nil ?_
          rintro _ rfl
          exact loop_end (k + 1) (by omega) ⟨rfl, rfl, rfl, trivial⟩ ⟨hX, by omega, by rw [take_get hx, take_get hy, hs, hxy]⟩
      · have hge : ¬ k < a.length := by have := nn_f hc14; omega
        refine wp_exit ?_
        refine then_exit ?_
        refine then_exit ?_
        refine inB_exit_same ?_
        refine then_normal ?_
        refine wp_seq ?_
        refine region_s ?_
        refine q_look (look_assign rfl rfl) ?_
        refine q_nil ?_
        rintro _ rfl
        refine then_normal ?_
        refine wp_ret ?_
        exact res1 Try.results17 rfl ⟨ret_bool (by rw [eq_comm, decide_eq_true_eq]; exact all_same heq (by rw [show k = a.length by omega] at hs; exact hs)), hX⟩

theorem hours_any (p : Pk) (w : World)  :
    Calls Try.prog 32 #[.agg (pcell p).toArray] w fun e w' => e = .returned (.int .i64 (hrs p)) ∧ Ext w w' := by
  refine calls_act Try.func32 rfl Try.ntmps32 rfl rfl ?_
  show Code.wp _ _ _ (act 13 [(0, true, .agg (pcell p).toArray)] _) _
  have hX : Ext w w := Ext.rfl' w
  refine wp_seq ?_
  refine wp_region_lit ?_
  refine s_box rfl ?_
  intro g1 u1 hu1 hB1 hg1 hs1
  replace hB1 : Blk u1 g1 48 (pcell p) := hB1
  have ge_g1 : w.heap.size ≤ g1 := by have := hX.size; omega
  replace hX := hX.comp hu1
  refine s_look (look_assign rfl rfl) ?_
  refine s_nil ?_
  refine then_normal ?_
  refine wp_seq ?_
  refine wp_seq ?_
  refine region_s ?_
  refine q_look (look_fieldAddr Try.underlying48 rfl (fun _ _ => rfl) rfl rfl) ?_
  refine q_look (look_load1 Try.underlying3 rfl rfl rfl (eqc (hB1.cell rfl))) ?_
  refine q_look (look_lss rfl rfl rfl rfl) ?_
  refine q_look (look_move rfl rfl) ?_
  refine q_lookg rfl rfl rfl (fun hq => look_fieldAddr Try.underlying48 rfl (fun _ _ => rfl) rfl rfl) ?_
  refine q_lookg rfl rfl rfl (fun hq => look_load1 Try.underlying3 rfl rfl hq (eqc (hB1.cell rfl))) ?_
  refine q_lookg rfl rfl rfl (fun hq => look_gtr rfl hq rfl rfl) ?_
  refine q_look (look_or rfl rfl rfl rfl) ?_
  refine q_nil ?_
  rintro _ rfl
  refine then_normal ?_
  refine cond_split rfl (fun hc10 => ?_) (fun hc10 => ?_)
  · have hb : p.hours < 0 ∨ 10000 < p.hours := by simp only [Bool.or_eq_true, decide_eq_true_eq] at hc10; exact hc10
    refine wp_seq ?_
    refine region_s ?_
    refine q_look (look_assign rfl rfl) ?_
    refine q_nil ?_
    rintro _ rfl
    refine then_normal ?_
    refine wp_ret ?_
    refine then_ret ?_
    exact res1 Try.results32 rfl ⟨ret_int (by unfold hrs; rw [if_pos hb]), hX⟩
  · have hb : ¬ (p.hours < 0 ∨ 10000 < p.hours) := fun h => by rw [← Bool.not_eq_true] at hc10; apply hc10; simp only [Bool.or_eq_true, decide_eq_true_eq]; exact h
    refine wp_skip ?_
    refine then_normal ?_
    refine wp_seq ?_
    refine region_s ?_
    refine q_look (look_fieldAddr Try.underlying48 rfl (fun _ _ => rfl) rfl rfl) ?_
    refine q_look (look_load1 Try.underlying3 rfl rfl rfl (eqc (hB1.cell rfl))) ?_
    refine q_look (look_assign rfl rfl) ?_
    refine q_nil ?_
    rintro _ rfl
    refine then_normal ?_
    refine wp_ret ?_
    exact res1 Try.results32 rfl ⟨ret_int (by unfold hrs; rw [if_neg hb]), hX⟩

theorem refhours_any (p : Pk) (w : World)  :
    Calls Try.prog 34 #[.agg (pcell p).toArray] w fun e w' => e = .returned (.int .i64 (hrs p)) ∧ Ext w w' := by
  refine calls_act Try.func34 rfl Try.ntmps34 rfl rfl ?_
  show Code.wp _ _ _ (act 13 [(0, true, .agg (pcell p).toArray)] _) _
  have hX : Ext w w := Ext.rfl' w
  refine wp_seq ?_
  refine wp_region_lit ?_
  refine s_box rfl ?_
  intro g1 u1 hu1 hB1 hg1 hs1
  replace hB1 : Blk u1 g1 48 (pcell p) := hB1
  have ge_g1 : w.heap.size ≤ g1 := by have := hX.size; omega
  replace hX := hX.comp hu1
  refine s_look (look_assign rfl rfl) ?_
  refine s_nil ?_
  refine then_normal ?_
  refine wp_seq ?_
  refine wp_seq ?_
  refine region_s ?_
  refine q_look (look_fieldAddr Try.underlying48 rfl (fun _ _ => rfl) rfl rfl) ?_
  refine q_look (look_load1 Try.underlying3 rfl rfl rfl (eqc (hB1.cell rfl))) ?_
  refine q_look (look_lss rfl rfl rfl rfl) ?_
  refine q_look (look_move rfl rfl) ?_
  refine q_lookg rfl rfl rfl (fun hq => look_fieldAddr Try.underlying48 rfl (fun _ _ => rfl) rfl rfl) ?_
  refine q_lookg rfl rfl rfl (fun hq => look_load1 Try.underlying3 rfl rfl hq (eqc (hB1.cell rfl))) ?_
  refine q_lookg rfl rfl rfl (fun hq => look_gtr rfl hq rfl rfl) ?_
  refine q_look (look_or rfl rfl rfl rfl) ?_
  refine q_nil ?_
  rintro _ rfl
  refine then_normal ?_
  refine cond_split rfl (fun hc10 => ?_) (fun hc10 => ?_)
  · have hb : p.hours < 0 ∨ 10000 < p.hours := by simp only [Bool.or_eq_true, decide_eq_true_eq] at hc10; exact hc10
    refine wp_seq ?_
    refine region_s ?_
    refine q_look (look_assign rfl rfl) ?_
    refine q_nil ?_
    rintro _ rfl
    refine then_normal ?_
    refine wp_ret ?_
    refine then_ret ?_
    exact res1 Try.results34 rfl ⟨ret_int (by unfold hrs; rw [if_pos hb]), hX⟩
  · have hb : ¬ (p.hours < 0 ∨ 10000 < p.hours) := fun h => by rw [← Bool.not_eq_true] at hc10; apply hc10; simp only [Bool.or_eq_true, decide_eq_true_eq]; exact h
    refine wp_skip ?_
    refine then_normal ?_
    refine wp_seq ?_
    refine region_s ?_
    refine q_look (look_fieldAddr Try.underlying48 rfl (fun _ _ => rfl) rfl rfl) ?_
    refine q_look (look_load1 Try.underlying3 rfl rfl rfl (eqc (hB1.cell rfl))) ?_
    refine q_look (look_assign rfl rfl) ?_
    refine q_nil ?_
    rintro _ rfl
    refine then_normal ?_
    refine wp_ret ?_
    exact res1 Try.results34 rfl ⟨ret_int (by unfold hrs; rw [if_neg hb]), hX⟩

theorem index1_any (p : Pk) (g : Nat) (id : ByteArray) (w : World) (hI : Blk w g 9 [.string id]) :
    Calls Try.prog 44 #[.agg (pcell p).toArray, .pointer (some ⟨g, 0, none⟩)] w fun e w' => e = .returned (.bool (decide (p.id = id))) ∧ Ext w w' := by
  refine calls_act Try.func44 rfl Try.ntmps44 rfl rfl ?_
  show Code.wp _ _ _ (act 8 [(0, true, .agg (pcell p).toArray), (1, true, .pointer (some ⟨g, 0, none⟩))] _) _
  have hX : Ext w w := Ext.rfl' w
  refine wp_seq ?_
  refine wp_region_lit ?_
  refine s_box rfl ?_
  intro g1 u1 hu1 hB1 hg1 hs1
  replace hB1 : Blk u1 g1 48 (pcell p) := hB1
  have ge_g1 : w.heap.size ≤ g1 := by have := hX.size; omega
  replace hX := hX.comp hu1
  replace hI := hI.ext hu1
  refine s_look (look_assign rfl rfl) ?_
  refine s_nil ?_
  refine then_normal ?_
  refine wp_seq ?_
  refine region_s ?_
  refine q_look (look_fieldAddr Try.underlying48 rfl (fun _ _ => rfl) rfl rfl) ?_
  refine q_look (look_load1 Try.underlying9 rfl rfl rfl (eqc (hB1.cell rfl))) ?_
  refine q_look (look_load1 Try.underlying9 rfl rfl rfl (eqc (hI.cell rfl))) ?_
  refine q_look (look_eql_str rfl rfl rfl rfl) ?_
  refine q_look (look_assign rfl rfl) ?_
  refine q_nil ?_
  rintro _ rfl
  refine then_normal ?_
  refine wp_ret ?_
  exact res1 Try.results44 rfl ⟨rfl, hX⟩

theorem index_any (h nd pt sm : Value) (pA : Option Addr) (ps : List Pk) (pc : Nat) (ne : Value) (id : ByteArray) (w : World) (hD : DOk w pA ps) :
    Calls Try.prog 31 #[.agg #[h, nd, pt, sm, .slice pA ps.length pc, ne], .string id] w fun e w' => e = .returned (.int .i64 (findP id ps)) ∧ Ext w w' := by
  refine calls_act Try.func31 rfl Try.ntmps31 rfl rfl ?_
  show Code.wp _ _ _ (act 9 [(0, true, .agg #[h, nd, pt, sm, .slice pA ps.length pc, ne]), (1, true, .string id)] _) _
  have hX : Ext w w := Ext.rfl' w
  refine wp_seq ?_
  refine wp_region_lit ?_
  refine s_box rfl ?_
  intro g1 u1 hu1 hB1 hg1 hs1
  replace hB1 : Blk u1 g1 28 ([h, nd, pt, sm, .slice pA ps.length pc, ne]) := hB1
  have ge_g1 : w.heap.size ≤ g1 := by have := hX.size; omega
  replace hX := hX.comp hu1
  refine s_box rfl ?_
  intro g2 u2 hu2 hB2 hg2 hs2
  replace hB2 : Blk u2 g2 9 ([.string id]) := hB2
  have lt_g1_g2 : g1 < g2 := by have := hB1.lt; omega
  have ge_g2 : w.heap.size ≤ g2 := by have := hX.size; omega
  replace hX := hX.comp hu2
  replace hB1 := hB1.ext hu2
  refine s_look (look_assign rfl rfl) ?_
  refine s_nil ?_
  refine then_normal ?_
  refine wp_seq ?_
  refine region_q ?_
  refine q_look (look_fieldAddr Try.underlying28 rfl (fun _ _ => rfl) rfl rfl) ?_
  refine q_look (look_load1 Try.underlying25 rfl rfl rfl (ext_cell (hB1.cell rfl))) ?_
  refine q_look (look_makeFunc (vs := [_]) ⟨⟨_, rfl, rfl⟩, trivial⟩) ?_
  refine q_call (vs := [_, _]) enTry_43 ⟨⟨_, rfl, rfl⟩, ⟨_, rfl, rfl⟩, trivial⟩ (fun wc hw => cext hw (indexf_p ps pA pc 44 [.pointer (some ⟨g2, 0, none⟩)] (fun p => decide (p.id = id)) wc (hD.sl.ext (hX.comp hw)) hD.len enTry_44 (fun W e y hy => index1_any y g2 id W (hB2.ext (hw.comp e))))) ?_
  refine q_look (look_assign rfl rfl) ?_
  refine q_nil ?_
  intro w1 hw1
  replace hX := hX.comp hw1
  replace hB1 := hB1.ext hw1
  replace hB2 := hB2.ext hw1
  refine then_normal ?_
  refine wp_ret ?_
  exact res1 Try.results31 rfl ⟨rfl, hX⟩

theorem find_any (h nd pt sm : Value) (pA : Option Addr) (ps : List Pk) (pc : Nat) (ne : Value) (id : ByteArray) (w : World) (hD : DOk w pA ps) :
    Calls Try.prog 33 #[.agg #[h, nd, pt, sm, .slice pA ps.length pc, ne], .string id] w fun e w' => e = .returned (.int .i64 (findP id ps)) ∧ Ext w w' := by
  refine calls_act Try.func33 rfl Try.ntmps33 rfl rfl ?_
  show Code.wp _ _ _ (act 22 [(0, true, .agg #[h, nd, pt, sm, .slice pA ps.length pc, ne]), (1, true, .string id)] _) _
  have hX : Ext w w := Ext.rfl' w
  refine wp_seq ?_
  refine wp_region_lit ?_
  refine s_box rfl ?_
  intro g1 u1 hu1 hB1 hg1 hs1
  replace hB1 : Blk u1 g1 28 ([h, nd, pt, sm, .slice pA ps.length pc, ne]) := hB1
  have ge_g1 : w.heap.size ≤ g1 := by have := hX.size; omega
  replace hX := hX.comp hu1
  refine s_look (look_assign rfl rfl) ?_
  refine s_nil ?_
  refine then_normal ?_
  refine wp_seq ?_
  refine wp_seq ?_
  refine region_s ?_
  refine q_look (look_assign rfl rfl) ?_
  refine q_nil ?_
  rintro _ rfl
  refine then_normal ?_
  refine wp_block ?_
  refine loop_act (fun (k : Nat) => [(1, .string id), (2, .pointer (some ⟨g1, 0, none⟩)), (5, .int .i64 (k : Int))]) (fun k w' => (Ext w w') ∧ (Blk w' g1 28 [h, nd, pt, sm, .slice pA ps.length pc, ne]) ∧ (k ≤ ps.length) ∧ (fiG (fun p : Pk => decide (p.id = id)) ps 0 = fiG (fun p : Pk => decide (p.id = id)) (ps.drop k) (k : Int))) (fun k => ps.length - k) (0) ?_ ?_ ?_
  · exact ⟨rfl, rfl, rfl, trivial⟩
  · exact ⟨hX, hB1, Nat.zero_le _, rfl⟩
  · rintro k σ wr hF
    obtain ⟨hX, hB1, hk, hf⟩ : (Ext w wr) ∧ (Blk wr g1 28 [h, nd, pt, sm, .slice pA ps.length pc, ne]) ∧ (k ≤ ps.length) ∧ (fiG (fun p : Pk => decide (p.id = id)) ps 0 = fiG (fun p : Pk => decide (p.id = id)) (ps.drop k) (k : Int)) := hF
    show Code.wp _ _ _ (act 22 [(1, true, .string id), (2, true, .pointer (some ⟨g1, 0, none⟩)), (5, true, .int .i64 (k : Int))] _) _
    refine wp_seq ?_
    refine wp_seq ?_
    refine region_s ?_
    refine q_look (look_move rfl rfl) ?_
    refine q_look (look_fieldAddr Try.underlying28 rfl (fun _ _ => rfl) rfl rfl) ?_
    refine q_look (look_load1 Try.underlying25 rfl rfl rfl (eqc (hB1.cell rfl))) ?_
    refine q_look (look_len_slice Try.underlying25 rfl rfl) ?_
    refine q_look (look_lss rfl rfl rfl rfl) ?_
    refine q_nil ?_
    rintro _ rfl
    refine then_normal ?_
    refine cond_split rfl (fun hc10 => ?_) (fun hc10 => ?_)
    · have hlt : k < ps.length := by have := nn_t hc10; omega
      obtain ⟨x, hxx⟩ := get_lt hlt
      obtain ⟨bx, ox, rfl, _⟩ := (hD.sl.ext hX).at_ hlt
      refine wp_skip ?_
      refine then_normal ?_
      refine wp_seq ?_
      refine wp_block ?_
      refine wp_seq ?_
      refine region_s ?_
      refine q_look (look_fieldAddr Try.underlying28 rfl (fun _ _ => rfl) rfl rfl) ?_
      refine q_look (look_load1 Try.underlying25 rfl rfl rfl (eqc (hB1.cell rfl))) ?_
      refine q_look (look_move rfl rfl) ?_
      refine q_look (look_indexAddr _ Try.underlying25 szTry_48 rfl rfl rfl rfl rfl (by omega)) ?_
      refine q_look (look_fieldAddr Try.underlying48 rfl (fun _ _ => rfl) rfl rfl) ?_
      refine q_look (look_load1 Try.underlying9 rfl rfl rfl (eqc (((hD.sl.ext hX).rd k x hxx) _ _ rfl))) ?_
      refine q_look (look_move rfl rfl) ?_
      refine q_look (look_eql_str rfl rfl rfl rfl) ?_
      refine q_nil ?_
      rintro _ rfl
      refine then_normal ?_
      refine cond_split rfl (fun hc20 => ?_) (fun hc20 => ?_)
      · have hq0 : (fun p : Pk => decide (p.id = id)) x = true := hc20
        refine wp_seq ?_
        refine region_s ?_
        refine q_look (look_move rfl rfl) ?_
        refine q_look (look_assign rfl rfl) ?_
        refine q_nil ?_
        rintro _ rfl
        refine then_normal ?_
        refine wp_ret ?_
        refine inB_ret ?_
        refine then_ret ?_
        refine then_ret ?_
        refine inB_ret ?_
        refine then_ret ?_
        exact res1 Try.results33 rfl ⟨ret_int (by unfold findP; rw [hf, drop_get hxx, fiG, if_pos hq0]), hX⟩
      · have hq0 : ¬ (fun p : Pk => decide (p.id = id)) x = true := by rw [show (fun p : Pk => decide (p.id = id)) x = false from hc20]; decide
        refine wp_skip ?_
        refine inB_normal ?_
        refine then_normal ?_
        refine region_s ?_
        refine q_look (look_move rfl rfl) ?_
        refine q_look (look_add rfl rfl rfl rfl (by have := hD.len; have := maxLen_is; unfold I64; omega)) ?_
        refine q_look (look_assign rfl rfl) ?_
        refine q_nil ?_
        rintro _ rfl
        exact loop_end (k + 1) (by omega) ⟨rfl, rfl, rfl, trivial⟩ ⟨hX, hB1, by omega, by rw [hf, drop_get hxx, fiG, if_neg hq0]; rfl⟩
    · have hge : ¬ k < ps.length := by have := nn_f hc10; omega
      refine wp_exit ?_
      refine then_exit ?_
      refine then_exit ?_
      refine inB_exit_same ?_
      refine then_normal ?_
      refine wp_seq ?_
      refine region_s ?_
      refine q_look (look_assign rfl rfl) ?_
      refine q_nil ?_
      rintro _ rfl
      refine then_normal ?_
      refine wp_ret ?_
      exact res1 Try.results33 rfl ⟨ret_int (by unfold findP; rw [hf, List.drop_eq_nil_of_le (by omega)]; rfl), hX⟩

end Go.Proofs.Ytldgigjapifagaa
