/- The walks of chapter 35 (inspect), first part: the small functions. -/
import Derived.Test.YtobgfnlfbjodjaaRows
import Derived.Test.YtobgfnlfbjodjaaReg
namespace Go.Proofs.Ytobgfnlfbjodjaa
open Go Go.RowKit Core
set_option linter.unusedVariables false
set_option linter.unusedSimpArgs false
attribute [local irreducible] wpQuiet wpList wpH Code.wp Calls bodyPost act

theorem mixed : Try.prog.follows .mixedOrders = true := by kernel_rfl
theorem enTry_3 : Enters Try.prog 3 := enters_of Try.func3 (by kernel_rfl) rfl
theorem enTry_4 : Enters Try.prog 4 := enters_of Try.func4 (by kernel_rfl) rfl
theorem enTry_5 : Enters Try.prog 5 := enters_of Try.func5 (by kernel_rfl) rfl
theorem enTry_6 : Enters Try.prog 6 := enters_of Try.func6 (by kernel_rfl) rfl
theorem enTry_7 : Enters Try.prog 7 := enters_of Try.func7 (by kernel_rfl) rfl
theorem enTry_8 : Enters Try.prog 8 := enters_of Try.func8 (by kernel_rfl) rfl
theorem enTry_9 : Enters Try.prog 9 := enters_of Try.func9 (by kernel_rfl) rfl
theorem enTry_10 : Enters Try.prog 10 := enters_of Try.func10 (by kernel_rfl) rfl
theorem enTry_11 : Enters Try.prog 11 := enters_of Try.func11 (by kernel_rfl) rfl
theorem enTry_12 : Enters Try.prog 12 := enters_of Try.func12 (by kernel_rfl) rfl
theorem enTry_13 : Enters Try.prog 13 := enters_of Try.func13 (by kernel_rfl) rfl
theorem enTry_14 : Enters Try.prog 14 := enters_of Try.func14 (by kernel_rfl) rfl
theorem enTry_15 : Enters Try.prog 15 := enters_of Try.func15 (by kernel_rfl) rfl
theorem enTry_16 : Enters Try.prog 16 := enters_of Try.func16 (by kernel_rfl) rfl
theorem enTry_17 : Enters Try.prog 17 := enters_of Try.func17 (by kernel_rfl) rfl
theorem enTry_18 : Enters Try.prog 18 := enters_of Try.func18 (by kernel_rfl) rfl
theorem enTry_19 : Enters Try.prog 19 := enters_of Try.func19 (by kernel_rfl) rfl
theorem enTry_20 : Enters Try.prog 20 := enters_of Try.func20 (by kernel_rfl) rfl
theorem enTry_21 : Enters Try.prog 21 := enters_of Try.func21 (by kernel_rfl) rfl
theorem enTry_22 : Enters Try.prog 22 := enters_of Try.func22 (by kernel_rfl) rfl
theorem enTry_23 : Enters Try.prog 23 := enters_of Try.func23 (by kernel_rfl) rfl
theorem enTry_24 : Enters Try.prog 24 := enters_of Try.func24 (by kernel_rfl) rfl
theorem enTry_25 : Enters Try.prog 25 := enters_of Try.func25 (by kernel_rfl) rfl
theorem enTry_26 : Enters Try.prog 26 := enters_of Try.func26 (by kernel_rfl) rfl
theorem enTry_27 : Enters Try.prog 27 := enters_of Try.func27 (by kernel_rfl) rfl
theorem enTry_28 : Enters Try.prog 28 := enters_of Try.func28 (by kernel_rfl) rfl
theorem enTry_29 : Enters Try.prog 29 := enters_of Try.func29 (by kernel_rfl) rfl
theorem enTry_30 : Enters Try.prog 30 := enters_of Try.func30 (by kernel_rfl) rfl
theorem enTry_31 : Enters Try.prog 31 := enters_of Try.func31 (by kernel_rfl) rfl
theorem enTry_32 : Enters Try.prog 32 := enters_of Try.func32 (by kernel_rfl) rfl
theorem enTry_33 : Enters Try.prog 33 := enters_of Try.func33 (by kernel_rfl) rfl
theorem szTry_3 : (Try.prog.info? 3).map (fun i => i.size) = some 1 := by kernel_rfl
theorem zeTry_3 : (Try.prog.info? 3).map (fun i => i.zero) = some (some (.int .i64 0)) := by kernel_rfl
theorem szTry_9 : (Try.prog.info? 9).map (fun i => i.size) = some 1 := by kernel_rfl
theorem zeTry_9 : (Try.prog.info? 9).map (fun i => i.zero) = some (some (.string ⟨#[]⟩)) := by kernel_rfl
theorem szTry_23 : (Try.prog.info? 23).map (fun i => i.size) = some 1 := by kernel_rfl
theorem zeTry_23 : (Try.prog.info? 23).map (fun i => i.zero) = some (some (.slice none 0 0)) := by kernel_rfl
theorem szTry_29 : (Try.prog.info? 29).map (fun i => i.size) = some 1 := by kernel_rfl
theorem zeTry_29 : (Try.prog.info? 29).map (fun i => i.zero) = some (some (.slice none 0 0)) := by kernel_rfl
theorem szTry_33 : (Try.prog.info? 33).map (fun i => i.size) = some 6 := by kernel_rfl
theorem zeTry_33 : (Try.prog.info? 33).map (fun i => i.zero) = some (some (.agg #[.string ⟨#[]⟩, .slice none 0 0, .slice none 0 0, .slice none 0 0, .slice none 0 0, .slice none 0 0])) := by kernel_rfl
theorem szTry_47 : (Try.prog.info? 47).map (fun i => i.size) = some 6 := by kernel_rfl
theorem zeTry_47 : (Try.prog.info? 47).map (fun i => i.zero) = some (some (.agg #[.string ⟨#[]⟩, .string ⟨#[]⟩, .string ⟨#[]⟩, .int .i64 0, .int .i64 0, .int .i64 0])) := by kernel_rfl
theorem szTry_49 : (Try.prog.info? 49).map (fun i => i.size) = some 8 := by kernel_rfl
theorem zeTry_49 : (Try.prog.info? 49).map (fun i => i.zero) = some (some (.agg #[.string ⟨#[]⟩, .int .i64 0, .int .i64 0, .string ⟨#[]⟩, .string ⟨#[]⟩, .int .i64 0, .int .i64 0, .slice none 0 0])) := by kernel_rfl
theorem szTry_52 : (Try.prog.info? 52).map (fun i => i.size) = some 2 := by kernel_rfl
theorem zeTry_52 : (Try.prog.info? 52).map (fun i => i.zero) = some (some (.agg #[.string ⟨#[]⟩, .int .i64 0])) := by kernel_rfl
theorem zsbTry_3 : (Try.prog.info? 3).map (fun i => (i.zero, i.size, i.bytes)) = some (some (.int .i64 0), 1, 8) := by kernel_rfl
theorem zsbTry_9 : (Try.prog.info? 9).map (fun i => (i.zero, i.size, i.bytes)) = some (some (.string ⟨#[]⟩), 1, 16) := by kernel_rfl
theorem zsbTry_52 : (Try.prog.info? 52).map (fun i => (i.zero, i.size, i.bytes)) = some (some (.agg #[.string ⟨#[]⟩, .int .i64 0]), 2, 24) := by kernel_rfl
theorem zsbTry_49 : (Try.prog.info? 49).map (fun i => (i.zero, i.size, i.bytes)) = some (some (.agg #[.string ⟨#[]⟩, .int .i64 0, .int .i64 0, .string ⟨#[]⟩, .string ⟨#[]⟩, .int .i64 0, .int .i64 0, .slice none 0 0]), 8, 104) := by kernel_rfl
theorem zsbTry_47 : (Try.prog.info? 47).map (fun i => (i.zero, i.size, i.bytes)) = some (some (.agg #[.string ⟨#[]⟩, .string ⟨#[]⟩, .string ⟨#[]⟩, .int .i64 0, .int .i64 0, .int .i64 0]), 6, 72) := by kernel_rfl

def icell (x : Int) : List Value := [.int .i64 x]
def scell (s : ByteArray) : List Value := [.string s]
structure Tk where
  seam : ByteArray
  m : Int
deriving DecidableEq
def tcell (t : Tk) : List Value := [.string t.seam, .int .i64 t.m]
theorem hce_i : ∀ x, (icell x).length = 1 := fun _ => rfl
theorem hce_s : ∀ x, (scell x).length = 1 := fun _ => rfl
theorem hce_t : ∀ x, (tcell x).length = 2 := fun _ => rfl
def tableP (k c : Int) : Int :=
  if (decide (k = 1) && decide (c = 1)) = true then 4 else if (decide (k = 1) && decide (c = 2)) = true then 3 else
  if (decide (k = 2) && (decide (c = 1) || decide (c = 2))) = true then 2 else if ((decide (k = 1) || decide (k = 2)) && decide (c = 3)) = true then 1 else 0
def methodsP (k c : Int) : List Int :=
  if tableP k c = 1 then [1] else if tableP k c = 2 then [1, 2] else if tableP k c = 3 then [1, 3] else if tableP k c = 4 then [1, 3, 4] else []
def cutP (p : Int) : Int := min (max p 0) 100
def dbl : Nat → Int → Int
  | 0, p => p
  | n + 1, p => min (2 * dbl n p) 100
def extentP (p f n : Int) : Int := if n < 1 ∨ n > 1099511627776 ∨ f < 0 ∨ f > n then cutP p else dbl (20 * f / n).toNat (cutP p)
theorem cut_bd (p : Int) : 0 ≤ cutP p ∧ cutP p ≤ 100 := by unfold cutP; omega
theorem dbl_bd {p : Int} (h : 0 ≤ p ∧ p ≤ 100) : ∀ n, 0 ≤ dbl n p ∧ dbl n p ≤ 100
  | 0 => h
  | n + 1 => by have := dbl_bd h n; simp only [dbl]; omega
theorem all_same {α : Type} {a b : List α} (h : a.length = b.length) (h2 : a.take a.length = b.take a.length) : a = b := by
  rw [List.take_length, h, List.take_length] at h2; exact h2
theorem not_same {α : Type} {a b : List α} {k : Nat} {x y : α} (hx : a[k]? = some x) (hy : b[k]? = some y) (hne : x ≠ y) : a ≠ b := by
  intro e; subst e; rw [hx] at hy; exact hne (Option.some.inj hy)
def fi (x : Int) : List Int → Int → Int
  | [], _ => -1
  | y :: r, k => if x = y then k else fi x r (k + 1)
theorem fi_ge (x : Int) : ∀ (l : List Int) (k : Int), 0 ≤ k → (decide (0 ≤ fi x l k) = decide (x ∈ l))
  | [], k, hk => by simp [fi]
  | y :: r, k, hk => by
    unfold fi
    by_cases h : x = y
    · subst h; simp [hk]
    · rw [if_neg h, fi_ge x r (k + 1) (by omega)]; simp [h]
theorem eqT (x y : Tk) : FlatEq Try.prog (#[{ name := "Seam", type := 9, offset := 0, embedded := false, tag := "", pkgPath := "", byteOffset := 0 }, { name := "Method", type := 3, offset := 1, embedded := false, tag := "", pkgPath := "", byteOffset := 16 }] : Array Field).toList (tcell x) (tcell y) 0
    (decide (x = y)) :=
  ⟨by decide, rfl, ⟨_, Try.underlying9, rfl⟩, decide (x.seam = y.seam), decide (x.m = y.m), fun k w => by rw [← str_beq]; exact eqv_str Try.underlying9 k w, ⟨by decide, rfl, ⟨_, Try.underlying3, rfl⟩, _, true, eqv_int Try.underlying3, rfl, by simp⟩, by
    rw [Bool.eq_iff_iff]; cases x; cases y; simp⟩
theorem stood52 : Try.prog.stoodInHeld 52 = false := by kernel_rfl
theorem guard52 : Try.prog.eqGuardType Try.prog.depth 52 = false := by kernel_rfl

theorem table_any (k c : Int) (w : World)  :
    Calls Try.prog 26 #[.int .i64 k, .int .i64 c] w fun e w' => e = .returned (.int .i64 (tableP k c)) ∧ Ext w w' := by
  refine calls_act Try.func26 rfl Try.ntmps26 rfl rfl ?_
  show Code.wp _ _ _ (act 41 [(0, true, .int .i64 k), (1, true, .int .i64 c)] _) _
  have hX : Ext w w := Ext.rfl' w
  refine wp_seq ?_
  refine region_s ?_
  refine q_look (look_assign rfl rfl) ?_
  refine q_nil ?_
  rintro _ rfl
  refine then_normal ?_
  refine wp_seq ?_
  refine wp_block ?_
  refine wp_seq ?_
  refine region_s ?_
  refine q_look (look_move rfl rfl) ?_
  refine q_look (look_eql rfl rfl rfl rfl) ?_
  refine q_look (look_move rfl rfl) ?_
  refine q_lookg rfl rfl rfl (fun hq => look_move rfl rfl) ?_
  refine q_lookg rfl rfl rfl (fun hq => look_eql rfl hq rfl rfl) ?_
  refine q_look (look_and rfl rfl rfl rfl) ?_
  refine q_look (look_assign rfl rfl) ?_
  refine q_nil ?_
  rintro _ rfl
  refine then_normal ?_
  refine cond_split rfl (fun hc5 => ?_) (fun hc5 => ?_)
  · skip
    refine wp_seq ?_
    refine region_s ?_
    refine q_look (look_assign rfl rfl) ?_
    refine q_nil ?_
    rintro _ rfl
    refine then_normal ?_
    refine wp_ret ?_
    refine inB_ret ?_
    refine then_ret ?_
    exact res1 Try.results26 rfl ⟨ret_int (by simp only [tableP, hc5, if_true, if_false, Bool.false_eq_true]), hX⟩
  · skip
    refine wp_seq ?_
    refine region_s ?_
    refine q_look (look_move rfl rfl) ?_
    refine q_look (look_eql rfl rfl rfl rfl) ?_
    refine q_look (look_move rfl rfl) ?_
    refine q_lookg rfl rfl rfl (fun hq => look_move rfl rfl) ?_
    refine q_lookg rfl rfl rfl (fun hq => look_eql rfl hq rfl rfl) ?_
    refine q_look (look_and rfl rfl rfl rfl) ?_
    refine q_look (look_assign rfl rfl) ?_
    refine q_nil ?_
    rintro _ rfl
    refine then_normal ?_
    refine cond_split rfl (fun hc12 => ?_) (fun hc12 => ?_)
    · skip
      refine wp_seq ?_
      refine region_s ?_
      refine q_look (look_assign rfl rfl) ?_
      refine q_nil ?_
      rintro _ rfl
      refine then_normal ?_
      refine wp_ret ?_
      refine inB_ret ?_
      refine then_ret ?_
      exact res1 Try.results26 rfl ⟨ret_int (by simp only [tableP, hc5, hc12, if_true, if_false, Bool.false_eq_true]), hX⟩
    · skip
      refine wp_seq ?_
      refine region_s ?_
      refine q_look (look_move rfl rfl) ?_
      refine q_look (look_eql rfl rfl rfl rfl) ?_
      refine q_look (look_move rfl rfl) ?_
      refine q_lookg rfl rfl rfl (fun hq => look_move rfl rfl) ?_
      refine q_lookg rfl rfl rfl (fun hq => look_eql rfl hq rfl rfl) ?_
      refine q_lookg rfl rfl rfl (fun hq => look_move rfl hq) ?_
      refine q_lookg rfl rfl rfl (fun hq => look_move rfl rfl) ?_
      refine q_lookg rfl rfl rfl (fun hq => look_eql rfl hq rfl rfl) ?_
      refine q_lookg rfl rfl rfl (fun hq => look_or rfl hq rfl hq) ?_
      refine q_look (look_and rfl rfl rfl rfl) ?_
      refine q_look (look_assign rfl rfl) ?_
      refine q_nil ?_
      rintro _ rfl
      refine then_normal ?_
      refine cond_split rfl (fun hc19 => ?_) (fun hc19 => ?_)
      · skip
        refine wp_seq ?_
        refine region_s ?_
        refine q_look (look_assign rfl rfl) ?_
        refine q_nil ?_
        rintro _ rfl
        refine then_normal ?_
        refine wp_ret ?_
        refine inB_ret ?_
        refine then_ret ?_
        exact res1 Try.results26 rfl ⟨ret_int (by simp only [tableP, hc5, hc12, hc19, if_true, if_false, Bool.false_eq_true]), hX⟩
      · skip
        refine wp_seq ?_
        refine region_s ?_
        refine q_look (look_move rfl rfl) ?_
        refine q_look (look_eql rfl rfl rfl rfl) ?_
        refine q_look (look_move rfl rfl) ?_
        refine q_lookg rfl rfl rfl (fun hq => look_move rfl rfl) ?_
        refine q_lookg rfl rfl rfl (fun hq => look_eql rfl hq rfl rfl) ?_
        refine q_look (look_or rfl rfl rfl rfl) ?_
        refine q_look (look_move rfl rfl) ?_
        refine q_lookg rfl rfl rfl (fun hq => look_move rfl rfl) ?_
        refine q_lookg rfl rfl rfl (fun hq => look_eql rfl hq rfl rfl) ?_
        refine q_look (look_and rfl rfl rfl rfl) ?_
        refine q_look (look_assign rfl rfl) ?_
        refine q_nil ?_
        rintro _ rfl
        refine then_normal ?_
        refine cond_split rfl (fun hc30 => ?_) (fun hc30 => ?_)
        · skip
          refine wp_seq ?_
          refine region_s ?_
          refine q_look (look_assign rfl rfl) ?_
          refine q_nil ?_
          rintro _ rfl
          refine then_normal ?_
          refine wp_ret ?_
          refine inB_ret ?_
          refine then_ret ?_
          exact res1 Try.results26 rfl ⟨ret_int (by simp only [tableP, hc5, hc12, hc19, hc30, if_true, if_false, Bool.false_eq_true]), hX⟩
        · skip
          refine wp_skip ?_
          refine inB_normal ?_
          refine then_normal ?_
          refine wp_seq ?_
          refine region_s ?_
          refine q_look (look_assign rfl rfl) ?_
          refine q_nil ?_
          rintro _ rfl
          refine then_normal ?_
          refine wp_ret ?_
          exact res1 Try.results26 rfl ⟨ret_int (by simp only [tableP, hc5, hc12, hc19, hc30, if_true, if_false, Bool.false_eq_true]), hX⟩

theorem cut_any (p : Int) (w : World)  :
    Calls Try.prog 31 #[.int .i64 p] w fun e w' => e = .returned (.int .i64 (cutP p)) ∧ Ext w w' := by
  refine calls_act Try.func31 rfl Try.ntmps31 rfl rfl ?_
  show Code.wp _ _ _ (act 6 [(0, true, .int .i64 p)] _) _
  have hX : Ext w w := Ext.rfl' w
  refine wp_seq ?_
  refine region_s ?_
  refine q_look (look_assign rfl rfl) ?_
  refine q_nil ?_
  rintro _ rfl
  refine then_normal ?_
  refine wp_seq ?_
  refine region_s ?_
  refine q_look (look_move rfl rfl) ?_
  refine q_look (look_max2 rfl rfl rfl rfl) ?_
  refine q_look (look_min2 rfl rfl rfl rfl) ?_
  refine q_look (look_assign rfl rfl) ?_
  refine q_nil ?_
  rintro _ rfl
  refine then_normal ?_
  refine wp_ret ?_
  exact res1 Try.results31 rfl ⟨rfl, hX⟩

theorem sameints_any (a b : List Int) (A B : Option Addr) (ca cb : Nat) (w : World) (hA : Sl icell 1 w A a) (hB : Sl icell 1 w B b) (hla : a.length ≤ maxLen) :
    Calls Try.prog 11 #[.slice A a.length ca, .slice B b.length cb] w fun e w' => e = .returned (.bool (decide (a = b))) ∧ Ext w w' := by
  refine calls_act Try.func11 rfl Try.ntmps11 rfl rfl ?_
  show Code.wp _ _ _ (act 26 [(0, true, .slice A a.length ca), (1, true, .slice B b.length cb)] _) _
  have hX : Ext w w := Ext.rfl' w
  refine wp_seq ?_
  refine region_s ?_
  refine q_look (look_assign rfl rfl) ?_
  refine q_nil ?_
  rintro _ rfl
  refine then_normal ?_
  refine wp_seq ?_
  refine wp_seq ?_
  refine region_s ?_
  refine q_look (look_move rfl rfl) ?_
  refine q_look (look_len_slice Try.underlying23 rfl rfl) ?_
  refine q_look (look_move rfl rfl) ?_
  refine q_look (look_len_slice Try.underlying23 rfl rfl) ?_
  refine q_look (look_neq rfl rfl rfl rfl) ?_
  refine q_nil ?_
  rintro _ rfl
  refine then_normal ?_
  refine cond_split rfl (fun hc10 => ?_) (fun hc10 => ?_)
  · have hne : ¬ a.length = b.length := by simp at hc10; omega
    refine wp_seq ?_
    refine region_s ?_
    refine q_look (look_assign rfl rfl) ?_
    refine q_nil ?_
    rintro _ rfl
    refine then_normal ?_
    refine wp_ret ?_
    refine then_ret ?_
    exact res1 Try.results11 rfl ⟨ret_bool (by rw [eq_comm, decide_eq_false_iff_not]; intro e; exact hne (by rw [e])), hX⟩
  · have heq : a.length = b.length := by simp at hc10; omega
    refine wp_skip ?_
    refine then_normal ?_
    refine wp_seq ?_
    refine wp_seq ?_
    refine region_s ?_
    refine q_look (look_assign rfl rfl) ?_
    refine q_nil ?_
    rintro _ rfl
    refine then_normal ?_
    refine wp_block ?_
    refine loop_act (fun (k : Nat) => [(0, .slice A a.length ca), (1, .slice B b.length cb), (5, .int .i64 (k : Int))]) (fun k w' => (Ext w w') ∧ (k ≤ a.length) ∧ (a.take k = b.take k)) (fun k => a.length - k) (0) ?_ ?_ ?_
    · exact ⟨rfl, rfl, rfl, trivial⟩
    · exact ⟨hX, Nat.zero_le _, rfl⟩
    · rintro k σ wr hF
      obtain ⟨hX, hk, hs⟩ : (Ext w wr) ∧ (k ≤ a.length) ∧ (a.take k = b.take k) := hF
      show Code.wp _ _ _ (act 26 [(0, true, .slice A a.length ca), (1, true, .slice B b.length cb), (5, true, .int .i64 (k : Int))] _) _
      refine wp_seq ?_
      refine wp_seq ?_
      refine region_s ?_
      refine q_look (look_move rfl rfl) ?_
      refine q_look (look_move rfl rfl) ?_
      refine q_look (look_len_slice Try.underlying23 rfl rfl) ?_
      refine q_look (look_lss rfl rfl rfl rfl) ?_
      refine q_nil ?_
      rintro _ rfl
      refine then_normal ?_
      refine cond_split rfl (fun hc14 => ?_) (fun hc14 => ?_)
      · have hlt : k < a.length := by simp at hc14; omega
        obtain ⟨x, hx⟩ := get_lt hlt
        obtain ⟨y, hy⟩ := get_lt (show k < b.length by omega)
        obtain ⟨b1, o1, rfl, h1⟩ := (hA.ext hX).at_ hlt
        obtain ⟨b2, o2, rfl, h2⟩ := (hB.ext hX).at_ (show k < b.length by omega)
        refine wp_skip ?_
        refine then_normal ?_
        refine wp_seq ?_
        refine wp_block ?_
        refine wp_seq ?_
        refine region_qd mixed (by kernel_rfl) ?_
        refine q_look (look_move rfl rfl) ?_
        refine q_look (look_move rfl rfl) ?_
        refine q_look (look_indexAddr _ Try.underlying23 szTry_3 rfl rfl rfl rfl rfl (by omega)) ?_
        refine q_look (look_load1 Try.underlying3 rfl rfl rfl (ext_cell ((h1 k x hx) 0 _ rfl))) ?_
        refine q_look (look_move rfl rfl) ?_
        refine q_look (look_move rfl rfl) ?_
        refine q_look (look_indexAddr _ Try.underlying23 szTry_3 rfl rfl rfl rfl rfl (by omega)) ?_
        refine q_look (look_load1 Try.underlying3 rfl rfl rfl (ext_cell ((h2 k y hy) 0 _ rfl))) ?_
        refine q_look (look_neq rfl rfl rfl rfl) ?_
        refine q_nil ?_
        intro w1 hw1
        replace hX := hX.comp hw1
        refine then_normal ?_
        refine cond_split rfl (fun hc25 => ?_) (fun hc25 => ?_)
        · have hxy : ¬ x = y := by simpa using hc25
          refine wp_seq ?_
          refine region_s ?_
          refine q_look (look_assign rfl rfl) ?_
          refine q_nil ?_
          rintro _ rfl
          refine then_normal ?_
          refine wp_ret ?_
          refine inB_ret ?_
          refine then_ret ?_
          refine then_ret ?_
          refine inB_ret ?_
          refine then_ret ?_
          exact res1 Try.results11 rfl ⟨ret_bool (by rw [eq_comm, decide_eq_false_iff_not]; exact not_same hx hy hxy), hX⟩
        · have hxy : x = y := by simpa using hc25
          refine wp_skip ?_
          refine inB_normal ?_
          refine then_normal ?_
          refine region_s ?_
          refine q_look (look_move rfl rfl) ?_
          refine q_look (look_add rfl rfl rfl rfl (by have := maxLen_is; unfold I64; omega)) ?_
          refine q_look (look_assign rfl rfl) ?_
          refine q_nil ?_
          rintro _ rfl
          exact loop_end (k + 1) (by omega) ⟨rfl, rfl, rfl, trivial⟩ ⟨hX, by omega, by rw [take_get hx, take_get hy, hs, hxy]⟩
      · have hge : ¬ k < a.length := by simp at hc14; omega
        refine wp_exit ?_
        refine then_exit ?_
        refine then_exit ?_
        refine inB_exit_same ?_
        refine then_normal ?_
        refine wp_seq ?_
        refine region_s ?_
        refine q_look (look_assign rfl rfl) ?_
        refine q_nil ?_
        rintro _ rfl
        refine then_normal ?_
        refine wp_ret ?_
        exact res1 Try.results11 rfl ⟨ret_bool (by rw [eq_comm, decide_eq_true_eq]; exact all_same heq (by rw [show k = a.length by omega] at hs; exact hs)), hX⟩

theorem sametasks_any (a b : List Tk) (A B : Option Addr) (ca cb : Nat) (w : World) (hA : Sl tcell 2 w A a) (hB : Sl tcell 2 w B b) (hla : a.length ≤ maxLen) :
    Calls Try.prog 16 #[.slice A a.length ca, .slice B b.length cb] w fun e w' => e = .returned (.bool (decide (a = b))) ∧ Ext w w' := by
  refine calls_act Try.func16 rfl Try.ntmps16 rfl rfl ?_
  show Code.wp _ _ _ (act 26 [(0, true, .slice A a.length ca), (1, true, .slice B b.length cb)] _) _
  have hX : Ext w w := Ext.rfl' w
  refine wp_seq ?_
  refine region_s ?_
  refine q_look (look_assign rfl rfl) ?_
  refine q_nil ?_
  rintro _ rfl
  refine then_normal ?_
  refine wp_seq ?_
  refine wp_seq ?_
  refine region_s ?_
  refine q_look (look_move rfl rfl) ?_
  refine q_look (look_len_slice Try.underlying37 rfl rfl) ?_
  refine q_look (look_move rfl rfl) ?_
  refine q_look (look_len_slice Try.underlying37 rfl rfl) ?_
  refine q_look (look_neq rfl rfl rfl rfl) ?_
  refine q_nil ?_
  rintro _ rfl
  refine then_normal ?_
  refine cond_split rfl (fun hc10 => ?_) (fun hc10 => ?_)
  · have hne : ¬ a.length = b.length := by simp at hc10; omega
    refine wp_seq ?_
    refine region_s ?_
    refine q_look (look_assign rfl rfl) ?_
    refine q_nil ?_
    rintro _ rfl
    refine then_normal ?_
    refine wp_ret ?_
    refine then_ret ?_
    exact res1 Try.results16 rfl ⟨ret_bool (by rw [eq_comm, decide_eq_false_iff_not]; intro e; exact hne (by rw [e])), hX⟩
  · have heq : a.length = b.length := by simp at hc10; omega
    refine wp_skip ?_
    refine then_normal ?_
    refine wp_seq ?_
    refine wp_seq ?_
    refine region_s ?_
    refine q_look (look_assign rfl rfl) ?_
    refine q_nil ?_
    rintro _ rfl
    refine then_normal ?_
    refine wp_block ?_
    refine loop_act (fun (k : Nat) => [(0, .slice A a.length ca), (1, .slice B b.length cb), (5, .int .i64 (k : Int))]) (fun k w' => (Ext w w') ∧ (k ≤ a.length) ∧ (a.take k = b.take k)) (fun k => a.length - k) (0) ?_ ?_ ?_
    · exact ⟨rfl, rfl, rfl, trivial⟩
    · exact ⟨hX, Nat.zero_le _, rfl⟩
    · rintro k σ wr hF
      obtain ⟨hX, hk, hs⟩ : (Ext w wr) ∧ (k ≤ a.length) ∧ (a.take k = b.take k) := hF
      show Code.wp _ _ _ (act 26 [(0, true, .slice A a.length ca), (1, true, .slice B b.length cb), (5, true, .int .i64 (k : Int))] _) _
      refine wp_seq ?_
      refine wp_seq ?_
      refine region_s ?_
      refine q_look (look_move rfl rfl) ?_
      refine q_look (look_move rfl rfl) ?_
      refine q_look (look_len_slice Try.underlying37 rfl rfl) ?_
      refine q_look (look_lss rfl rfl rfl rfl) ?_
      refine q_nil ?_
      rintro _ rfl
      refine then_normal ?_
      refine cond_split rfl (fun hc14 => ?_) (fun hc14 => ?_)
      · have hlt : k < a.length := by simp at hc14; omega
        obtain ⟨x, hx⟩ := get_lt hlt
        obtain ⟨y, hy⟩ := get_lt (show k < b.length by omega)
        obtain ⟨b1, o1, rfl, h1⟩ := (hA.ext hX).at_ hlt
        obtain ⟨b2, o2, rfl, h2⟩ := (hB.ext hX).at_ (show k < b.length by omega)
        refine wp_skip ?_
        refine then_normal ?_
        refine wp_seq ?_
        refine wp_block ?_
        refine wp_seq ?_
        refine region_qd mixed (by kernel_rfl) ?_
        refine q_look (look_move rfl rfl) ?_
        refine q_look (look_move rfl rfl) ?_
        refine q_look (look_indexAddr _ Try.underlying37 szTry_52 rfl rfl rfl rfl rfl (by omega)) ?_
        refine q_look (look_loadN Try.underlying52 rfl szTry_52 rfl rfl rfl (cs := tcell x) (extn (h1 k x hx))) ?_
        refine q_look (look_move rfl rfl) ?_
        refine q_look (look_move rfl rfl) ?_
        refine q_look (look_indexAddr _ Try.underlying37 szTry_52 rfl rfl rfl rfl rfl (by omega)) ?_
        refine q_look (look_loadN Try.underlying52 rfl szTry_52 rfl rfl rfl (cs := tcell y) (extn (h2 k y hy))) ?_
        refine q_look (look_neq_flat Try.underlying52 stood52 guard52 rfl rfl rfl rfl (eqT _ _)) ?_
        refine q_nil ?_
        intro w1 hw1
        replace hX := hX.comp hw1
        refine then_normal ?_
        refine cond_split rfl (fun hc25 => ?_) (fun hc25 => ?_)
        · have hxy : ¬ x = y := by simpa using hc25
          refine wp_seq ?_
          refine region_s ?_
          refine q_look (look_assign rfl rfl) ?_
          refine q_nil ?_
          rintro _ rfl
          refine then_normal ?_
          refine wp_ret ?_
          refine inB_ret ?_
          refine then_ret ?_
          refine then_ret ?_
          refine inB_ret ?_
          refine then_ret ?_
          exact res1 Try.results16 rfl ⟨ret_bool (by rw [eq_comm, decide_eq_false_iff_not]; exact not_same hx hy hxy), hX⟩
        · have hxy : x = y := by simpa using hc25
          refine wp_skip ?_
          refine inB_normal ?_
          refine then_normal ?_
          refine region_s ?_
          refine q_look (look_move rfl rfl) ?_
          refine q_look (look_add rfl rfl rfl rfl (by have := maxLen_is; unfold I64; omega)) ?_
          refine q_look (look_assign rfl rfl) ?_
          refine q_nil ?_
          rintro _ rfl
          exact loop_end (k + 1) (by omega) ⟨rfl, rfl, rfl, trivial⟩ ⟨hX, by omega, by rw [take_get hx, take_get hy, hs, hxy]⟩
      · have hge : ¬ k < a.length := by simp at hc14; omega
        refine wp_exit ?_
        refine then_exit ?_
        refine then_exit ?_
        refine inB_exit_same ?_
        refine then_normal ?_
        refine wp_seq ?_
        refine region_s ?_
        refine q_look (look_assign rfl rfl) ?_
        refine q_nil ?_
        rintro _ rfl
        refine then_normal ?_
        refine wp_ret ?_
        exact res1 Try.results16 rfl ⟨ret_bool (by rw [eq_comm, decide_eq_true_eq]; exact all_same heq (by rw [show k = a.length by omega] at hs; exact hs)), hX⟩

theorem samestrs_any (a b : List ByteArray) (A B : Option Addr) (ca cb : Nat) (w : World) (hA : Sl scell 1 w A a) (hB : Sl scell 1 w B b) (hla : a.length ≤ maxLen) :
    Calls Try.prog 21 #[.slice A a.length ca, .slice B b.length cb] w fun e w' => e = .returned (.bool (decide (a = b))) ∧ Ext w w' := by
  refine calls_act Try.func21 rfl Try.ntmps21 rfl rfl ?_
  show Code.wp _ _ _ (act 26 [(0, true, .slice A a.length ca), (1, true, .slice B b.length cb)] _) _
  have hX : Ext w w := Ext.rfl' w
  refine wp_seq ?_
  refine region_s ?_
  refine q_look (look_assign rfl rfl) ?_
  refine q_nil ?_
  rintro _ rfl
  refine then_normal ?_
  refine wp_seq ?_
  refine wp_seq ?_
  refine region_s ?_
  refine q_look (look_move rfl rfl) ?_
  refine q_look (look_len_slice Try.underlying40 rfl rfl) ?_
  refine q_look (look_move rfl rfl) ?_
  refine q_look (look_len_slice Try.underlying40 rfl rfl) ?_
  refine q_look (look_neq rfl rfl rfl rfl) ?_
  refine q_nil ?_
  rintro _ rfl
  refine then_normal ?_
  refine cond_split rfl (fun hc10 => ?_) (fun hc10 => ?_)
  · have hne : ¬ a.length = b.length := by simp at hc10; omega
    refine wp_seq ?_
    refine region_s ?_
    refine q_look (look_assign rfl rfl) ?_
    refine q_nil ?_
    rintro _ rfl
    refine then_normal ?_
    refine wp_ret ?_
    refine then_ret ?_
    exact res1 Try.results21 rfl ⟨ret_bool (by rw [eq_comm, decide_eq_false_iff_not]; intro e; exact hne (by rw [e])), hX⟩
  · have heq : a.length = b.length := by simp at hc10; omega
    refine wp_skip ?_
    refine then_normal ?_
    refine wp_seq ?_
    refine wp_seq ?_
    refine region_s ?_
    refine q_look (look_assign rfl rfl) ?_
    refine q_nil ?_
    rintro _ rfl
    refine then_normal ?_
    refine wp_block ?_
    refine loop_act (fun (k : Nat) => [(0, .slice A a.length ca), (1, .slice B b.length cb), (5, .int .i64 (k : Int))]) (fun k w' => (Ext w w') ∧ (k ≤ a.length) ∧ (a.take k = b.take k)) (fun k => a.length - k) (0) ?_ ?_ ?_
    · exact ⟨rfl, rfl, rfl, trivial⟩
    · exact ⟨hX, Nat.zero_le _, rfl⟩
    · rintro k σ wr hF
      obtain ⟨hX, hk, hs⟩ : (Ext w wr) ∧ (k ≤ a.length) ∧ (a.take k = b.take k) := hF
      show Code.wp _ _ _ (act 26 [(0, true, .slice A a.length ca), (1, true, .slice B b.length cb), (5, true, .int .i64 (k : Int))] _) _
      refine wp_seq ?_
      refine wp_seq ?_
      refine region_s ?_
      refine q_look (look_move rfl rfl) ?_
      refine q_look (look_move rfl rfl) ?_
      refine q_look (look_len_slice Try.underlying40 rfl rfl) ?_
      refine q_look (look_lss rfl rfl rfl rfl) ?_
      refine q_nil ?_
      rintro _ rfl
      refine then_normal ?_
      refine cond_split rfl (fun hc14 => ?_) (fun hc14 => ?_)
      · have hlt : k < a.length := by simp at hc14; omega
        obtain ⟨x, hx⟩ := get_lt hlt
        obtain ⟨y, hy⟩ := get_lt (show k < b.length by omega)
        obtain ⟨b1, o1, rfl, h1⟩ := (hA.ext hX).at_ hlt
        obtain ⟨b2, o2, rfl, h2⟩ := (hB.ext hX).at_ (show k < b.length by omega)
        refine wp_skip ?_
        refine then_normal ?_
        refine wp_seq ?_
        refine wp_block ?_
        refine wp_seq ?_
        refine region_qd mixed (by kernel_rfl) ?_
        refine q_look (look_move rfl rfl) ?_
        refine q_look (look_move rfl rfl) ?_
        refine q_look (look_indexAddr _ Try.underlying40 szTry_9 rfl rfl rfl rfl rfl (by omega)) ?_
        refine q_look (look_load1 Try.underlying9 rfl rfl rfl (ext_cell ((h1 k x hx) 0 _ rfl))) ?_
        refine q_look (look_move rfl rfl) ?_
        refine q_look (look_move rfl rfl) ?_
        refine q_look (look_indexAddr _ Try.underlying40 szTry_9 rfl rfl rfl rfl rfl (by omega)) ?_
        refine q_look (look_load1 Try.underlying9 rfl rfl rfl (ext_cell ((h2 k y hy) 0 _ rfl))) ?_
        refine q_look (look_neq_str rfl rfl rfl rfl) ?_
        refine q_nil ?_
        intro w1 hw1
        replace hX := hX.comp hw1
        refine then_normal ?_
        refine cond_split rfl (fun hc25 => ?_) (fun hc25 => ?_)
        · have hxy : ¬ x = y := by simpa using hc25
          refine wp_seq ?_
          refine region_s ?_
          refine q_look (look_assign rfl rfl) ?_
          refine q_nil ?_
          rintro _ rfl
          refine then_normal ?_
          refine wp_ret ?_
          refine inB_ret ?_
          refine then_ret ?_
          refine then_ret ?_
          refine inB_ret ?_
          refine then_ret ?_
          exact res1 Try.results21 rfl ⟨ret_bool (by rw [eq_comm, decide_eq_false_iff_not]; exact not_same hx hy hxy), hX⟩
        · have hxy : x = y := by simpa using hc25
          refine wp_skip ?_
          refine inB_normal ?_
          refine then_normal ?_
          refine region_s ?_
          refine q_look (look_move rfl rfl) ?_
          refine q_look (look_add rfl rfl rfl rfl (by have := maxLen_is; unfold I64; omega)) ?_
          refine q_look (look_assign rfl rfl) ?_
          refine q_nil ?_
          rintro _ rfl
          exact loop_end (k + 1) (by omega) ⟨rfl, rfl, rfl, trivial⟩ ⟨hX, by omega, by rw [take_get hx, take_get hy, hs, hxy]⟩
      · have hge : ¬ k < a.length := by simp at hc14; omega
        refine wp_exit ?_
        refine then_exit ?_
        refine then_exit ?_
        refine inB_exit_same ?_
        refine then_normal ?_
        refine wp_seq ?_
        refine region_s ?_
        refine q_look (look_assign rfl rfl) ?_
        refine q_nil ?_
        rintro _ rfl
        refine then_normal ?_
        refine wp_ret ?_
        exact res1 Try.results21 rfl ⟨ret_bool (by rw [eq_comm, decide_eq_true_eq]; exact all_same heq (by rw [show k = a.length by omega] at hs; exact hs)), hX⟩

theorem index_any (l : List Int) (A : Option Addr) (cap : Nat) (x : Int) (w : World) (hA : Sl icell 1 w A l) (hla : l.length ≤ maxLen) :
    Calls Try.prog 32 #[.slice A l.length cap, .int .i64 x] w fun e w' => e = .returned (.int .i64 (fi x l 0)) ∧ Ext w w' := by
  refine calls_act Try.func32 rfl Try.ntmps32 rfl rfl ?_
  show Code.wp _ _ _ (act 19 [(0, true, .slice A l.length cap), (1, true, .int .i64 x)] _) _
  have hX : Ext w w := Ext.rfl' w
  refine wp_seq ?_
  refine region_s ?_
  refine q_look (look_assign rfl rfl) ?_
  refine q_nil ?_
  rintro _ rfl
  refine then_normal ?_
  refine wp_seq ?_
  refine wp_seq ?_
  refine region_s ?_
  refine q_look (look_move rfl rfl) ?_
  refine q_look (look_len_slice Try.underlying23 rfl rfl) ?_
  refine q_look (look_move rfl rfl) ?_
  refine q_nil ?_
  rintro _ rfl
  refine then_normal ?_
  refine wp_block ?_
  refine loop_act (fun (k : Nat) => [(0, .slice A l.length cap), (1, .int .i64 x), (7, .int .i64 (l.length : Int)), (8, .int .i64 (k : Int))]) (fun k w' => (Ext w w') ∧ (k ≤ l.length) ∧ (fi x l 0 = fi x (l.drop k) (k : Int))) (fun k => l.length - k) (0) ?_ ?_ ?_
  · exact ⟨rfl, rfl, rfl, rfl, trivial⟩
  · exact ⟨hX, Nat.zero_le _, rfl⟩
  · rintro k σ wr hF
    obtain ⟨hX, hk, hf⟩ : (Ext w wr) ∧ (k ≤ l.length) ∧ (fi x l 0 = fi x (l.drop k) (k : Int)) := hF
    show Code.wp _ _ _ (act 19 [(0, true, .slice A l.length cap), (1, true, .int .i64 x), (7, true, .int .i64 (l.length : Int)), (8, true, .int .i64 (k : Int))] _) _
    refine wp_seq ?_
    refine region_s ?_
    refine q_look (look_lss rfl rfl rfl rfl) ?_
    refine q_nil ?_
    rintro _ rfl
    refine then_normal ?_
    refine wp_seq ?_
    refine cond_split rfl (fun hc9 => ?_) (fun hc9 => ?_)
    · have hlt : k < l.length := by simp at hc9; omega
      obtain ⟨y, hy⟩ := get_lt hlt
      obtain ⟨b1, o1, rfl, h1⟩ := (hA.ext hX).at_ hlt
      refine wp_skip ?_
      refine then_normal ?_
      refine wp_seq ?_
      refine wp_block ?_
      refine wp_seq ?_
      refine region_s ?_
      refine q_look (look_move rfl rfl) ?_
      refine q_look (look_assign rfl rfl) ?_
      refine q_nil ?_
      rintro _ rfl
      refine then_normal ?_
      refine wp_seq ?_
      refine region_s ?_
      refine q_look (look_move rfl rfl) ?_
      refine q_look (look_move rfl rfl) ?_
      refine q_look (look_move rfl rfl) ?_
      refine q_look (look_indexAddr _ Try.underlying23 szTry_3 rfl rfl rfl rfl rfl (by omega)) ?_
      refine q_look (look_load1 Try.underlying3 rfl rfl rfl (eqc ((h1 k y hy) 0 _ rfl))) ?_
      refine q_look (look_eql rfl rfl rfl rfl) ?_
      refine q_nil ?_
      rintro _ rfl
      refine then_normal ?_
      refine cond_split rfl (fun hc16 => ?_) (fun hc16 => ?_)
      · have hxy : x = y := by simpa using hc16
        refine wp_seq ?_
        refine region_s ?_
        refine q_look (look_move rfl rfl) ?_
        refine q_look (look_assign rfl rfl) ?_
        refine q_nil ?_
        rintro _ rfl
        refine then_normal ?_
        refine wp_ret ?_
        refine inB_ret ?_
        refine then_ret ?_
        refine then_ret ?_
        refine inB_ret ?_
        refine then_ret ?_
        exact res1 Try.results32 rfl ⟨ret_int (by rw [hf, drop_get hy, fi, if_pos hxy]), hX⟩
      · have hxy : ¬ x = y := by simpa using hc16
        refine wp_skip ?_
        refine inB_normal ?_
        refine then_normal ?_
        refine region_s ?_
        refine q_look (look_add rfl rfl rfl rfl (by have := maxLen_is; unfold I64; omega)) ?_
        refine q_look (look_move rfl rfl) ?_
        refine q_nil ?_
        rintro _ rfl
        exact loop_end (k + 1) (by omega) ⟨rfl, rfl, rfl, rfl, trivial⟩ ⟨hX, by omega, by rw [hf, drop_get hy, fi, if_neg hxy]; rfl⟩
    · have hge : ¬ k < l.length := by simp at hc9; omega
      refine wp_exit ?_
      refine then_exit ?_
      refine then_exit ?_
      refine inB_exit_same ?_
      refine then_normal ?_
      refine wp_seq ?_
      refine region_s ?_
      refine q_look (look_assign rfl rfl) ?_
      refine q_nil ?_
      rintro _ rfl
      refine then_normal ?_
      refine wp_ret ?_
      exact res1 Try.results32 rfl ⟨ret_int (by rw [hf, List.drop_eq_nil_of_le (by omega)]; rfl), hX⟩

theorem contains_any (l : List Int) (A : Option Addr) (cap : Nat) (x : Int) (w : World) (hA : Sl icell 1 w A l) (hla : l.length ≤ maxLen) :
    Calls Try.prog 28 #[.slice A l.length cap, .int .i64 x] w fun e w' => e = .returned (.bool (decide (x ∈ l))) ∧ Ext w w' := by
  refine calls_act Try.func28 rfl Try.ntmps28 rfl rfl ?_
  show Code.wp _ _ _ (act 9 [(0, true, .slice A l.length cap), (1, true, .int .i64 x)] _) _
  have hX : Ext w w := Ext.rfl' w
  refine wp_seq ?_
  refine region_s ?_
  refine q_look (look_assign rfl rfl) ?_
  refine q_nil ?_
  rintro _ rfl
  refine then_normal ?_
  refine wp_seq ?_
  refine region_q ?_
  refine q_look (look_move rfl rfl) ?_
  refine q_look (look_move rfl rfl) ?_
  refine q_call (vs := [_, _]) enTry_32 ⟨⟨_, rfl, rfl⟩, ⟨_, rfl, rfl⟩, trivial⟩ (fun wc hw => cext hw (index_any l A cap x wc (hA.ext (hX.comp hw)) hla)) ?_
  refine q_look (look_geq rfl rfl rfl rfl) ?_
  refine q_look (look_assign rfl rfl) ?_
  refine q_nil ?_
  intro w1 hw1
  replace hX := hX.comp hw1
  refine then_normal ?_
  refine wp_ret ?_
  exact res1 Try.results28 rfl ⟨ret_bool (fi_ge x l 0 (by omega)), hX⟩

theorem extent_any (p f n : Int) (w : World)  :
    Calls Try.prog 24 #[.int .i64 p, .int .i64 f, .int .i64 n] w fun e w' => e = .returned (.int .i64 (extentP p f n)) ∧ Ext w w' := by
  refine calls_act Try.func24 rfl Try.ntmps24 rfl rfl ?_
  show Code.wp _ _ _ (act 37 [(0, true, .int .i64 p), (1, true, .int .i64 f), (2, true, .int .i64 n)] _) _
  have hX : Ext w w := Ext.rfl' w
  refine wp_seq ?_
  refine region_s ?_
  refine q_look (look_assign rfl rfl) ?_
  refine q_nil ?_
  rintro _ rfl
  refine then_normal ?_
  refine wp_seq ?_
  refine region_s ?_
  refine q_look (look_move rfl rfl) ?_
  refine q_look (look_max2 rfl rfl rfl rfl) ?_
  refine q_look (look_min2 rfl rfl rfl rfl) ?_
  refine q_look (look_assign rfl rfl) ?_
  refine q_nil ?_
  rintro _ rfl
  refine then_normal ?_
  refine wp_seq ?_
  refine wp_seq ?_
  refine region_s ?_
  refine q_look (look_move rfl rfl) ?_
  refine q_look (look_lss rfl rfl rfl rfl) ?_
  refine q_look (look_move rfl rfl) ?_
  refine q_lookg rfl rfl rfl (fun hq => look_move rfl rfl) ?_
  refine q_lookg rfl rfl rfl (fun hq => look_gtr rfl hq rfl rfl) ?_
  refine q_look (look_or rfl rfl rfl rfl) ?_
  refine q_look (look_move rfl rfl) ?_
  refine q_lookg rfl rfl rfl (fun hq => look_move rfl rfl) ?_
  refine q_lookg rfl rfl rfl (fun hq => look_lss rfl hq rfl rfl) ?_
  refine q_look (look_or rfl rfl rfl rfl) ?_
  refine q_look (look_move rfl rfl) ?_
  refine q_lookg rfl rfl rfl (fun hq => look_move rfl rfl) ?_
  refine q_lookg rfl rfl rfl (fun hq => look_move rfl rfl) ?_
  refine q_lookg rfl rfl rfl (fun hq => look_gtr rfl hq rfl hq) ?_
  refine q_look (look_or rfl rfl rfl rfl) ?_
  refine q_nil ?_
  rintro _ rfl
  refine then_normal ?_
  refine cond_split rfl (fun hc24 => ?_) (fun hc24 => ?_)
  · have hd : n < 1 ∨ n > 1099511627776 ∨ f < 0 ∨ f > n := by simp at hc24; omega
    refine wp_seq ?_
    refine region_s ?_
    refine q_look (look_move rfl rfl) ?_
    refine q_look (look_assign rfl rfl) ?_
    refine q_nil ?_
    rintro _ rfl
    refine then_normal ?_
    refine wp_ret ?_
    refine then_ret ?_
    exact res1 Try.results24 rfl ⟨ret_int (by unfold extentP; rw [if_pos hd]; try rfl), hX⟩
  · have hd : ¬ (n < 1 ∨ n > 1099511627776 ∨ f < 0 ∨ f > n) := by simp at hc24; omega
    have hq : 0 ≤ 20 * f / n ∧ 20 * f / n ≤ 20 := ⟨Int.ediv_nonneg (by omega) (by omega), by have := Int.ediv_le_ediv (a := 20 * f) (b := 20 * n) (c := n) (by omega) (by omega); rw [Int.mul_ediv_cancel _ (by omega)] at this; exact this⟩
    have hcb := cut_bd p
    have hdb := dbl_bd hcb
    refine wp_skip ?_
    refine then_normal ?_
    refine wp_seq ?_
    refine wp_seq ?_
    refine region_s ?_
    refine q_look (look_move rfl rfl) ?_
    refine q_look (look_mul rfl rfl rfl rfl (by have := maxLen_is; unfold I64; omega)) ?_
    refine q_look (look_move rfl rfl) ?_
    refine q_look (look_quo rfl rfl rfl rfl (by omega) (by omega) (by omega)) ?_
    refine q_look (look_move rfl rfl) ?_
    refine q_nil ?_
    rintro _ rfl
    refine then_normal ?_
    refine wp_block ?_
    refine loop_act (fun (k : Nat) => [(6, .int .i64 (dbl k (cutP p))), (29, .int .i64 (20 * f / n)), (30, .int .i64 (k : Int))]) (fun k w' => (Ext w w') ∧ (k ≤ (20 * f / n).toNat)) (fun k => (20 * f / n).toNat - k) (0) ?_ ?_ ?_
    · exact ⟨rfl, rfl, rfl, trivial⟩
    · exact ⟨hX, Nat.zero_le _⟩
    · rintro k σ wr hF
      obtain ⟨hX, hk⟩ : (Ext w wr) ∧ (k ≤ (20 * f / n).toNat) := hF
      have hb := hdb k
      show Code.wp _ _ _ (act 37 [(6, true, .int .i64 (dbl k (cutP p))), (29, true, .int .i64 (20 * f / n)), (30, true, .int .i64 (k : Int))] _) _
      refine wp_seq ?_
      refine region_s ?_
      refine q_look (look_lss rfl rfl rfl rfl) ?_
      refine q_nil ?_
      rintro _ rfl
      refine then_normal ?_
      refine wp_seq ?_
      refine cond_split rfl (fun hc31 => ?_) (fun hc31 => ?_)
      · have hlt : (k : Int) < 20 * f / n := by simpa using hc31
        refine wp_skip ?_
        refine then_normal ?_
        refine wp_seq ?_
        refine wp_block ?_
        refine region_s ?_
        refine q_look (look_move rfl rfl) ?_
        refine q_look (look_mul rfl rfl rfl rfl (by have := maxLen_is; unfold I64; omega)) ?_
        refine q_look (look_min2 rfl rfl rfl rfl) ?_
        refine q_look (look_assign rfl rfl) ?_
        refine q_nil ?_
        rintro _ rfl
        refine inB_normal ?_
        refine then_normal ?_
        refine region_s ?_
        refine q_look (look_add rfl rfl rfl rfl (by have := maxLen_is; unfold I64; omega)) ?_
        refine q_look (look_move rfl rfl) ?_
        refine q_nil ?_
        rintro _ rfl
        exact loop_end (k + 1) (by omega) ⟨rfl, rfl, rfl, trivial⟩ ⟨hX, by omega⟩
      · have hge : ¬ (k : Int) < 20 * f / n := by simpa using hc31
        refine wp_exit ?_
        refine then_exit ?_
        refine then_exit ?_
        refine inB_exit_same ?_
        refine then_normal ?_
        refine wp_seq ?_
        refine region_s ?_
        refine q_look (look_move rfl rfl) ?_
        refine q_look (look_assign rfl rfl) ?_
        refine q_nil ?_
        rintro _ rfl
        refine then_normal ?_
        refine wp_ret ?_
        exact res1 Try.results24 rfl ⟨ret_int (by unfold extentP; rw [if_neg hd, show (20 * f / n).toNat = k by omega]), hX⟩

theorem refextent_any (p f n : Int) (w : World)  :
    Calls Try.prog 25 #[.int .i64 p, .int .i64 f, .int .i64 n] w fun e w' => e = .returned (.int .i64 (extentP p f n)) ∧ Ext w w' := by
  refine calls_act Try.func25 rfl Try.ntmps25 rfl rfl ?_
  show Code.wp _ _ _ (act 39 [(0, true, .int .i64 p), (1, true, .int .i64 f), (2, true, .int .i64 n)] _) _
  have hX : Ext w w := Ext.rfl' w
  refine wp_seq ?_
  refine region_s ?_
  refine q_look (look_assign rfl rfl) ?_
  refine q_nil ?_
  rintro _ rfl
  refine then_normal ?_
  refine wp_seq ?_
  refine region_q ?_
  refine q_look (look_move rfl rfl) ?_
  refine q_call (vs := [_]) enTry_31 ⟨⟨_, rfl, rfl⟩, trivial⟩ (fun wc hw => cext hw (cut_any p wc)) ?_
  refine q_look (look_assign rfl rfl) ?_
  refine q_nil ?_
  intro w1 hw1
  replace hX := hX.comp hw1
  refine then_normal ?_
  refine wp_seq ?_
  refine wp_seq ?_
  refine region_s ?_
  refine q_look (look_move rfl rfl) ?_
  refine q_look (look_lss rfl rfl rfl rfl) ?_
  refine q_look (look_move rfl rfl) ?_
  refine q_lookg rfl rfl rfl (fun hq => look_move rfl rfl) ?_
  refine q_lookg rfl rfl rfl (fun hq => look_gtr rfl hq rfl rfl) ?_
  refine q_look (look_or rfl rfl rfl rfl) ?_
  refine q_look (look_move rfl rfl) ?_
  refine q_lookg rfl rfl rfl (fun hq => look_move rfl rfl) ?_
  refine q_lookg rfl rfl rfl (fun hq => look_lss rfl hq rfl rfl) ?_
  refine q_look (look_or rfl rfl rfl rfl) ?_
  refine q_look (look_move rfl rfl) ?_
  refine q_lookg rfl rfl rfl (fun hq => look_move rfl rfl) ?_
  refine q_lookg rfl rfl rfl (fun hq => look_move rfl rfl) ?_
  refine q_lookg rfl rfl rfl (fun hq => look_gtr rfl hq rfl hq) ?_
  refine q_look (look_or rfl rfl rfl rfl) ?_
  refine q_nil ?_
  rintro _ rfl
  refine then_normal ?_
  refine cond_split rfl (fun hc25 => ?_) (fun hc25 => ?_)
  · have hd : n < 1 ∨ n > 1099511627776 ∨ f < 0 ∨ f > n := by simp at hc25; omega
    refine wp_seq ?_
    refine region_s ?_
    refine q_look (look_move rfl rfl) ?_
    refine q_look (look_assign rfl rfl) ?_
    refine q_nil ?_
    rintro _ rfl
    refine then_normal ?_
    refine wp_ret ?_
    refine then_ret ?_
    exact res1 Try.results25 rfl ⟨ret_int (by unfold extentP; rw [if_pos hd]; try rfl), hX⟩
  · have hd : ¬ (n < 1 ∨ n > 1099511627776 ∨ f < 0 ∨ f > n) := by simp at hc25; omega
    have hq : 0 ≤ 20 * f / n ∧ 20 * f / n ≤ 20 := ⟨Int.ediv_nonneg (by omega) (by omega), by have := Int.ediv_le_ediv (a := 20 * f) (b := 20 * n) (c := n) (by omega) (by omega); rw [Int.mul_ediv_cancel _ (by omega)] at this; exact this⟩
    have hcb := cut_bd p
    have hdb := dbl_bd hcb
    refine wp_skip ?_
    refine then_normal ?_
    refine wp_seq ?_
    refine wp_seq ?_
    refine region_s ?_
    refine q_look (look_assign rfl rfl) ?_
    refine q_nil ?_
    rintro _ rfl
    refine then_normal ?_
    refine wp_block ?_
    refine loop_act (fun (k : Nat) => [(1, .int .i64 f), (2, .int .i64 n), (7, .int .i64 (dbl k (cutP p))), (8, .int .i64 (k : Int))]) (fun k w' => (Ext w w') ∧ (k ≤ (20 * f / n).toNat)) (fun k => (20 * f / n).toNat - k) (0) ?_ ?_ ?_
    · exact ⟨rfl, rfl, rfl, rfl, trivial⟩
    · exact ⟨hX, Nat.zero_le _⟩
    · rintro k σ wr hF
      obtain ⟨hX, hk⟩ : (Ext w wr) ∧ (k ≤ (20 * f / n).toNat) := hF
      have hb := hdb k
      show Code.wp _ _ _ (act 39 [(1, true, .int .i64 f), (2, true, .int .i64 n), (7, true, .int .i64 (dbl k (cutP p))), (8, true, .int .i64 (k : Int))] _) _
      refine wp_seq ?_
      refine wp_seq ?_
      refine region_s ?_
      refine q_look (look_move rfl rfl) ?_
      refine q_look (look_move rfl rfl) ?_
      refine q_look (look_mul rfl rfl rfl rfl (by have := maxLen_is; unfold I64; omega)) ?_
      refine q_look (look_move rfl rfl) ?_
      refine q_look (look_quo rfl rfl rfl rfl (by omega) (by omega) (by omega)) ?_
      refine q_look (look_lss rfl rfl rfl rfl) ?_
      refine q_nil ?_
      rintro _ rfl
      refine then_normal ?_
      refine cond_split rfl (fun hc32 => ?_) (fun hc32 => ?_)
      · have hlt : (k : Int) < 20 * f / n := by simpa using hc32
        refine wp_skip ?_
        refine then_normal ?_
        refine wp_seq ?_
        refine wp_block ?_
        refine region_s ?_
        refine q_look (look_move rfl rfl) ?_
        refine q_look (look_mul rfl rfl rfl rfl (by have := maxLen_is; unfold I64; omega)) ?_
        refine q_look (look_min2 rfl rfl rfl rfl) ?_
        refine q_look (look_assign rfl rfl) ?_
        refine q_nil ?_
        rintro _ rfl
        refine inB_normal ?_
        refine then_normal ?_
        refine region_s ?_
        refine q_look (look_move rfl rfl) ?_
        refine q_look (look_add rfl rfl rfl rfl (by have := maxLen_is; unfold I64; omega)) ?_
        refine q_look (look_assign rfl rfl) ?_
        refine q_nil ?_
        rintro _ rfl
        exact loop_end (k + 1) (by omega) ⟨rfl, rfl, rfl, rfl, trivial⟩ ⟨hX, by omega⟩
      · have hge : ¬ (k : Int) < 20 * f / n := by simpa using hc32
        refine wp_exit ?_
        refine then_exit ?_
        refine then_exit ?_
        refine inB_exit_same ?_
        refine then_normal ?_
        refine wp_seq ?_
        refine region_s ?_
        refine q_look (look_move rfl rfl) ?_
        refine q_look (look_assign rfl rfl) ?_
        refine q_nil ?_
        rintro _ rfl
        refine then_normal ?_
        refine wp_ret ?_
        exact res1 Try.results25 rfl ⟨ret_int (by unfold extentP; rw [if_neg hd, show (20 * f / n).toNat = k by omega]), hX⟩

end Go.Proofs.Ytobgfnlfbjodjaa
