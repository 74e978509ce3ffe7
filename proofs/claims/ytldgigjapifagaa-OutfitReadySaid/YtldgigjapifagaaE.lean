/- The walks of chapter 47 (outfit), fifth part: what an order is; the iterator Backward. -/
import Derived.Test.YtldgigjapifagaaD
import Derived.Test.YtldgigjapifagaaMarks
namespace Go.Proofs.Ytldgigjapifagaa
open Go Go.RowKit Core
set_option linter.unusedVariables false
set_option linter.unusedSimpArgs false
attribute [local irreducible] wpQuiet wpList wpH wpT Code.wp Calls bodyPost act


def openP (ps : List Pk) (od : List Int) (x : ByteArray) : Bool := decide (0 ≤ findP x ps) && !decide (findP x ps ∈ od)
def freeP (ps : List Pk) (od : List Int) (p : Pk) : Bool := !(p.after.any (openP ps od))
/-- The first package that is not taken and free, counted from k. -/
def nxtG (ps : List Pk) (od : List Int) : List Pk → Int → Int
  | [], _ => -1
  | p :: r, k => if ¬ k ∈ od ∧ freeP ps od p = true then k else nxtG ps od r (k + 1)
def nextI (ps : List Pk) (od : List Int) : Int := nxtG ps od ps 0
def ordRun (ps : List Pk) : Nat → List Int → Option (List Int)
  | 0, od => some od
  | f + 1, od => if nextI ps od < 0 then none else ordRun ps f (od ++ [nextI ps od])
def oErr (ps : List Pk) : Int := if 64 < ps.length then 4 else match ordRun ps ps.length [] with
  | none => 20
  | some _ => 0
def oList (ps : List Pk) : List Int := if 64 < ps.length then [] else (ordRun ps ps.length []).getD []
theorem nxtG_bd (ps : List Pk) (od : List Int) : ∀ (l : List Pk) (k : Int), 0 ≤ k → nxtG ps od l k = -1 ∨ (k ≤ nxtG ps od l k ∧ nxtG ps od l k < k + (l.length : Int) ∧ ¬ nxtG ps od l k ∈ od)
  | [], k, hk => .inl rfl
  | p :: r, k, hk => by
    unfold nxtG
    split
    · rename_i h
      right; simp only [List.length_cons]; exact ⟨by omega, by omega, h.1⟩
    · rcases nxtG_bd ps od r (k + 1) (by omega) with h | ⟨h1, h2, h3⟩
      · exact .inl h
      · right; simp only [List.length_cons]; exact ⟨by omega, by omega, h3⟩
theorem next_bd (ps : List Pk) (od : List Int) : nextI ps od = -1 ∨ (0 ≤ nextI ps od ∧ nextI ps od < (ps.length : Int) ∧ ¬ nextI ps od ∈ od) := by
  rcases nxtG_bd ps od ps 0 (by omega) with h | ⟨h1, h2, h3⟩
  · exact .inl h
  · right; unfold nextI; exact ⟨by omega, by omega, h3⟩
/-- The map that the code fills: each identifier's first package, and whether it is taken. -/
abbrev Ix (ps : List Pk) := { i : Nat // i < ps.length }
def mmP (ps : List Pk) (od : List Int) (xs : List (Ix ps)) : List (ByteArray × Bool) := xs.foldl (fun m x => mput m (ps[x.1]'x.2).id (decide ((x.1 : Int) ∈ od))) []
theorem mmP_snoc (ps : List Pk) (od : List Int) (xs : List (Ix ps)) (x : Ix ps) : mmP ps od (xs ++ [x]) = mput (mmP ps od xs) (ps[x.1]'x.2).id (decide ((x.1 : Int) ∈ od)) := by simp [mmP]
/-- The indices that have come when k rounds are over, from the last one down. -/
def bkl (ps : List Pk) (k : Nat) : List (Ix ps) := (List.range k).filterMap fun j => if h : ps.length - 1 - j < ps.length then some ⟨ps.length - 1 - j, h⟩ else none
theorem bkl_succ (ps : List Pk) {k : Nat} (h : k < ps.length) : bkl ps (k + 1) = bkl ps k ++ [⟨ps.length - 1 - k, by omega⟩] := by
  unfold bkl
  rw [List.range_succ, List.filterMap_append]
  congr 1
  simp [show ps.length - 1 - k < ps.length by omega]
theorem bkl_len (ps : List Pk) : ∀ k, k ≤ ps.length → (bkl ps k).length = k
  | 0, _ => rfl
  | k + 1, h => by rw [bkl_succ ps (by omega), List.length_append, bkl_len ps k (by omega)]; rfl
theorem mm_spec (ps : List Pk) (od : List Int) (id : ByteArray) : ∀ k, k ≤ ps.length → mget (mmP ps od (bkl ps k)) id =
    if fiG (fun p => decide (p.id = id)) (ps.drop (ps.length - k)) ((ps.length - k : Nat) : Int) < 0 then none else some (decide (fiG (fun p => decide (p.id = id)) (ps.drop (ps.length - k)) ((ps.length - k : Nat) : Int) ∈ od))
  | 0, _ => by rw [List.drop_eq_nil_of_le (by omega)]; rfl
  | k + 1, h => by
    have ih := mm_spec ps od id k (by omega)
    have hi : ps.length - (k + 1) < ps.length := by omega
    have hg : ps[ps.length - (k + 1)]? = some (ps[ps.length - (k + 1)]'hi) := List.getElem?_eq_getElem hi
    have e : ps.length - 1 - k = ps.length - (k + 1) := by omega
    rw [bkl_succ ps (by omega), mmP_snoc, mget_put, drop_get hg, fiG]
    simp only [e]
    by_cases hid : (ps[ps.length - (k + 1)]'hi).id = id
    · rw [if_pos hid.symm, if_pos (decide_eq_true hid), if_neg (by omega)]
    · rw [if_neg (fun h => hid h.symm), ih]
      have e3 : ps.length - (k + 1) + 1 = ps.length - k := by omega
      have e2 : ((ps.length - (k + 1) : Nat) : Int) + 1 = ((ps.length - k : Nat) : Int) := by omega
      have e4 : ∀ a b : Int, (if decide ((ps[ps.length - (k + 1)]'hi).id = id) = true then a else b) = b := fun a b => if_neg (by rw [decide_eq_false hid]; intro h; cases h)
      rw [e3, e2]
      simp only [e4]
theorem mm_all (ps : List Pk) (od : List Int) (id : ByteArray) : mget (mmP ps od (bkl ps ps.length)) id = if findP id ps < 0 then none else some (decide (findP id ps ∈ od)) := by
  have := mm_spec ps od id ps.length (Nat.le_refl _)
  rw [Nat.sub_self, List.drop_zero] at this
  exact this
theorem open_mm {ps : List Pk} {od : List Int} {m : List (ByteArray × Bool)} (h : ∀ id, mget m id = if findP id ps < 0 then none else some (decide (findP id ps ∈ od))) (x : ByteArray) : ((mget m x).isSome && !((mget m x).getD false)) = openP ps od x := by
  rw [h x]
  unfold openP
  by_cases h0 : findP x ps < 0
  · rw [if_pos h0, decide_eq_false (p := 0 ≤ findP x ps) (by omega)]; rfl
  · rw [if_neg h0, decide_eq_true (p := 0 ≤ findP x ps) (by omega)]; rfl
theorem Sl.kpm {α : Type} {ce : α → List Value} {size n0 mb : Nat} {A B : World} {Ad : Option Addr} {l : List α} (h : Sl ce size A Ad l) (k : KpM n0 mb A B) (hb : ∀ b o, Ad = some ⟨b, o, none⟩ → b < n0 ∧ b ≠ mb) : Sl ce size B Ad l := by
  rcases h with h | ⟨b, o, rfl, h2⟩
  · exact .inl h
  · obtain ⟨h3, h4⟩ := hb b o rfl
    exact .inr ⟨b, o, rfl, fun i x hx j v hv => (World.cell?_of_block (w := A) (a := ⟨b, o + i * size + j, none⟩) (k.2 b h3 h4)).trans (h2 i x hx j v hv)⟩

theorem open1_any (x0 : ByteArray) (g mb : Nat) (m : List (ByteArray × Bool)) (w : World) (hI : Blk w g 60 [.map (some mb)]) (hM : MapB kS w mb m) :
    Calls Try.prog 41 #[.string x0, .pointer (some ⟨g, 0, none⟩)] w fun e w' => e = .returned (.bool ((mget m x0).isSome && !((mget m x0).getD false))) ∧ Ext w w' := by
  refine calls_act Try.func41 rfl Try.ntmps41 rfl rfl ?_
  show Code.wp _ _ _ (act 17 [(0, true, .string x0), (1, true, .pointer (some ⟨g, 0, none⟩))] _) _
  have hX : Ext w w := Ext.rfl' w
  refine wp_seq ?_
  refine region_s ?_
  refine q_look (look_assign rfl rfl) ?_
  refine q_nil ?_
  rintro _ rfl
  refine then_normal ?_
  refine wp_seq ?_
  refine region_s ?_
  refine q_look (look_load1 Try.underlying60 rfl rfl rfl (eqc (hI.cell rfl))) ?_
  refine q_look (look_move rfl rfl) ?_
  refine q_look (look_map_ok (a := x0) klS Try.underlying60 zv4 rfl rfl rfl rfl (fun w' e => e ▸ hM)) ?_
  refine q_look (look_move rfl rfl) ?_
  refine q_look (look_extract rfl rfl rfl) ?_
  refine q_look (look_extract rfl rfl rfl) ?_
  refine q_look (look_assign rfl rfl) ?_
  refine q_look (look_assign rfl rfl) ?_
  refine q_nil ?_
  rintro _ rfl
  refine then_normal ?_
  refine wp_seq ?_
  refine region_s ?_
  refine q_look (look_move rfl rfl) ?_
  refine q_look (look_move rfl rfl) ?_
  refine q_lookg rfl rfl rfl (fun hq => look_move rfl rfl) ?_
  refine q_lookg rfl rfl rfl (fun hq => look_not rfl hq) ?_
  refine q_look (look_and rfl rfl rfl rfl) ?_
  refine q_look (look_assign rfl rfl) ?_
  refine q_nil ?_
  rintro _ rfl
  refine then_normal ?_
  refine wp_ret ?_
  exact res1 Try.results41 rfl ⟨rfl, hX⟩

theorem back_any (ps : List Pk) (A : Option Addr) (c : Nat) (w : World)  :
    Calls Try.prog 40 #[.slice A ps.length c] w fun e w' => ∃ g, e = .returned (.func (.func 47) #[] #[.pointer (some ⟨g, 0, none⟩)]) ∧ Ext w w' ∧ Blk w' g 25 [.slice A ps.length c] ∧ w.heap.size ≤ g := by
  refine calls_act Try.func40 rfl Try.ntmps40 rfl rfl ?_
  show Code.wp _ _ _ (act 4 [(0, true, .slice A ps.length c)] _) _
  have hX : Ext w w := Ext.rfl' w
  refine wp_seq ?_
  refine wp_region_lit ?_
  refine s_box rfl ?_
  intro g1 u1 hu1 hB1 hg1 hs1
  replace hB1 : Blk u1 g1 25 ([.slice A ps.length c]) := hB1
  have ge_g1 : w.heap.size ≤ g1 := by have := hX.size; omega
  replace hX := hX.comp hu1
  refine s_look (look_assign rfl rfl) ?_
  refine s_nil ?_
  refine then_normal ?_
  refine wp_seq ?_
  refine region_s ?_
  refine q_look (look_makeFunc (vs := [_]) ⟨⟨_, rfl, rfl⟩, trivial⟩) ?_
  refine q_look (look_assign rfl rfl) ?_
  refine q_nil ?_
  rintro _ rfl
  refine then_normal ?_
  refine wp_ret ?_
  exact res1 Try.results40 rfl ⟨_, rfl, hX, hB1, ge_g1⟩

theorem back1_any (ps : List Pk) (A : Option Addr) (c : Nat) (lp g n0 mb : Nat) (J Jx : List (Ix ps) → World → Prop) (w : World) (hY : ∀ (pre : List (Ix ps)) (x : Ix ps) (W1 : World), J pre W1 → pre.length < ps.length → YieldAt Fence.wide (2 - 1) Try.prog lp #[.int .i64 (x.1 : Int), .agg (pcell (ps[x.1]'x.2)).toArray] W1 fun e W' => (e = .returned (.bool true) ∧ J (pre ++ [x]) W' ∧ KpM n0 mb W1 W') ∨ (e = .returned (.bool false) ∧ Jx (pre ++ [x]) W')) (hB : Blk w g 25 [.slice A ps.length c]) (hS : Sl pcell 5 w A ps) (hJ : J [] w) (hpl : ps.length ≤ maxLen) (hgl : g < n0 ∧ g ≠ mb) (hAl : ∀ b o, A = some ⟨b, o, none⟩ → b < n0 ∧ b ≠ mb) :
    Calls Try.prog 47 #[.func (.yield lp) #[] #[], .pointer (some ⟨g, 0, none⟩)] w fun e w' => (∃ v, e = .returned v) ∧ ((∃ xs, xs = bkl ps ps.length ∧ J xs w') ∨ (∃ pre, True ∧ Jx pre w')) := by
  refine calls_act Try.func47 rfl Try.ntmps47 rfl rfl ?_
  show Code.wp _ _ _ (act 19 [(0, true, .func (.yield lp) #[] #[]), (1, true, .pointer (some ⟨g, 0, none⟩))] _) _
  have hX : True := trivial
  refine wp_seq ?_
  refine region_s ?_
  refine q_look (look_load1 Try.underlying25 rfl rfl rfl (eqc (hB.cell rfl))) ?_
  refine q_look (look_len_slice Try.underlying25 rfl rfl) ?_
  refine q_look (look_sub rfl rfl rfl rfl (by have := maxLen_is; unfold I64; omega)) ?_
  refine q_look (look_assign rfl rfl) ?_
  refine q_nil ?_
  rintro _ rfl
  refine then_normal ?_
  refine wp_block ?_
  refine loop_act (fun (k : Nat) => [(0, .func (.yield lp) #[] #[]), (1, .pointer (some ⟨g, 0, none⟩)), (3, .int .i64 ((ps.length : Int) - 1 - (k : Int)))]) (fun k w' => (Blk w' g 25 [.slice A ps.length c]) ∧ (Sl pcell 5 w' A ps) ∧ (J (bkl ps k) w') ∧ (k ≤ ps.length)) (fun k => ps.length - k) (0) ?_ ?_ ?_
  · exact ⟨rfl, rfl, (congrArg (fun t => some (true, Value.int .i64 t)) (show (ps.length : Int) - 1 = (ps.length : Int) - 1 - ((0 : Nat) : Int) by omega)), trivial⟩
  · exact ⟨hB, hS, hJ, Nat.zero_le _⟩
  · rintro k σ wr hF
    obtain ⟨hB, hS, hJ, hk⟩ : (Blk wr g 25 [.slice A ps.length c]) ∧ (Sl pcell 5 wr A ps) ∧ (J (bkl ps k) wr) ∧ (k ≤ ps.length) := hF
    show Code.wp _ _ _ (act 19 [(0, true, .func (.yield lp) #[] #[]), (1, true, .pointer (some ⟨g, 0, none⟩)), (3, true, .int .i64 ((ps.length : Int) - 1 - (k : Int)))] _) _
    refine wp_seq ?_
    refine wp_seq ?_
    refine region_s ?_
    refine q_look (look_move rfl rfl) ?_
    refine q_look (look_geq rfl rfl rfl rfl) ?_
    refine q_nil ?_
    rintro _ rfl
    refine then_normal ?_
    refine cond_split rfl (fun hc8 => ?_) (fun hc8 => ?_)
    · have hlt : k < ps.length := by have := nn_t hc8; omega
      have hi : ps.length - 1 - k < ps.length := by omega
      obtain ⟨y, hy⟩ := get_lt hi
      obtain ⟨b1, o1, rfl, _⟩ := hS.at_ hi
      have hyx : y = ps[ps.length - 1 - k] := by rw [List.getElem?_eq_getElem hi] at hy; exact (Option.some.inj hy).symm
      refine wp_skip ?_
      refine then_normal ?_
      refine wp_seq ?_
      refine wp_block ?_
      refine wp_seq ?_
      refine (wpIn_wide (n := 2)).1 (wpIn_region_lit ?_)
      refine si_look (look_move rfl rfl) ?_
      refine si_look (look_move rfl rfl) ?_
      refine si_look (look_load1 Try.underlying25 rfl rfl rfl (eqc (hB.cell rfl))) ?_
      refine si_look (look_move rfl rfl) ?_
      refine si_look (look_indexAddr (ps.length - 1 - k) Try.underlying25 szTry_48 rfl rfl rfl rfl (by omega) (by omega)) ?_
      refine si_look (look_loadN Try.underlying48 rfl szTry_48 rfl rfl rfl (cs := pcell y) (eqn (hS.rd (ps.length - 1 - k) y hy))) ?_
      refine si_yield (vs := [.int .i64 ((ps.length : Int) - 1 - (k : Int)), .agg (pcell y).toArray]) rfl ⟨⟨_, rfl, rfl⟩, ⟨_, rfl, rfl⟩, trivial⟩ (by have h9 := hY (bkl ps k) ⟨ps.length - 1 - k, hi⟩ _ hJ (by rw [bkl_len ps k hk]; exact hlt); simp only [← hyx] at h9; rw [show ((ps.length - 1 - k : Nat) : Int) = (ps.length : Int) - 1 - (k : Int) by omega] at h9; exact h9) ?_
      rintro e W3 (⟨rfl, hJ3, hk3⟩ | ⟨rfl, hJ3⟩)
      · have hB3 : Blk W3 g 25 _ := (hk3.2 g hgl.1 hgl.2).trans hB
        have hS3 := Sl.kpm hS hk3 hAl
        refine ⟨_, rfl, ?_⟩
        refine si_look (look_not rfl rfl) ?_
        refine wpListIn_nil ?_
        refine then_normal ?_
        refine cond_false rfl rfl ?_
        refine wp_skip ?_
        refine inB_normal ?_
        refine then_normal ?_
        refine region_s ?_
        refine q_look (look_move rfl rfl) ?_
        refine q_look (look_sub rfl rfl rfl rfl (by have := maxLen_is; unfold I64; omega)) ?_
        refine q_look (look_assign rfl rfl) ?_
        refine q_nil ?_
        rintro _ rfl
        exact loop_end (k + 1) (by omega) ⟨rfl, rfl, (congrArg (fun t => some (true, Value.int .i64 t)) (show (ps.length : Int) - 1 - (k : Int) - 1 = (ps.length : Int) - 1 - ((k + 1 : Nat) : Int) by omega)), trivial⟩ ⟨hB3, hS3, (by rw [bkl_succ ps hlt]; exact hJ3), by omega⟩
      · refine ⟨_, rfl, ?_⟩
        refine si_look (look_not rfl rfl) ?_
        refine wpListIn_nil ?_
        refine then_normal ?_
        refine cond_true rfl rfl ?_
        refine wp_ret ?_
        refine inB_ret ?_
        refine then_ret ?_
        refine then_ret ?_
        refine inB_ret ?_
        exact res0 Try.results47 ⟨⟨_, rfl⟩, .inr ⟨_, trivial, hJ3⟩⟩
    · obtain rfl : k = ps.length := by have := nn_f hc8; omega
      refine wp_exit ?_
      refine then_exit ?_
      refine then_exit ?_
      refine inB_exit_same ?_
      exact resE Try.results47 ⟨⟨_, rfl⟩, .inl ⟨_, rfl, hJ⟩⟩


theorem back_seq (ps : List Pk) (A : Option Addr) (c : Nat) (g mb : Nat) (w : World) (hB : Blk w g 25 [.slice A ps.length c]) (hS : Sl pcell 5 w A ps) (hpl : ps.length ≤ maxLen) (hgl : g ≠ mb) (hAl : ∀ b o, A = some ⟨b, o, none⟩ → b < w.heap.size ∧ b ≠ mb) :
    SeqStopsK Fence.wide 2 Try.prog 47 #[.pointer (some ⟨g, 0, none⟩)] (fun x : Ix ps => #[Value.int .i64 (x.1 : Int), .agg (pcell (ps[x.1]'x.2)).toArray]) (KpM w.heap.size mb) (fun xs => xs = bkl ps ps.length) (fun _ => True) ps.length w := fun l J Jx W hW _ _ hY h0 =>
  callsIn_wide.2 (back1_any ps A c l g w.heap.size mb J Jx W hY (hB.ext hW) (hS.ext hW) h0 hpl ⟨hB.lt, hgl⟩ hAl)

end Go.Proofs.Ytldgigjapifagaa
