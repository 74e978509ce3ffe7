/- The walks of chapter 44 (route), third part: Small, CheckGrid, Check. -/
import Derived.Test.YthddekipelbooaaB
namespace Go.Proofs.Ythddekipelbooaa
open Go Go.RowKit Core
set_option linter.unusedVariables false
set_option linter.unusedSimpArgs false
attribute [local irreducible] wpQuiet wpList wpH wpT Code.wp Calls bodyPost act


def szA (g : Gr) : Bool := szB g.nx && szB g.ny && szB g.nz
theorem szB_iff {n : Int} : szB n = true ↔ 1 ≤ n ∧ n ≤ 24 := by unfold szB; simp
theorem szA_iff {g : Gr} : szA g = true ↔ (1 ≤ g.nx ∧ g.nx ≤ 24) ∧ (1 ≤ g.ny ∧ g.ny ≤ 24) ∧ (1 ≤ g.nz ∧ g.nz ≤ 24) := by unfold szA; rw [Bool.and_eq_true, Bool.and_eq_true, szB_iff, szB_iff, szB_iff]; exact and_assoc
theorem mul_bd {a b : Int} (ha : 0 ≤ a) {A B : Int} (hA : a ≤ A) (hb : 0 ≤ b) (hB : b ≤ B) : 0 ≤ a * b ∧ a * b ≤ A * B :=
  ⟨Int.mul_nonneg ha hb, Int.le_trans (Int.mul_le_mul_of_nonneg_right hA hb) (Int.mul_le_mul_of_nonneg_left hB (by omega))⟩
theorem vol_bd {g : Gr} (h : szA g = true) : (0 ≤ g.nx * g.ny ∧ g.nx * g.ny ≤ 576) ∧ 0 ≤ g.nx * g.ny * g.nz ∧ g.nx * g.ny * g.nz ≤ 13824 := by
  obtain ⟨h1, h2, h3⟩ := szA_iff.1 h
  have h4 := mul_bd (a := g.nx) (b := g.ny) (by omega) h1.2 (by omega) h2.2
  have h5 := mul_bd (a := g.nx * g.ny) (b := g.nz) h4.1 h4.2 (by omega) h3.2
  omega
def smallB (g : Gr) : Bool := szA g && decide (g.nx * g.ny * g.nz ≤ 300) && decide ((g.bl.length : Int) ≤ 300)
theorem gq_t {b : Bool} (h : gq true b true = true) : b = true := by cases b <;> simp_all [gq]
theorem gq_f {b : Bool} (h : gq true b false = true) : b = false := by cases b <;> simp_all [gq]
theorem g_pos {k : Nat} (h : gq true (decide ((0 : Int) < (k : Int))) true = true) : 0 < k := by have := of_decide_eq_true (gq_t h); omega
theorem g_pos1 {k : Nat} (h : gq true (decide ((1 : Int) < (k : Int))) true = true) : 1 < k := by have := of_decide_eq_true (gq_t h); omega
theorem prev_ex {α : Type} (l : List α) (k : Nat) (x : α) (hk : k ≤ l.length) : ∃ px, 0 < k → l[k - 1]? = some px := by
  by_cases h : 0 < k
  · obtain ⟨p, hp⟩ := get_lt (show k - 1 < l.length by omega)
    exact ⟨p, fun _ => hp⟩
  · exact ⟨x, fun h' => (h h').elim⟩
def pv (l : List Cl) (k : Nat) : Option Cl := if k = 0 then none else l[k - 1]?
theorem pv_succ {l : List Cl} {k : Nat} {x : Cl} (h : l[k]? = some x) : pv l (k + 1) = some x := by unfold pv; rw [if_neg (by omega)]; exact h
def ordB : Option Cl → Cl → Bool
  | none, _ => true
  | some q, c => befB q c
def nrB : Option Cl → Cl → Bool
  | none, _ => true
  | some q, c => nearB q c
def ckL (g : Gr) : Option Cl → List Cl → Int
  | _, [] => 0
  | p, c :: r => if inB g c = true then (if ordB p c = true then ckL g (some c) r else 11) else 2
def chkP (g : Gr) : Int := if szA g = true then ckL g none g.bl else 9
theorem ck_step {g : Gr} {l : List Cl} {k : Nat} {x : Cl} (h : l[k]? = some x) : ckL g (pv l k) (l.drop k) = if inB g x = true then (if ordB (pv l k) x = true then ckL g (pv l (k + 1)) (l.drop (k + 1)) else 11) else 2 := by
  rw [drop_get h, ckL, pv_succ h]
theorem pv_ord {l : List Cl} {k : Nat} {px x : Cl} (h : 0 < k → l[k - 1]? = some px) : ordB (pv l k) x = !(decide ((0 : Int) < (k : Int)) && !befB px x) := by
  unfold pv
  by_cases hk : 0 < k
  · rw [if_neg (by omega), h hk, decide_eq_true (show (0 : Int) < (k : Int) by omega)]; simp [ordB]
  · rw [if_pos (by omega), decide_eq_false (show ¬ (0 : Int) < (k : Int) by omega)]; rfl
theorem pv_near {l : List Cl} {k : Nat} {px x : Cl} (h : 0 < k → l[k - 1]? = some px) : nrB (pv l k) x = !(decide ((0 : Int) < (k : Int)) && !nearB px x) := by
  unfold pv
  by_cases hk : 0 < k
  · rw [if_neg (by omega), h hk, decide_eq_true (show (0 : Int) < (k : Int) by omega)]; simp [nrB]
  · rw [if_pos (by omega), decide_eq_false (show ¬ (0 : Int) < (k : Int) by omega)]; rfl
theorem cmp_ge (a b : Cl) : decide (0 ≤ cmpC a b) = !befB a b := by
  rw [befB_eq]
  by_cases h : cmpC a b < 0
  · rw [decide_eq_true h, decide_eq_false (by omega)]; rfl
  · rw [decide_eq_false h, decide_eq_true (by omega)]; rfl
theorem minmax (g : Gr) : (decide (min (min g.nx g.ny) g.nz < 1) || decide (24 < max (max g.nx g.ny) g.nz)) = !szA g := by
  rw [Bool.eq_iff_iff, Bool.or_eq_true, decide_eq_true_eq, decide_eq_true_eq, Bool.not_eq_true', ← Bool.not_eq_true, szA_iff]
  omega
theorem szor (g : Gr) : ((!szB g.nx || !szB g.ny) || !szB g.nz) = !szA g := by unfold szA; cases szB g.nx <;> cases szB g.ny <;> cases szB g.nz <;> rfl
theorem ck_zero {g : Gr} : ∀ (l : List Cl) (p : Option Cl), ckL g p l = 0 → (∀ c ∈ l, inB g c = true) ∧ l.Pairwise Lt ∧ ∀ q, p = some q → ∀ c ∈ l, Lt q c
  | [], p, _ => ⟨fun c h => (by cases h), .nil, fun q _ c h => (by cases h)⟩
  | c :: r, p, h => by
    unfold ckL at h
    split at h
    · rename_i h1
      split at h
      · rename_i h2
        obtain ⟨h3, h4, h5⟩ := ck_zero r (some c) h
        refine ⟨fun d hd => ?_, List.pairwise_cons.2 ⟨h5 c rfl, h4⟩, fun q hq d hd => ?_⟩
        · rcases List.mem_cons.1 hd with e | e
          · rw [e]; exact h1
          · exact h3 d e
        · subst hq
          have h6 : Lt q c := befB_iff.1 h2
          rcases List.mem_cons.1 hd with e | e
          · rw [e]; exact h6
          · exact h6.trans (h5 c rfl d e)
      · omega
    · omega
theorem chk_ok {g : Gr} (h : chkP g = 0) : szA g = true ∧ (∀ c ∈ g.bl, inB g c = true) ∧ Asc g.bl := by
  unfold chkP at h
  split at h
  · rename_i hs
    obtain ⟨h1, h2, _⟩ := ck_zero _ _ h
    refine ⟨hs, h1, fun i j a b hij ha hb => ?_⟩
    obtain ⟨hi, ea⟩ := List.getElem?_eq_some_iff.1 ha
    obtain ⟨hj, eb⟩ := List.getElem?_eq_some_iff.1 hb
    rw [← ea, ← eb]
    exact List.pairwise_iff_getElem.1 h2 i j hi hj hij
  · omega
/-- Check. -/
def cpL (g : Gr) : List Cl → Option Cl → List Cl → Int
  | _, _, [] => 0
  | seen, p, c :: r => if ¬ inB g c = true then 9 else if c ∈ g.bl then 18 else if ¬ nrB p c = true then 17 else if c ∈ seen then 7 else cpL g (seen ++ [c]) (some c) r
def checkP (g : Gr) (path : List Cl) : Int := if ¬ chkP g = 0 then chkP g else if path.length = 0 then 3 else cpL g [] none path
theorem cp_step {g : Gr} {l : List Cl} {k : Nat} {x : Cl} (h : l[k]? = some x) : cpL g (l.take k) (pv l k) (l.drop k) = if ¬ inB g x = true then 9 else if x ∈ g.bl then 18 else if ¬ nrB (pv l k) x = true then 17 else if x ∈ l.take k then 7 else cpL g (l.take (k + 1)) (pv l (k + 1)) (l.drop (k + 1)) := by
  rw [drop_get h, cpL, pv_succ h, take_get h]
def kC (c : Cl) : Value := .agg (ccell c).toArray
def vB (b : Bool) : Value := .bool b
theorem eq35 (a b : Cl) (k : Nat) (w : World) : (Op.equalIn (k + 2) 26 (.agg (ccell a).toArray) (.agg (ccell b).toArray)).run Try.prog w = .ok (decide (a = b)) w := by
  have hfo : Try.prog.fieldsOf 26 = #[{ name := "X", type := 3, offset := 0, embedded := false, tag := "", pkgPath := "", byteOffset := 0 }, { name := "Y", type := 3, offset := 1, embedded := false, tag := "", pkgPath := "", byteOffset := 8 }, { name := "Z", type := 3, offset := 2, embedded := false, tag := "", pkgPath := "", byteOffset := 16 }] := by unfold Program.fieldsOf; rw [Try.underlying26]
  rw [show k + 2 = (k + 1) + 1 from rfl, run_equalIn_struct w (k + 1) 26 _ _ (by rw [hfo]; exact Try.underlying26) stood35, hfo]
  exact run_eqFields _ _ k _ _ _ 0 _ rfl rfl (eqC a b) w
theorem chk35 (c : Cl) (b : Bool) (k : Nat) (w : World) : (Instr.checkKey b (k + 2) 26 (.agg (ccell c).toArray)).run Try.prog w = .ok () w := by
  unfold Instr.checkKey
  simp [run_underlying Try.underlying26, part, isAgg, run_underlying Try.underlying3, ccell, Instr.checkKey]
theorem bits35 (c : Cl) (k : Nat) : Instr.sameBits (k + 1) (.agg (ccell c).toArray) (.agg (ccell c).toArray) = true := by simp [Instr.sameBits, ccell]
theorem klC : KeyV Try.prog 26 kC := ⟨fun x b w => chk35 x b 9998 w, by rw [Try.underlying26], fun x y w => by show (Op.equalIn Op.maxDepth 26 _ _).run Try.prog w = _; exact eq35 x y 9998 w, fun x => bits35 x 9999⟩
theorem zvB (w : World) : (zeroValue 4).run Try.prog w = .ok (vB false) w := by kernel_rfl
theorem vmem_snoc {m : List (Cl × Bool)} {nd : List Cl} {k : Cl} (h : ∀ x, (vget m x).getD false = decide (x ∈ nd)) (x : Cl) : (vget (vput m k true) x).getD false = decide (x ∈ nd ++ [k]) := by
  rw [vget_put]
  by_cases e : x = k
  · rw [if_pos e]; simp [e]
  · rw [if_neg e, h x]; simp [e]

theorem checkgrid_any (g : Gr) (w : World) (hG : GOk w g) :
    Calls Try.prog 16 #[.agg (gcell g).toArray] w fun e w' => e = .returned (.int .i64 (chkP g)) ∧ Ext w w' := by
  refine calls_act Try.func16 rfl Try.ntmps16 rfl rfl ?_
  show Code.wp _ _ _ (act 49 [(0, true, .agg (gcell g).toArray)] _) _
  have hX : Ext w w := Ext.rfl' w
  refine wp_seq ?_
  refine wp_region_lit ?_
  refine s_box rfl ?_
  intro g1 u1 hu1 hB1 hg1 hs1
  replace hB1 : Blk u1 g1 24 (gcell g) := hB1
  have ge_g1 : w.heap.size ≤ g1 := by have := hX.size; omega
  replace hX := hX.comp hu1
  refine s_look (look_assign rfl rfl) ?_
  refine s_nil ?_
  refine then_normal ?_
  refine wp_seq ?_
  refine wp_seq ?_
  refine region_s ?_
  refine q_look (look_fieldAddr Try.underlying24 rfl (fun _ _ => rfl) rfl rfl) ?_
  refine q_look (look_load1 Try.underlying3 rfl rfl rfl (eqc (hB1.cell rfl))) ?_
  refine q_look (look_fieldAddr Try.underlying24 rfl (fun _ _ => rfl) rfl rfl) ?_
  refine q_look (look_load1 Try.underlying3 rfl rfl rfl (eqc (hB1.cell rfl))) ?_
  refine q_look (look_fieldAddr Try.underlying24 rfl (fun _ _ => rfl) rfl rfl) ?_
  refine q_look (look_load1 Try.underlying3 rfl rfl rfl (eqc (hB1.cell rfl))) ?_
  refine q_look (look_min3 rfl rfl rfl rfl rfl rfl) ?_
  refine q_look (look_lss rfl rfl rfl rfl) ?_
  refine q_look (look_move rfl rfl) ?_
  refine q_lookg rfl rfl rfl (fun hq => look_fieldAddr Try.underlying24 rfl (fun _ _ => rfl) rfl rfl) ?_
  refine q_lookg rfl rfl rfl (fun hq => look_load1 Try.underlying3 rfl rfl hq (eqc (hB1.cell rfl))) ?_
  refine q_lookg rfl rfl rfl (fun hq => look_fieldAddr Try.underlying24 rfl (fun _ _ => rfl) rfl rfl) ?_
  refine q_lookg rfl rfl rfl (fun hq => look_load1 Try.underlying3 rfl rfl hq (eqc (hB1.cell rfl))) ?_
  refine q_lookg rfl rfl rfl (fun hq => look_fieldAddr Try.underlying24 rfl (fun _ _ => rfl) rfl rfl) ?_
  refine q_lookg rfl rfl rfl (fun hq => look_load1 Try.underlying3 rfl rfl hq (eqc (hB1.cell rfl))) ?_
  refine q_lookg rfl rfl rfl (fun hq => look_max3 rfl hq rfl hq rfl hq) ?_
  refine q_lookg rfl rfl rfl (fun hq => look_gtr rfl hq rfl rfl) ?_
  refine q_look (look_or rfl rfl rfl rfl) ?_
  refine q_nil ?_
  rintro _ rfl
  refine then_normal ?_
  refine cond_split rfl (fun hc22 => ?_) (fun hc22 => ?_)
  · have hsz : ¬ szA g = true := by rw [minmax] at hc22; intro h; rw [h] at hc22; cases hc22
    refine wp_seq ?_
    refine region_s ?_
    refine q_look (look_assign rfl rfl) ?_
    refine q_nil ?_
    rintro _ rfl
    refine then_normal ?_
    refine wp_ret ?_
    refine then_ret ?_
    exact res1 Try.results16 rfl ⟨ret_int (by unfold chkP; rw [if_neg hsz]), hX⟩
  · have hsz : szA g = true := by rw [minmax] at hc22; exact nt_f hc22
    refine wp_skip ?_
    refine then_normal ?_
    refine wp_seq ?_
    refine wp_seq ?_
    refine region_s ?_
    refine q_look (look_fieldAddr Try.underlying24 rfl (fun _ _ => rfl) rfl rfl) ?_
    refine q_look (look_load1 Try.underlying22 rfl rfl rfl (eqc (hB1.cell rfl))) ?_
    refine q_look (look_len_slice Try.underlying22 rfl rfl) ?_
    refine q_look (look_move rfl rfl) ?_
    refine q_nil ?_
    rintro _ rfl
    refine then_normal ?_
    refine wp_block ?_
    refine loop_act (fun (k : Nat) => [(1, .pointer (some ⟨g1, 0, none⟩)), (24, .slice g.A g.bl.length g.cap), (25, .int .i64 (g.bl.length : Int)), (26, .int .i64 (k : Int))]) (fun k w' => (Ext w w') ∧ (Blk w' g1 24 (gcell g)) ∧ (k ≤ g.bl.length) ∧ (ckL g none g.bl = ckL g (pv g.bl k) (g.bl.drop k))) (fun k => g.bl.length - k) (0) ?_ ?_ ?_
    · exact ⟨rfl, rfl, rfl, rfl, trivial⟩
    · exact ⟨hX, hB1, Nat.zero_le _, rfl⟩
    · rintro k σ wr hF
      obtain ⟨hX, hB1, hk, hf⟩ : (Ext w wr) ∧ (Blk wr g1 24 (gcell g)) ∧ (k ≤ g.bl.length) ∧ (ckL g none g.bl = ckL g (pv g.bl k) (g.bl.drop k)) := hF
      show Code.wp _ _ _ (act 49 [(1, true, .pointer (some ⟨g1, 0, none⟩)), (24, true, .slice g.A g.bl.length g.cap), (25, true, .int .i64 (g.bl.length : Int)), (26, true, .int .i64 (k : Int))] _) _
      refine wp_seq ?_
      refine region_s ?_
      refine q_look (look_lss rfl rfl rfl rfl) ?_
      refine q_nil ?_
      rintro _ rfl
      refine then_normal ?_
      refine wp_seq ?_
      refine cond_split rfl (fun hc27 => ?_) (fun hc27 => ?_)
      · have hlt : k < g.bl.length := by have := nn_t hc27; omega
        obtain ⟨x, hxx⟩ := get_lt hlt
        obtain ⟨b1, o1, hA1, _⟩ := (hG.sl.ext hX).at_ hlt
        have hSl : Sl ccell 3 w (some ⟨b1, o1, none⟩) g.bl := hA1 ▸ hG.sl
        obtain ⟨px, hpx⟩ := prev_ex g.bl k x hk
        refine wp_skip ?_
        refine then_normal ?_
        refine wp_seq ?_
        refine wp_block ?_
        refine wp_seq ?_
        refine wp_region_lit ?_
        refine s_look (look_move rfl rfl) ?_
        refine s_look (look_indexAddr _ Try.underlying22 szTry_26 (by rw [← hA1]; rfl) rfl rfl rfl rfl (by omega)) ?_
        refine s_look (look_loadN Try.underlying26 rfl szTry_26 rfl rfl rfl (cs := ccell x) (eqn ((hSl.ext hX).rd k x hxx))) ?_
        refine s_alloc zeTry_26 ?_
        intro g2 u2 hu2 hB2 hg2 hs2
        have lt_g1_g2 : g1 < g2 := by have := hB1.lt; omega
        have ge_g2 : w.heap.size ≤ g2 := by have := hX.size; omega
        replace hX := hX.comp hu2
        replace hB1 := hB1.ext hu2
        refine s_look (look_assign rfl rfl) ?_
        refine s_store szTry_26 rfl (by simp [ccell, gcell, Value.cells, Value.oneCell']) rfl rfl hB2 rfl ?_
        intro u3 hk3 hT3
        replace hT3 : Blk u3 g2 26 (ccell x) := hT3
        replace hX := hX.kp hk3 (by omega)
        replace hB1 := hB1.kp hk3 (by omega)
        clear hB2
        have hB2 := hT3
        refine s_nil ?_
        refine then_normal ?_
        refine wp_seq ?_
        refine wp_seq ?_
        refine region_q ?_
        refine q_look (look_loadN Try.underlying24 rfl szTry_24 rfl rfl rfl (ext_cell_n hB1)) ?_
        refine q_look (look_loadN Try.underlying26 rfl szTry_26 rfl rfl rfl (ext_cell_n hB2)) ?_
        refine q_call (vs := [_, _]) enTry_17 ⟨⟨_, rfl, rfl⟩, ⟨_, rfl, rfl⟩, trivial⟩ (fun wc hw => cext hw (inside_any g x wc)) ?_
        refine q_look (look_not rfl rfl) ?_
        refine q_nil ?_
        intro w1 hw1
        replace hX := hX.comp hw1
        replace hB1 := hB1.ext hw1
        replace hB2 := hB2.ext hw1
        refine then_normal ?_
        refine cond_split rfl (fun hc34 => ?_) (fun hc34 => ?_)
        · have hin : ¬ inB g x = true := by intro h; rw [h] at hc34; cases hc34
          refine wp_seq ?_
          refine region_s ?_
          refine q_look (look_assign rfl rfl) ?_
          refine q_nil ?_
          rintro _ rfl
          refine then_normal ?_
          refine wp_ret ?_
          refine then_ret ?_
          refine inB_ret ?_
          refine then_ret ?_
          refine then_ret ?_
          refine inB_ret ?_
          refine then_ret ?_
          exact res1 Try.results16 rfl ⟨ret_int (by unfold chkP; rw [if_pos hsz, hf, ck_step hxx, if_neg hin]), hX⟩
        · have hin : inB g x = true := nt_f hc34
          refine wp_skip ?_
          refine then_normal ?_
          refine wp_seq ?_
          refine region_qd mixed (by kernel_rfl) ?_
          refine q_look (look_move rfl rfl) ?_
          refine q_look (look_gtr rfl rfl rfl rfl) ?_
          refine q_look (look_move rfl rfl) ?_
          refine q_lookg rfl rfl rfl (fun hq => look_fieldAddr Try.underlying24 rfl (fun _ _ => rfl) rfl rfl) ?_
          refine q_lookg rfl rfl rfl (fun hq => Look.as (look_load1 Try.underlying22 rfl rfl hq (ext_cell (hB1.cell rfl))) (v' := .slice (some ⟨b1, o1, none⟩) g.bl.length g.cap) (by rw [hA1])) ?_
          refine q_lookg rfl rfl rfl (fun hq => look_move rfl rfl) ?_
          refine q_lookg rfl rfl rfl (fun hq => look_sub rfl hq rfl rfl (by have := hG.len; have := maxLen_is; unfold I64; omega)) ?_
          refine q_lookg rfl rfl rfl (fun hq => look_indexAddr (k - 1) Try.underlying22 szTry_26 rfl hq rfl hq (by have := g_pos hq; omega) (by omega)) ?_
          refine q_lookg rfl rfl rfl (fun hq => look_loadN Try.underlying26 rfl szTry_26 rfl rfl hq (cs := ccell px) (extn ((hSl.ext hX).rd (k - 1) px (hpx (g_pos hq))))) ?_
          refine q_lookg rfl rfl rfl (fun hq => look_loadN Try.underlying26 rfl szTry_26 rfl rfl rfl (ext_cell_n hB2)) ?_
          refine q_callg (vs := [_, _]) rfl rfl rfl enTry_32 (fun hq => ⟨⟨_, rfl, hq⟩, ⟨_, rfl, hq⟩, trivial⟩) (fun hq wc hw => cext hw (compare_any px x wc)) ?_
          refine q_lookg rfl rfl rfl (fun hq => look_geq rfl hq rfl rfl) ?_
          refine q_look (look_and rfl rfl rfl rfl) ?_
          refine q_nil ?_
          intro w2 hw2
          replace hX := hX.comp hw2
          replace hB1 := hB1.ext hw2
          replace hB2 := hB2.ext hw2
          refine then_normal ?_
          refine cond_split rfl (fun hc47 => ?_) (fun hc47 => ?_)
          · have hor : ¬ ordB (pv g.bl k) x = true := by rw [pv_ord hpx, ← cmp_ge, hc47]; decide
            refine wp_seq ?_
            refine region_s ?_
            refine q_look (look_assign rfl rfl) ?_
            refine q_nil ?_
            rintro _ rfl
            refine then_normal ?_
            refine wp_ret ?_
            refine inB_ret ?_
            refine then_ret ?_
            refine then_ret ?_
            refine inB_ret ?_
            refine then_ret ?_
            exact res1 Try.results16 rfl ⟨ret_int (by unfold chkP; rw [if_pos hsz, hf, ck_step hxx, if_pos hin, if_neg hor]), hX⟩
          · have hor : ordB (pv g.bl k) x = true := by rw [pv_ord hpx, ← cmp_ge, hc47]; rfl
            refine wp_skip ?_
            refine inB_normal ?_
            refine then_normal ?_
            refine region_s ?_
            refine q_look (look_add rfl rfl rfl rfl (by have := hG.len; have := maxLen_is; unfold I64; omega)) ?_
            refine q_look (look_move rfl rfl) ?_
            refine q_nil ?_
            rintro _ rfl
            exact loop_end (k + 1) (by omega) ⟨rfl, rfl, rfl, rfl, trivial⟩ ⟨hX, hB1, by omega, by rw [hf, ck_step hxx, if_pos hin, if_pos hor]⟩
      · have hge : ¬ k < g.bl.length := by have := nn_f hc27; omega
        refine wp_exit ?_
        refine then_exit ?_
        refine then_exit ?_
        refine inB_exit_same ?_
        refine then_normal ?_
        refine wp_seq ?_
        refine region_s ?_
        refine q_look (look_assign rfl rfl) ?_
        refine q_nil ?_
        rintro _ rfl
        refine then_normal ?_
        refine wp_ret ?_
        exact res1 Try.results16 rfl ⟨ret_int (by unfold chkP; rw [if_pos hsz, hf, List.drop_eq_nil_of_le (by omega)]; rfl), hX⟩

theorem refcheckgrid_any (g : Gr) (w : World) (hG : GOk w g) :
    Calls Try.prog 4 #[.agg (gcell g).toArray] w fun e w' => e = .returned (.int .i64 (chkP g)) ∧ Ext w w' := by
  refine calls_act Try.func4 rfl Try.ntmps4 rfl rfl ?_
  show Code.wp _ _ _ (act 52 [(0, true, .agg (gcell g).toArray)] _) _
  have hX : Ext w w := Ext.rfl' w
  refine wp_seq ?_
  refine wp_region_lit ?_
  refine s_box rfl ?_
  intro g1 u1 hu1 hB1 hg1 hs1
  replace hB1 : Blk u1 g1 24 (gcell g) := hB1
  have ge_g1 : w.heap.size ≤ g1 := by have := hX.size; omega
  replace hX := hX.comp hu1
  refine s_look (look_assign rfl rfl) ?_
  refine s_nil ?_
  refine then_normal ?_
  refine wp_seq ?_
  refine wp_seq ?_
  refine region_q ?_
  refine q_look (look_fieldAddr Try.underlying24 rfl (fun _ _ => rfl) rfl rfl) ?_
  refine q_look (look_load1 Try.underlying3 rfl rfl rfl (ext_cell (hB1.cell rfl))) ?_
  refine q_call (vs := [_]) enTry_13 ⟨⟨_, rfl, rfl⟩, trivial⟩ (fun wc hw => cext hw (size_any _ wc)) ?_
  refine q_look (look_not rfl rfl) ?_
  refine q_look (look_move rfl rfl) ?_
  refine q_lookg rfl rfl rfl (fun hq => look_fieldAddr Try.underlying24 rfl (fun _ _ => rfl) rfl rfl) ?_
  refine q_lookg rfl rfl rfl (fun hq => look_load1 Try.underlying3 rfl rfl hq (ext_cell (hB1.cell rfl))) ?_
  refine q_callg (vs := [_]) rfl rfl rfl enTry_13 (fun hq => ⟨⟨_, rfl, hq⟩, trivial⟩) (fun hq wc hw => cext hw (size_any _ wc)) ?_
  refine q_lookg rfl rfl rfl (fun hq => look_not rfl hq) ?_
  refine q_look (look_or rfl rfl rfl rfl) ?_
  refine q_look (look_move rfl rfl) ?_
  refine q_lookg rfl rfl rfl (fun hq => look_fieldAddr Try.underlying24 rfl (fun _ _ => rfl) rfl rfl) ?_
  refine q_lookg rfl rfl rfl (fun hq => look_load1 Try.underlying3 rfl rfl hq (ext_cell (hB1.cell rfl))) ?_
  refine q_callg (vs := [_]) rfl rfl rfl enTry_13 (fun hq => ⟨⟨_, rfl, hq⟩, trivial⟩) (fun hq wc hw => cext hw (size_any _ wc)) ?_
  refine q_lookg rfl rfl rfl (fun hq => look_not rfl hq) ?_
  refine q_look (look_or rfl rfl rfl rfl) ?_
  refine q_nil ?_
  intro w1 hw1
  replace hX := hX.comp hw1
  replace hB1 := hB1.ext hw1
  refine then_normal ?_
  refine cond_split rfl (fun hc19 => ?_) (fun hc19 => ?_)
  · have hsz : ¬ szA g = true := by rw [szor] at hc19; intro h; rw [h] at hc19; cases hc19
    refine wp_seq ?_
    refine region_s ?_
    refine q_look (look_assign rfl rfl) ?_
    refine q_nil ?_
    rintro _ rfl
    refine then_normal ?_
    refine wp_ret ?_
    refine then_ret ?_
    exact res1 Try.results4 rfl ⟨ret_int (by unfold chkP; rw [if_neg hsz]), hX⟩
  · have hsz : szA g = true := by rw [szor] at hc19; exact nt_f hc19
    refine wp_skip ?_
    refine then_normal ?_
    refine wp_seq ?_
    refine wp_seq ?_
    refine region_s ?_
    refine q_look (look_assign rfl rfl) ?_
    refine q_nil ?_
    rintro _ rfl
    refine then_normal ?_
    refine wp_block ?_
    refine loop_act (fun (k : Nat) => [(1, .pointer (some ⟨g1, 0, none⟩)), (3, .int .i64 (k : Int))]) (fun k w' => (Ext w w') ∧ (Blk w' g1 24 (gcell g)) ∧ (k ≤ g.bl.length) ∧ (ckL g none g.bl = ckL g (pv g.bl k) (g.bl.drop k))) (fun k => g.bl.length - k) (0) ?_ ?_ ?_
    · exact ⟨rfl, rfl, trivial⟩
    · exact ⟨hX, hB1, Nat.zero_le _, rfl⟩
    · rintro k σ wr hF
      obtain ⟨hX, hB1, hk, hf⟩ : (Ext w wr) ∧ (Blk wr g1 24 (gcell g)) ∧ (k ≤ g.bl.length) ∧ (ckL g none g.bl = ckL g (pv g.bl k) (g.bl.drop k)) := hF
      show Code.wp _ _ _ (act 52 [(1, true, .pointer (some ⟨g1, 0, none⟩)), (3, true, .int .i64 (k : Int))] _) _
      refine wp_seq ?_
      refine wp_seq ?_
      refine region_s ?_
      refine q_look (look_move rfl rfl) ?_
      refine q_look (look_fieldAddr Try.underlying24 rfl (fun _ _ => rfl) rfl rfl) ?_
      refine q_look (look_load1 Try.underlying22 rfl rfl rfl (eqc (hB1.cell rfl))) ?_
      refine q_look (look_len_slice Try.underlying22 rfl rfl) ?_
      refine q_look (look_lss rfl rfl rfl rfl) ?_
      refine q_nil ?_
      rintro _ rfl
      refine then_normal ?_
      refine cond_split rfl (fun hc24 => ?_) (fun hc24 => ?_)
      · have hlt : k < g.bl.length := by have := nn_t hc24; omega
        obtain ⟨x, hxx⟩ := get_lt hlt
        obtain ⟨b1, o1, hA1, _⟩ := (hG.sl.ext hX).at_ hlt
        have hSl : Sl ccell 3 w (some ⟨b1, o1, none⟩) g.bl := hA1 ▸ hG.sl
        obtain ⟨px, hpx⟩ := prev_ex g.bl k x hk
        refine wp_skip ?_
        refine then_normal ?_
        refine wp_seq ?_
        refine wp_block ?_
        refine wp_seq ?_
        refine wp_seq ?_
        refine region_qd mixed (by kernel_rfl) ?_
        refine q_look (look_loadN Try.underlying24 rfl szTry_24 rfl rfl rfl (ext_cell_n hB1)) ?_
        refine q_look (look_fieldAddr Try.underlying24 rfl (fun _ _ => rfl) rfl rfl) ?_
        refine q_look (Look.as (look_load1 Try.underlying22 rfl rfl rfl (ext_cell (hB1.cell rfl))) (v' := .slice (some ⟨b1, o1, none⟩) g.bl.length g.cap) (by rw [hA1])) ?_
        refine q_look (look_move rfl rfl) ?_
        refine q_look (look_indexAddr _ Try.underlying22 szTry_26 rfl rfl rfl rfl rfl (by omega)) ?_
        refine q_look (look_loadN Try.underlying26 rfl szTry_26 rfl rfl rfl (cs := ccell x) (extn ((hSl.ext hX).rd k x hxx))) ?_
        refine q_call (vs := [_, _]) enTry_14 ⟨⟨_, rfl, rfl⟩, ⟨_, rfl, rfl⟩, trivial⟩ (fun wc hw => cext hw (refin_any g x wc)) ?_
        refine q_look (look_not rfl rfl) ?_
        refine q_nil ?_
        intro w2 hw2
        replace hX := hX.comp hw2
        replace hB1 := hB1.ext hw2
        refine then_normal ?_
        refine cond_split rfl (fun hc34 => ?_) (fun hc34 => ?_)
        · have hin : ¬ inB g x = true := by intro h; rw [h] at hc34; cases hc34
          refine wp_seq ?_
          refine region_s ?_
          refine q_look (look_assign rfl rfl) ?_
          refine q_nil ?_
          rintro _ rfl
          refine then_normal ?_
          refine wp_ret ?_
          refine then_ret ?_
          refine inB_ret ?_
          refine then_ret ?_
          refine then_ret ?_
          refine inB_ret ?_
          refine then_ret ?_
          exact res1 Try.results4 rfl ⟨ret_int (by unfold chkP; rw [if_pos hsz, hf, ck_step hxx, if_neg hin]), hX⟩
        · have hin : inB g x = true := nt_f hc34
          refine wp_skip ?_
          refine then_normal ?_
          refine wp_seq ?_
          refine region_qd mixed (by kernel_rfl) ?_
          refine q_look (look_move rfl rfl) ?_
          refine q_look (look_gtr rfl rfl rfl rfl) ?_
          refine q_look (look_move rfl rfl) ?_
          refine q_lookg rfl rfl rfl (fun hq => look_fieldAddr Try.underlying24 rfl (fun _ _ => rfl) rfl rfl) ?_
          refine q_lookg rfl rfl rfl (fun hq => Look.as (look_load1 Try.underlying22 rfl rfl hq (ext_cell (hB1.cell rfl))) (v' := .slice (some ⟨b1, o1, none⟩) g.bl.length g.cap) (by rw [hA1])) ?_
          refine q_lookg rfl rfl rfl (fun hq => look_move rfl rfl) ?_
          refine q_lookg rfl rfl rfl (fun hq => look_sub rfl hq rfl rfl (by have := hG.len; have := maxLen_is; unfold I64; omega)) ?_
          refine q_lookg rfl rfl rfl (fun hq => look_indexAddr (k - 1) Try.underlying22 szTry_26 rfl hq rfl hq (by have := g_pos hq; omega) (by omega)) ?_
          refine q_lookg rfl rfl rfl (fun hq => look_loadN Try.underlying26 rfl szTry_26 rfl rfl hq (cs := ccell px) (extn ((hSl.ext hX).rd (k - 1) px (hpx (g_pos hq))))) ?_
          refine q_lookg rfl rfl rfl (fun hq => look_fieldAddr Try.underlying24 rfl (fun _ _ => rfl) rfl rfl) ?_
          refine q_lookg rfl rfl rfl (fun hq => Look.as (look_load1 Try.underlying22 rfl rfl hq (ext_cell (hB1.cell rfl))) (v' := .slice (some ⟨b1, o1, none⟩) g.bl.length g.cap) (by rw [hA1])) ?_
          refine q_lookg rfl rfl rfl (fun hq => look_move rfl rfl) ?_
          refine q_lookg rfl rfl rfl (fun hq => look_indexAddr _ Try.underlying22 szTry_26 rfl hq rfl hq rfl (by omega)) ?_
          refine q_lookg rfl rfl rfl (fun hq => look_loadN Try.underlying26 rfl szTry_26 rfl rfl hq (cs := ccell x) (extn ((hSl.ext hX).rd k x hxx))) ?_
          refine q_callg (vs := [_, _]) rfl rfl rfl enTry_15 (fun hq => ⟨⟨_, rfl, hq⟩, ⟨_, rfl, hq⟩, trivial⟩) (fun hq wc hw => cext hw (before_any px x wc)) ?_
          refine q_lookg rfl rfl rfl (fun hq => look_not rfl hq) ?_
          refine q_look (look_and rfl rfl rfl rfl) ?_
          refine q_nil ?_
          intro w3 hw3
          replace hX := hX.comp hw3
          replace hB1 := hB1.ext hw3
          refine then_normal ?_
          refine cond_split rfl (fun hc51 => ?_) (fun hc51 => ?_)
          · have hor : ¬ ordB (pv g.bl k) x = true := by rw [pv_ord hpx, hc51]; decide
            refine wp_seq ?_
            refine region_s ?_
            refine q_look (look_assign rfl rfl) ?_
            refine q_nil ?_
            rintro _ rfl
            refine then_normal ?_
            refine wp_ret ?_
            refine inB_ret ?_
            refine then_ret ?_
            refine then_ret ?_
            refine inB_ret ?_
            refine then_ret ?_
            exact res1 Try.results4 rfl ⟨ret_int (by unfold chkP; rw [if_pos hsz, hf, ck_step hxx, if_pos hin, if_neg hor]), hX⟩
          · have hor : ordB (pv g.bl k) x = true := by rw [pv_ord hpx, hc51]; rfl
            refine wp_skip ?_
            refine inB_normal ?_
            refine then_normal ?_
            refine region_s ?_
            refine q_look (look_move rfl rfl) ?_
            refine q_look (look_add rfl rfl rfl rfl (by have := hG.len; have := maxLen_is; unfold I64; omega)) ?_
            refine q_look (look_assign rfl rfl) ?_
            refine q_nil ?_
            rintro _ rfl
            exact loop_end (k + 1) (by omega) ⟨rfl, rfl, trivial⟩ ⟨hX, hB1, by omega, by rw [hf, ck_step hxx, if_pos hin, if_pos hor]⟩
      · have hge : ¬ k < g.bl.length := by have := nn_f hc24; omega
        refine wp_exit ?_
        refine then_exit ?_
        refine then_exit ?_
        refine inB_exit_same ?_
        refine then_normal ?_
        refine wp_seq ?_
        refine region_s ?_
        refine q_look (look_assign rfl rfl) ?_
        refine q_nil ?_
        rintro _ rfl
        refine then_normal ?_
        refine wp_ret ?_
        exact res1 Try.results4 rfl ⟨ret_int (by unfold chkP; rw [if_pos hsz, hf, List.drop_eq_nil_of_le (by omega)]; rfl), hX⟩

end Go.Proofs.Ythddekipelbooaa
