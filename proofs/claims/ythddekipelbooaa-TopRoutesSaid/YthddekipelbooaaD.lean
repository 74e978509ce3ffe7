/- The walks of chapter 44 (route), fourth part: Check, Cost, Corners. -/
import Derived.Test.YthddekipelbooaaC
namespace Go.Proofs.Ythddekipelbooaa
open Go Go.RowKit Core
set_option linter.unusedVariables false
set_option linter.unusedSimpArgs false
attribute [local irreducible] wpQuiet wpList wpH wpT Code.wp Calls bodyPost act


def coL (bend : Int) : Option Cl → Cl → Int → List Cl → Int
  | _, _, n, [] => n
  | p2, p, n, c :: r => if nearB p c = true then coL bend (some p) c (n + 1 + (match p2 with | none => 0 | some q => if subW c p = subW p q then 0 else bend)) r else 0
theorem co_cons (bend : Int) (p2 : Option Cl) (p : Cl) (n : Int) (c : Cl) (r : List Cl) : coL bend p2 p n (c :: r) = if nearB p c = true then coL bend (some p) c (n + 1 + (match p2 with | none => 0 | some q => if subW c p = subW p q then 0 else bend)) r else 0 := by rw [coL.eq_def]
def c0 : Cl := ⟨0, 0, 0⟩
def costP (bend : Int) (path : List Cl) : Int := if bend < 0 ∨ 1000 < bend then 0 else match path with
  | [] => 0
  | a :: r => coL bend none a 0 r
/-- What a bend costs here. -/
def bnd (bend : Int) (l : List Cl) (i : Nat) (x px qx : Cl) : Int := if 1 < i ∧ subW x px ≠ subW px qx then bend else 0
theorem co_step {bend n : Int} {l : List Cl} {i : Nat} {x px qx : Cl} (h : l[i]? = some x) (hi : 1 ≤ i) (hp : l[i - 1]? = some px) (hq : 1 < i → l[i - 2]? = some qx) : coL bend (pv l (i - 1)) px n (l.drop i) = if nearB px x = true then coL bend (pv l i) x (n + 1 + bnd bend l i x px qx) (l.drop (i + 1)) else 0 := by
  rw [drop_get h, co_cons]
  have e1 : pv l i = some px := by unfold pv; rw [if_neg (by omega)]; exact hp
  rw [e1]
  congr 2
  unfold bnd pv
  by_cases h1 : 1 < i
  · rw [if_neg (by omega), show i - 1 - 1 = i - 2 by omega, hq h1]
    by_cases e : subW x px = subW px qx
    · simp [e]
    · simp [e, h1]
  · rw [if_pos (by omega), if_neg (fun h => h1 h.1)]
def corL : Option Cl → List Cl → List Cl
  | _, [] => []
  | _, [c] => [c]
  | p, c :: d :: r => (match p with | none => [c] | some q => if subW d c = subW c q then [] else [c]) ++ corL (some c) (d :: r)
theorem cor_two (p : Option Cl) (c d : Cl) (r : List Cl) : corL p (c :: d :: r) = (match p with | none => [c] | some q => if subW d c = subW c q then [] else [c]) ++ corL (some c) (d :: r) := by rw [corL.eq_def]
theorem cor_one (p : Option Cl) (c : Cl) : corL p [c] = [c] := by rw [corL.eq_def]
def cornersP (path : List Cl) : List Cl := corL none path
/-- Whether a corner is at k. -/
def isC (l : List Cl) (k : Nat) (nx x px : Cl) : Bool := (decide ((k : Int) = 0) || decide ((k : Int) = (l.length : Int) - 1)) || !decide (subW nx x = subW x px)
theorem cor_step {l : List Cl} {k : Nat} {x px nx : Cl} (h : l[k]? = some x) (hp : 0 < k → l[k - 1]? = some px) (hn : k + 1 < l.length → l[k + 1]? = some nx) : corL (pv l k) (l.drop k) = (if isC l k nx x px = true then [x] else []) ++ corL (pv l (k + 1)) (l.drop (k + 1)) := by
  have hl := (List.getElem?_eq_some_iff.1 h).1
  rw [drop_get h, pv_succ h]
  unfold isC
  by_cases h1 : k + 1 < l.length
  · rw [drop_get (hn h1), cor_two, decide_eq_false (show ¬ (k : Int) = (l.length : Int) - 1 by omega), Bool.or_false]
    congr 1
    unfold pv
    by_cases h0 : 0 < k
    · rw [if_neg (by omega), hp h0, decide_eq_false (show ¬ (k : Int) = 0 by omega)]
      by_cases e : subW nx x = subW x px
      · simp [e]
      · simp [e]
    · rw [if_pos (by omega), decide_eq_true (show (k : Int) = 0 by omega)]; simp
  · rw [List.drop_eq_nil_of_le (by omega), decide_eq_true (show (k : Int) = (l.length : Int) - 1 by omega)]
    rw [cor_one]; simp [corL]
theorem next_ex {α : Type} (l : List α) (k : Nat) (x : α) : ∃ nx, k + 1 < l.length → l[k + 1]? = some nx := by
  by_cases h : k + 1 < l.length
  · obtain ⟨p, hp⟩ := get_lt h
    exact ⟨p, fun _ => hp⟩
  · exact ⟨x, fun h' => (h h').elim⟩
theorem prev2_ex {α : Type} (l : List α) (k : Nat) (x : α) (hk : k ≤ l.length) : ∃ px, 1 < k → l[k - 2]? = some px := by
  by_cases h : 1 < k
  · obtain ⟨p, hp⟩ := get_lt (show k - 2 < l.length by omega)
    exact ⟨p, fun _ => hp⟩
  · exact ⟨x, fun h' => (h h').elim⟩
/-- The guard of Corners' third part. -/
theorem g_cor {l : List Cl} {k : Nat} (hk : k < l.length) (h : gq true (decide ((k : Int) = 0) || decide ((k : Int) = (l.length : Int) - 1)) false = true) : 0 < k ∧ k + 1 < l.length := by
  have h1 := or_f (gq_f h)
  have h2 := of_decide_eq_false h1.1
  have h3 := of_decide_eq_false h1.2
  omega

theorem check_any (g : Gr) (path : List Cl) (A : Option Addr) (c : Nat) (w : World) (hG : GOk w g) (hA : Sl ccell 3 w A path) (hla : path.length ≤ maxLen) :
    Calls Try.prog 8 #[.agg (gcell g).toArray, .slice A path.length c] w fun e w' => e = .returned (.int .i64 (checkP g path)) ∧ Ext w w' := by
  refine calls_act Try.func8 rfl Try.ntmps8 rfl rfl ?_
  show Code.wp _ _ _ (act 54 [(0, true, .agg (gcell g).toArray), (1, true, .slice A path.length c)] _) _
  have hX : Ext w w := Ext.rfl' w
  refine wp_seq ?_
  refine wp_region_lit ?_
  refine s_box rfl ?_
  intro g1 u1 hu1 hB1 hg1 hs1
  replace hB1 : Blk u1 g1 24 (gcell g) := hB1
  have ge_g1 : w.heap.size ≤ g1 := by have := hX.size; omega
  replace hX := hX.comp hu1
  refine s_look (look_assign rfl rfl) ?_
  refine s_nil ?_
  refine then_normal ?_
  refine wp_seq ?_
  refine wp_seq ?_
  refine region_q ?_
  refine q_look (look_loadN Try.underlying24 rfl szTry_24 rfl rfl rfl (ext_cell_n hB1)) ?_
  refine q_call (vs := [_]) enTry_16 ⟨⟨_, rfl, rfl⟩, trivial⟩ (fun wc hw => cext hw (checkgrid_any g wc (hG.ext (hX.comp hw)))) ?_
  refine q_look (look_assign rfl rfl) ?_
  refine q_nil ?_
  intro w1 hw1
  replace hX := hX.comp hw1
  replace hB1 := hB1.ext hw1
  refine then_normal ?_
  refine wp_seq ?_
  refine region_s ?_
  refine q_look (look_move rfl rfl) ?_
  refine q_look (look_neq rfl rfl rfl rfl) ?_
  refine q_nil ?_
  rintro _ rfl
  refine then_normal ?_
  refine cond_split rfl (fun hc12 => ?_) (fun hc12 => ?_)
  · have h0 : ¬ chkP g = 0 := nd_t hc12
    refine wp_seq ?_
    refine region_s ?_
    refine q_look (look_move rfl rfl) ?_
    refine q_look (look_assign rfl rfl) ?_
    refine q_nil ?_
    rintro _ rfl
    refine then_normal ?_
    refine wp_ret ?_
    refine then_ret ?_
    exact res1 Try.results8 rfl ⟨ret_int (by unfold checkP; rw [if_pos h0]), hX⟩
  · have h0 : chkP g = 0 := nd_f hc12
    have hok := chk_ok h0
    refine wp_skip ?_
    refine then_normal ?_
    refine wp_seq ?_
    refine wp_seq ?_
    refine region_s ?_
    refine q_look (look_move rfl rfl) ?_
    refine q_look (look_len_slice Try.underlying22 rfl rfl) ?_
    refine q_look (look_eql rfl rfl rfl rfl) ?_
    refine q_nil ?_
    rintro _ rfl
    refine then_normal ?_
    refine cond_split rfl (fun hc16 => ?_) (fun hc16 => ?_)
    · have h1 : path.length = 0 := by have := nn_t hc16; omega
      refine wp_seq ?_
      refine region_s ?_
      refine q_look (look_assign rfl rfl) ?_
      refine q_nil ?_
      rintro _ rfl
      refine then_normal ?_
      refine wp_ret ?_
      refine then_ret ?_
      exact res1 Try.results8 rfl ⟨ret_int (by unfold checkP; rw [if_neg (fun h => h h0), if_pos h1]), hX⟩
    · have h1 : ¬ path.length = 0 := by have := nn_f hc16; omega
      refine wp_skip ?_
      refine then_normal ?_
      refine wp_seq ?_
      refine wp_region_lit ?_
      refine s_makeMapV (kv := kC) (vv := vB) ?_ rfl
      intro g2 u2 hu2 hM2 hg2 hs2
      have lt_g1_g2 : g1 < g2 := by have := hB1.lt; omega
      have ge_g2 : w.heap.size ≤ g2 := by have := hX.size; omega
      replace hX := hX.comp hu2
      replace hB1 := hB1.ext hu2
      refine s_look (look_assign rfl rfl) ?_
      refine s_nil ?_
      refine then_normal ?_
      refine wp_seq ?_
      refine wp_seq ?_
      refine region_s ?_
      refine q_look (look_move rfl rfl) ?_
      refine q_look (look_len_slice Try.underlying22 rfl rfl) ?_
      refine q_look (look_move rfl rfl) ?_
      refine q_nil ?_
      rintro _ rfl
      refine then_normal ?_
      refine wp_block ?_
      refine loop_act (fun (ls : Nat × List (Cl × Bool)) => [(1, .slice A path.length c), (2, .pointer (some ⟨g1, 0, none⟩)), (6, .map (some g2)), (18, .slice A path.length c), (19, .int .i64 (path.length : Int)), (20, .int .i64 (ls.1 : Int))]) (fun ls w' => (Ext w w') ∧ (Blk w' g1 24 (gcell g)) ∧ (MapV kC vB w' g2 ls.2) ∧ (∀ y, (vget ls.2 y).getD false = decide (y ∈ path.take ls.1)) ∧ (ls.1 ≤ path.length) ∧ (cpL g [] none path = cpL g (path.take ls.1) (pv path ls.1) (path.drop ls.1))) (fun ls => path.length - ls.1) ((0, [])) ?_ ?_ ?_
      · exact ⟨rfl, rfl, rfl, rfl, rfl, rfl, trivial⟩
      · exact ⟨hX, hB1, hM2, (fun y => rfl), Nat.zero_le _, rfl⟩
      · rintro ⟨k, m⟩ σ wr hF
        obtain ⟨hX, hB1, hM2, hm, hk, hf⟩ : (Ext w wr) ∧ (Blk wr g1 24 (gcell g)) ∧ (MapV kC vB wr g2 m) ∧ (∀ y, (vget m y).getD false = decide (y ∈ path.take k)) ∧ (k ≤ path.length) ∧ (cpL g [] none path = cpL g (path.take k) (pv path k) (path.drop k)) := hF
        show Code.wp _ _ _ (act 54 [(1, true, .slice A path.length c), (2, true, .pointer (some ⟨g1, 0, none⟩)), (6, true, .map (some g2)), (18, true, .slice A path.length c), (19, true, .int .i64 (path.length : Int)), (20, true, .int .i64 (k : Int))] _) _
        refine wp_seq ?_
        refine region_s ?_
        refine q_look (look_lss rfl rfl rfl rfl) ?_
        refine q_nil ?_
        rintro _ rfl
        refine then_normal ?_
        refine wp_seq ?_
        refine cond_split rfl (fun hc21 => ?_) (fun hc21 => ?_)
        · have hlt : k < path.length := by have := nn_t hc21; omega
          obtain ⟨x, hxx⟩ := get_lt hlt
          obtain ⟨b2, o2, rfl, _⟩ := (hA.ext hX).at_ hlt
          obtain ⟨px, hpx⟩ := prev_ex path k x hk
          refine wp_skip ?_
          refine then_normal ?_
          refine wp_seq ?_
          refine wp_block ?_
          refine wp_seq ?_
          refine wp_region_lit ?_
          refine s_look (look_move rfl rfl) ?_
          refine s_look (look_indexAddr _ Try.underlying22 szTry_26 rfl rfl rfl rfl rfl (by omega)) ?_
          refine s_look (look_loadN Try.underlying26 rfl szTry_26 rfl rfl rfl (cs := ccell x) (eqn ((hA.ext hX).rd k x hxx))) ?_
          refine s_alloc zeTry_26 ?_
          intro g3 u3 hu3 hB3 hg3 hs3
          have lt_g1_g3 : g1 < g3 := by have := hB1.lt; omega
          have lt_g2_g3 : g2 < g3 := by have := hM2.lt; omega
          have ge_g3 : w.heap.size ≤ g3 := by have := hX.size; omega
          replace hX := hX.comp hu3
          replace hB1 := hB1.ext hu3
          replace hM2 := hM2.ext hu3
          refine s_look (look_assign rfl rfl) ?_
          refine s_store szTry_26 rfl (by simp [ccell, gcell, Value.cells, Value.oneCell']) rfl rfl hB3 rfl ?_
          intro u4 hk4 hT4
          replace hT4 : Blk u4 g3 26 (ccell x) := hT4
          replace hX := hX.kp hk4 (by omega)
          replace hB1 := hB1.kp hk4 (by omega)
          replace hM2 := hM2.kp hk4 (by omega)
          clear hB3
          have hB3 := hT4
          refine s_nil ?_
          refine then_normal ?_
          refine wp_seq ?_
          refine wp_block ?_
          refine wp_seq ?_
          refine region_q ?_
          refine q_look (look_loadN Try.underlying24 rfl szTry_24 rfl rfl rfl (ext_cell_n hB1)) ?_
          refine q_look (look_loadN Try.underlying26 rfl szTry_26 rfl rfl rfl (ext_cell_n hB3)) ?_
          refine q_call (vs := [_, _]) enTry_17 ⟨⟨_, rfl, rfl⟩, ⟨_, rfl, rfl⟩, trivial⟩ (fun wc hw => cext hw (inside_any g x wc)) ?_
          refine q_look (look_not rfl rfl) ?_
          refine q_look (look_assign rfl rfl) ?_
          refine q_nil ?_
          intro w2 hw2
          replace hX := hX.comp hw2
          replace hB1 := hB1.ext hw2
          replace hM2 := hM2.ext hw2
          replace hB3 := hB3.ext hw2
          refine then_normal ?_
          refine cond_split rfl (fun hc25 => ?_) (fun hc25 => ?_)
          · have hin : ¬ inB g x = true := by intro h; rw [h] at hc25; cases hc25
            refine wp_seq ?_
            refine region_s ?_
            refine q_look (look_assign rfl rfl) ?_
            refine q_nil ?_
            rintro _ rfl
            refine then_normal ?_
            refine wp_ret ?_
            refine inB_ret ?_
            refine then_ret ?_
            refine inB_ret ?_
            refine then_ret ?_
            refine then_ret ?_
            refine inB_ret ?_
            refine then_ret ?_
            exact res1 Try.results8 rfl ⟨ret_int (by unfold checkP; rw [if_neg (fun h => h h0), if_neg h1, hf, cp_step hxx, if_pos hin]), hX⟩
          · have hin : inB g x = true := nt_f hc25
            refine wp_seq ?_
            refine region_q ?_
            refine q_look (look_loadN Try.underlying24 rfl szTry_24 rfl rfl rfl (ext_cell_n hB1)) ?_
            refine q_look (look_loadN Try.underlying26 rfl szTry_26 rfl rfl rfl (ext_cell_n hB3)) ?_
            refine q_call (vs := [_, _]) enTry_18 ⟨⟨_, rfl, rfl⟩, ⟨_, rfl, rfl⟩, trivial⟩ (fun wc hw => cext hw (blocked_any g x wc (hG.ext (hX.comp hw)) hok.2.2)) ?_
            refine q_look (look_assign rfl rfl) ?_
            refine q_nil ?_
            intro w3 hw3
            replace hX := hX.comp hw3
            replace hB1 := hB1.ext hw3
            replace hM2 := hM2.ext hw3
            replace hB3 := hB3.ext hw3
            refine then_normal ?_
            refine cond_split rfl (fun hc30 => ?_) (fun hc30 => ?_)
            · have hbl : x ∈ g.bl := nn_t hc30
              refine wp_seq ?_
              refine region_s ?_
              refine q_look (look_assign rfl rfl) ?_
              refine q_nil ?_
              rintro _ rfl
              refine then_normal ?_
              refine wp_ret ?_
              refine inB_ret ?_
              refine then_ret ?_
              refine inB_ret ?_
              refine then_ret ?_
              refine then_ret ?_
              refine inB_ret ?_
              refine then_ret ?_
              exact res1 Try.results8 rfl ⟨ret_int (by unfold checkP; rw [if_neg (fun h => h h0), if_neg h1, hf, cp_step hxx, if_neg (fun h => h hin), if_pos hbl]), hX⟩
            · have hbl : ¬ x ∈ g.bl := nn_f hc30
              refine wp_seq ?_
              refine region_qd mixed (by kernel_rfl) ?_
              refine q_look (look_move rfl rfl) ?_
              refine q_look (look_gtr rfl rfl rfl rfl) ?_
              refine q_look (look_move rfl rfl) ?_
              refine q_lookg rfl rfl rfl (fun hq => look_move rfl rfl) ?_
              refine q_lookg rfl rfl rfl (fun hq => look_move rfl rfl) ?_
              refine q_lookg rfl rfl rfl (fun hq => look_sub rfl hq rfl rfl (by have := maxLen_is; unfold I64; omega)) ?_
              refine q_lookg rfl rfl rfl (fun hq => look_indexAddr (k - 1) Try.underlying22 szTry_26 rfl hq rfl hq (by have := g_pos hq; omega) (by omega)) ?_
              refine q_lookg rfl rfl rfl (fun hq => look_loadN Try.underlying26 rfl szTry_26 rfl rfl hq (cs := ccell px) (extn ((hA.ext hX).rd (k - 1) px (hpx (g_pos hq))))) ?_
              refine q_lookg rfl rfl rfl (fun hq => look_loadN Try.underlying26 rfl szTry_26 rfl rfl rfl (ext_cell_n hB3)) ?_
              refine q_callg (vs := [_, _]) rfl rfl rfl enTry_26 (fun hq => ⟨⟨_, rfl, hq⟩, ⟨_, rfl, hq⟩, trivial⟩) (fun hq wc hw => cext hw (neigh_any px x wc)) ?_
              refine q_lookg rfl rfl rfl (fun hq => look_not rfl hq) ?_
              refine q_look (look_and rfl rfl rfl rfl) ?_
              refine q_look (look_assign rfl rfl) ?_
              refine q_nil ?_
              intro w4 hw4
              replace hX := hX.comp hw4
              replace hB1 := hB1.ext hw4
              replace hM2 := hM2.ext hw4
              replace hB3 := hB3.ext hw4
              refine then_normal ?_
              refine cond_split rfl (fun hc34 => ?_) (fun hc34 => ?_)
              · have hnr : ¬ nrB (pv path k) x = true := by rw [pv_near hpx, hc34]; decide
                refine wp_seq ?_
                refine region_s ?_
                refine q_look (look_assign rfl rfl) ?_
                refine q_nil ?_
                rintro _ rfl
                refine then_normal ?_
                refine wp_ret ?_
                refine inB_ret ?_
                refine then_ret ?_
                refine inB_ret ?_
                refine then_ret ?_
                refine then_ret ?_
                refine inB_ret ?_
                refine then_ret ?_
                exact res1 Try.results8 rfl ⟨ret_int (by unfold checkP; rw [if_neg (fun h => h h0), if_neg h1, hf, cp_step hxx, if_neg (fun h => h hin), if_neg hbl, if_pos hnr]), hX⟩
              · have hnr : nrB (pv path k) x = true := by rw [pv_near hpx, hc34]; rfl
                refine wp_seq ?_
                refine region_s ?_
                refine q_look (look_move rfl rfl) ?_
                refine q_look (look_loadN Try.underlying26 rfl szTry_26 rfl rfl rfl (eqc_n hB3)) ?_
                refine q_look (look_mapV (a := x) (vv := vB) (z0 := false) klC Try.underlying62 zvB rfl rfl rfl rfl (fun w' e => (e ▸ hM2))) ?_
                refine q_look (look_assign rfl rfl) ?_
                refine q_nil ?_
                rintro _ rfl
                refine then_normal ?_
                refine cond_split rfl (fun hc47 => ?_) (fun hc47 => ?_)
                · have hse : x ∈ path.take k := by have h := hm x; rw [show (vget m x).getD false = true from hc47] at h; exact of_decide_eq_true h.symm
                  refine wp_seq ?_
                  refine region_s ?_
                  refine q_look (look_assign rfl rfl) ?_
                  refine q_nil ?_
                  rintro _ rfl
                  refine then_normal ?_
                  refine wp_ret ?_
                  refine inB_ret ?_
                  refine then_ret ?_
                  refine inB_ret ?_
                  refine then_ret ?_
                  refine then_ret ?_
                  refine inB_ret ?_
                  refine then_ret ?_
                  exact res1 Try.results8 rfl ⟨ret_int (by unfold checkP; rw [if_neg (fun h => h h0), if_neg h1, hf, cp_step hxx, if_neg (fun h => h hin), if_neg hbl, if_neg (fun h => h hnr), if_pos hse]), hX⟩
                · have hse : ¬ x ∈ path.take k := by have h := hm x; rw [show (vget m x).getD false = false from hc47] at h; exact of_decide_eq_false h.symm
                  refine wp_skip ?_
                  refine inB_normal ?_
                  refine then_normal ?_
                  refine wp_region_lit ?_
                  refine s_look (look_move rfl rfl) ?_
                  refine s_look (look_loadN Try.underlying26 rfl szTry_26 rfl rfl rfl (eqc_n hB3)) ?_
                  refine s_mapUpdateV (a := x) (v := true) klC Try.underlying62 rfl rfl rfl hM2 ?_
                  intro u5 hk5 hT5
                  replace hX := hX.kp hk5 (by omega)
                  replace hB1 := hB1.kp hk5 (by omega)
                  replace hB3 := hB3.kp hk5 (by omega)
                  clear hM2
                  have hM2 := hT5
                  refine s_nil ?_
                  refine inB_normal ?_
                  refine then_normal ?_
                  refine region_s ?_
                  refine q_look (look_add rfl rfl rfl rfl (by have := maxLen_is; unfold I64; omega)) ?_
                  refine q_look (look_move rfl rfl) ?_
                  refine q_nil ?_
                  rintro _ rfl
                  exact loop_end ((k + 1, vput m x true)) (by simp only []; omega) ⟨rfl, rfl, rfl, rfl, rfl, rfl, trivial⟩ ⟨hX, hB1, hM2, (by rw [take_get hxx]; exact vmem_snoc hm), by show k + 1 ≤ path.length; omega, by rw [hf, cp_step hxx, if_neg (fun h => h hin), if_neg hbl, if_neg (fun h => h hnr), if_neg hse]⟩
        · have hge : ¬ k < path.length := by have := nn_f hc21; omega
          refine wp_exit ?_
          refine then_exit ?_
          refine then_exit ?_
          refine inB_exit_same ?_
          refine then_normal ?_
          refine wp_seq ?_
          refine region_s ?_
          refine q_look (look_assign rfl rfl) ?_
          refine q_nil ?_
          rintro _ rfl
          refine then_normal ?_
          refine wp_ret ?_
          exact res1 Try.results8 rfl ⟨ret_int (by unfold checkP; rw [if_neg (fun h => h h0), if_neg h1, hf, List.drop_eq_nil_of_le (by omega)]; rfl), hX⟩

theorem getD_of {α : Type} {l : List α} {i : Nat} {x d : α} (h : l[i]? = some x) : l.getD i d = x := by rw [List.getD_eq_getElem?_getD, h]; rfl
theorem gq_and {a b : Bool} (h : (a && b) = true) : gq true a true = true ∧ b = true := by cases a <;> cases b <;> simp_all [gq]
theorem bnd_t {bend : Int} {l : List Cl} {i : Nat} {x px qx : Cl} (h : 1 < i) (h2 : (!decide (subW x px = subW px qx)) = true) : bnd bend l i x px qx = bend := by unfold bnd; rw [if_pos ⟨h, nd_t h2⟩]
theorem bnd_f {bend : Int} {l : List Cl} {i : Nat} {x px qx : Cl} (h : (decide ((1 : Int) < (i : Int)) && !decide (subW x px = subW px qx)) = false) : bnd bend l i x px qx = 0 := by
  unfold bnd
  rw [if_neg]
  rintro ⟨h1, h2⟩
  rw [decide_eq_true (show (1 : Int) < (i : Int) by omega), decide_eq_false h2] at h
  cases h
theorem cost_start {bend : Int} {path : List Cl} (hb : ¬ (bend < 0 ∨ 1000 < bend)) : costP bend path = coL bend (pv path (1 - 1)) (path.getD (1 - 1) c0) 0 (path.drop 1) := by
  unfold costP
  rw [if_neg hb]
  cases path with
  | nil => rfl
  | cons a r => rfl
theorem cost_small {bend : Int} {path : List Cl} (hb : path.length < 2 ∨ bend < 0 ∨ 1000 < bend) : 0 = costP bend path := by
  unfold costP
  split
  · rfl
  · rename_i h
    match path, hb with
    | [], _ => rfl
    | [a], _ => rfl
    | a :: b :: r, hb => exfalso; rcases hb with h1 | h1; simp at h1; omega; exact h h1

theorem cost_any (path : List Cl) (A : Option Addr) (c : Nat) (bend : Int) (w : World) (hA : Sl ccell 3 w A path) (hla : path.length ≤ maxLen) (hl : path.length ≤ 4000000000000) :
    Calls Try.prog 9 #[.slice A path.length c, .int .i64 bend] w fun e w' => e = .returned (.int .i64 (costP bend path)) ∧ Ext w w' := by
  refine calls_act Try.func9 rfl Try.ntmps9 rfl rfl ?_
  show Code.wp _ _ _ (act 66 [(0, true, .slice A path.length c), (1, true, .int .i64 bend)] _) _
  have hX : Ext w w := Ext.rfl' w
  refine wp_seq ?_
  refine region_s ?_
  refine q_look (look_assign rfl rfl) ?_
  refine q_nil ?_
  rintro _ rfl
  refine then_normal ?_
  refine wp_seq ?_
  refine wp_seq ?_
  refine region_s ?_
  refine q_look (look_move rfl rfl) ?_
  refine q_look (look_len_slice Try.underlying22 rfl rfl) ?_
  refine q_look (look_lss rfl rfl rfl rfl) ?_
  refine q_look (look_move rfl rfl) ?_
  refine q_lookg rfl rfl rfl (fun hq => look_move rfl rfl) ?_
  refine q_lookg rfl rfl rfl (fun hq => look_lss rfl hq rfl rfl) ?_
  refine q_look (look_or rfl rfl rfl rfl) ?_
  refine q_look (look_move rfl rfl) ?_
  refine q_lookg rfl rfl rfl (fun hq => look_move rfl rfl) ?_
  refine q_lookg rfl rfl rfl (fun hq => look_gtr rfl hq rfl rfl) ?_
  refine q_look (look_or rfl rfl rfl rfl) ?_
  refine q_nil ?_
  rintro _ rfl
  refine then_normal ?_
  refine cond_split rfl (fun hc16 => ?_) (fun hc16 => ?_)
  · have hb : path.length < 2 ∨ bend < 0 ∨ 1000 < bend := by rcases Nat.lt_or_ge path.length 2 with h | h; exact .inl h; right; rw [decide_eq_false (show ¬ (path.length : Int) < 2 by omega)] at hc16; simpa [gq] using hc16
    refine wp_seq ?_
    refine region_s ?_
    refine q_look (look_assign rfl rfl) ?_
    refine q_nil ?_
    rintro _ rfl
    refine then_normal ?_
    refine wp_ret ?_
    refine then_ret ?_
    exact res1 Try.results9 rfl ⟨ret_int (cost_small hb), hX⟩
  · have h2 := or_f hc16
    have h2a := or_f h2.1
    have h5 : ¬ path.length < 2 := by have := of_decide_eq_false h2a.1; omega
    have hb : ¬ (bend < 0 ∨ 1000 < bend) := by intro h; have h3 := of_decide_eq_false h2a.2; have h4 := of_decide_eq_false h2.2; omega
    refine wp_skip ?_
    refine then_normal ?_
    refine wp_seq ?_
    refine wp_seq ?_
    refine region_s ?_
    refine q_look (look_assign rfl rfl) ?_
    refine q_nil ?_
    rintro _ rfl
    refine then_normal ?_
    refine wp_block ?_
    refine loop_act (fun (ls : Nat × Int) => [(0, .slice A path.length c), (1, .int .i64 bend), (5, .int .i64 (ls.1 : Int)), (4, .int .i64 ls.2)]) (fun ls w' => (Ext w w') ∧ (1 ≤ ls.1) ∧ (0 ≤ ls.2 ∧ ls.2 ≤ 1001 * (ls.1 : Int)) ∧ (costP bend path = coL bend (pv path (ls.1 - 1)) (path.getD (ls.1 - 1) c0) ls.2 (path.drop ls.1))) (fun ls => path.length - ls.1) ((1, 0)) ?_ ?_ ?_
    · exact ⟨rfl, rfl, rfl, rfl, trivial⟩
    · exact ⟨hX, Nat.le_refl _, (by show (0 : Int) ≤ 0 ∧ (0 : Int) ≤ 1001 * ((1 : Nat) : Int); omega), cost_start hb⟩
    · rintro ⟨i, n⟩ σ wr hF
      obtain ⟨hX, hi, hn, hf⟩ : (Ext w wr) ∧ (1 ≤ i) ∧ (0 ≤ n ∧ n ≤ 1001 * (i : Int)) ∧ (costP bend path = coL bend (pv path (i - 1)) (path.getD (i - 1) c0) n (path.drop i)) := hF
      show Code.wp _ _ _ (act 66 [(0, true, .slice A path.length c), (1, true, .int .i64 bend), (5, true, .int .i64 (i : Int)), (4, true, .int .i64 n)] _) _
      refine wp_seq ?_
      refine wp_seq ?_
      refine region_s ?_
      refine q_look (look_move rfl rfl) ?_
      refine q_look (look_move rfl rfl) ?_
      refine q_look (look_len_slice Try.underlying22 rfl rfl) ?_
      refine q_look (look_lss rfl rfl rfl rfl) ?_
      refine q_nil ?_
      rintro _ rfl
      refine then_normal ?_
      refine cond_split rfl (fun hc20 => ?_) (fun hc20 => ?_)
      · have hlt : i < path.length := by have := nn_t hc20; omega
        obtain ⟨x, hxx⟩ := get_lt hlt
        obtain ⟨b2, o2, rfl, _⟩ := (hA.ext hX).at_ hlt
        obtain ⟨px, hpx⟩ := get_lt (show i - 1 < path.length by omega)
        obtain ⟨qx, hqx⟩ := prev2_ex path i x (by omega)
        have hi32 : (i : Int) ≤ 4000000000000 := by omega
        refine wp_skip ?_
        refine then_normal ?_
        refine wp_seq ?_
        refine wp_block ?_
        refine wp_seq ?_
        refine wp_seq ?_
        refine region_qd mixed (by kernel_rfl) ?_
        refine q_look (look_move rfl rfl) ?_
        refine q_look (look_move rfl rfl) ?_
        refine q_look (look_sub rfl rfl rfl rfl (by have := maxLen_is; unfold I64; omega)) ?_
        refine q_look (look_indexAddr (i - 1) Try.underlying22 szTry_26 rfl rfl rfl rfl (by omega) (by omega)) ?_
        refine q_look (look_loadN Try.underlying26 rfl szTry_26 rfl rfl rfl (cs := ccell px) (extn ((hA.ext hX).rd (i - 1) px hpx))) ?_
        refine q_look (look_move rfl rfl) ?_
        refine q_look (look_move rfl rfl) ?_
        refine q_look (look_indexAddr _ Try.underlying22 szTry_26 rfl rfl rfl rfl rfl (by omega)) ?_
        refine q_look (look_loadN Try.underlying26 rfl szTry_26 rfl rfl rfl (cs := ccell x) (extn ((hA.ext hX).rd i x hxx))) ?_
        refine q_call (vs := [_, _]) enTry_26 ⟨⟨_, rfl, rfl⟩, ⟨_, rfl, rfl⟩, trivial⟩ (fun wc hw => cext hw (neigh_any px x wc)) ?_
        refine q_look (look_not rfl rfl) ?_
        refine q_nil ?_
        intro w1 hw1
        replace hX := hX.comp hw1
        refine then_normal ?_
        refine cond_split rfl (fun hc33 => ?_) (fun hc33 => ?_)
        · have hne : ¬ nearB px x = true := by intro h; rw [h] at hc33; cases hc33
          refine wp_seq ?_
          refine region_s ?_
          refine q_look (look_assign rfl rfl) ?_
          refine q_nil ?_
          rintro _ rfl
          refine then_normal ?_
          refine wp_ret ?_
          refine then_ret ?_
          refine inB_ret ?_
          refine then_ret ?_
          refine then_ret ?_
          refine inB_ret ?_
          refine then_ret ?_
          exact res1 Try.results9 rfl ⟨ret_int (by rw [hf, getD_of hpx, co_step hxx hi hpx hqx, if_neg hne]), hX⟩
        · have hne : nearB px x = true := nt_f hc33
          refine wp_skip ?_
          refine then_normal ?_
          refine wp_seq ?_
          refine region_s ?_
          refine q_look (look_move rfl rfl) ?_
          refine q_look (look_add rfl rfl rfl rfl (by have := maxLen_is; unfold I64; omega)) ?_
          refine q_look (look_assign rfl rfl) ?_
          refine q_nil ?_
          rintro _ rfl
          refine then_normal ?_
          refine wp_seq ?_
          refine region_qd mixed (by kernel_rfl) ?_
          refine q_look (look_move rfl rfl) ?_
          refine q_look (look_gtr rfl rfl rfl rfl) ?_
          refine q_look (look_move rfl rfl) ?_
          refine q_lookg rfl rfl rfl (fun hq => look_move rfl rfl) ?_
          refine q_lookg rfl rfl rfl (fun hq => look_move rfl rfl) ?_
          refine q_lookg rfl rfl rfl (fun hq => look_indexAddr _ Try.underlying22 szTry_26 rfl hq rfl hq rfl (by omega)) ?_
          refine q_lookg rfl rfl rfl (fun hq => look_loadN Try.underlying26 rfl szTry_26 rfl rfl hq (cs := ccell x) (extn ((hA.ext hX).rd i x hxx))) ?_
          refine q_lookg rfl rfl rfl (fun hq => look_move rfl rfl) ?_
          refine q_lookg rfl rfl rfl (fun hq => look_move rfl rfl) ?_
          refine q_lookg rfl rfl rfl (fun hq => look_sub rfl hq rfl rfl (by have := maxLen_is; unfold I64; omega)) ?_
          refine q_lookg rfl rfl rfl (fun hq => look_indexAddr (i - 1) Try.underlying22 szTry_26 rfl hq rfl hq (by omega) (by omega)) ?_
          refine q_lookg rfl rfl rfl (fun hq => look_loadN Try.underlying26 rfl szTry_26 rfl rfl hq (cs := ccell px) (extn ((hA.ext hX).rd (i - 1) px hpx))) ?_
          refine q_callg (vs := [_, _]) rfl rfl rfl enTry_25 (fun hq => ⟨⟨_, rfl, hq⟩, ⟨_, rfl, hq⟩, trivial⟩) (fun hq wc hw => cext hw (less_any x px wc)) ?_
          refine q_lookg rfl rfl rfl (fun hq => look_move rfl rfl) ?_
          refine q_lookg rfl rfl rfl (fun hq => look_move rfl rfl) ?_
          refine q_lookg rfl rfl rfl (fun hq => look_sub rfl hq rfl rfl (by have := maxLen_is; unfold I64; omega)) ?_
          refine q_lookg rfl rfl rfl (fun hq => look_indexAddr (i - 1) Try.underlying22 szTry_26 rfl hq rfl hq (by omega) (by omega)) ?_
          refine q_lookg rfl rfl rfl (fun hq => look_loadN Try.underlying26 rfl szTry_26 rfl rfl hq (cs := ccell px) (extn ((hA.ext hX).rd (i - 1) px hpx))) ?_
          refine q_lookg rfl rfl rfl (fun hq => look_move rfl rfl) ?_
          refine q_lookg rfl rfl rfl (fun hq => look_move rfl rfl) ?_
          refine q_lookg rfl rfl rfl (fun hq => look_sub rfl hq rfl rfl (by have := maxLen_is; unfold I64; omega)) ?_
          refine q_lookg rfl rfl rfl (fun hq => look_indexAddr (i - 2) Try.underlying22 szTry_26 rfl hq rfl hq (by have := g_pos1 hq; omega) (by omega)) ?_
          refine q_lookg rfl rfl rfl (fun hq => look_loadN Try.underlying26 rfl szTry_26 rfl rfl hq (cs := ccell qx) (extn ((hA.ext hX).rd (i - 2) qx (hqx (g_pos1 hq))))) ?_
          refine q_callg (vs := [_, _]) rfl rfl rfl enTry_25 (fun hq => ⟨⟨_, rfl, hq⟩, ⟨_, rfl, hq⟩, trivial⟩) (fun hq wc hw => cext hw (less_any px qx wc)) ?_
          refine q_lookg rfl rfl rfl (fun hq => look_neq_flat Try.underlying26 stood35 guard35 rfl hq rfl hq (eqC _ _)) ?_
          refine q_look (look_and rfl rfl rfl rfl) ?_
          refine q_nil ?_
          intro w2 hw2
          replace hX := hX.comp hw2
          refine then_normal ?_
          refine cond_split rfl (fun hc61 => ?_) (fun hc61 => ?_)
          · have hbn : (decide ((1 : Int) < (i : Int)) && !decide (subW x px = subW px qx)) = true := hc61
            refine region_s ?_
            refine q_look (look_move rfl rfl) ?_
            refine q_look (look_move rfl rfl) ?_
            refine q_look (look_add rfl rfl rfl rfl (by have := maxLen_is; unfold I64; omega)) ?_
            refine q_look (look_assign rfl rfl) ?_
            refine q_nil ?_
            rintro _ rfl
            refine inB_normal ?_
            refine then_normal ?_
            refine region_s ?_
            refine q_look (look_move rfl rfl) ?_
            refine q_look (look_add rfl rfl rfl rfl (by have := maxLen_is; unfold I64; omega)) ?_
            refine q_look (look_assign rfl rfl) ?_
            refine q_nil ?_
            rintro _ rfl
            exact loop_end ((i + 1, n + 1 + bend)) (by simp only []; omega) ⟨rfl, rfl, rfl, rfl, trivial⟩ ⟨hX, by show 1 ≤ i + 1; omega, (by show 0 ≤ n + 1 + bend ∧ n + 1 + bend ≤ 1001 * ((i + 1 : Nat) : Int); omega), by rw [hf, getD_of hpx, co_step hxx hi hpx hqx, if_pos hne, bnd_t (g_pos1 (gq_and hbn).1) (gq_and hbn).2, show path.getD (i + 1 - 1) c0 = x by rw [Nat.add_sub_cancel]; exact getD_of hxx, Nat.add_sub_cancel]⟩
          · have hbn : (decide ((1 : Int) < (i : Int)) && !decide (subW x px = subW px qx)) = false := hc61
            refine wp_skip ?_
            refine inB_normal ?_
            refine then_normal ?_
            refine region_s ?_
            refine q_look (look_move rfl rfl) ?_
            refine q_look (look_add rfl rfl rfl rfl (by have := maxLen_is; unfold I64; omega)) ?_
            refine q_look (look_assign rfl rfl) ?_
            refine q_nil ?_
            rintro _ rfl
            exact loop_end ((i + 1, n + 1)) (by simp only []; omega) ⟨rfl, rfl, rfl, rfl, trivial⟩ ⟨hX, by show 1 ≤ i + 1; omega, (by show 0 ≤ n + 1 ∧ n + 1 ≤ 1001 * ((i + 1 : Nat) : Int); omega), by rw [hf, getD_of hpx, co_step hxx hi hpx hqx, if_pos hne, bnd_f hbn, Int.add_zero, show path.getD (i + 1 - 1) c0 = x by rw [Nat.add_sub_cancel]; exact getD_of hxx, Nat.add_sub_cancel]⟩
      · have hge : ¬ i < path.length := by have := nn_f hc20; omega
        refine wp_exit ?_
        refine then_exit ?_
        refine then_exit ?_
        refine inB_exit_same ?_
        refine then_normal ?_
        refine wp_seq ?_
        refine region_s ?_
        refine q_look (look_move rfl rfl) ?_
        refine q_look (look_assign rfl rfl) ?_
        refine q_nil ?_
        rintro _ rfl
        refine then_normal ?_
        refine wp_ret ?_
        exact res1 Try.results9 rfl ⟨ret_int (by rw [hf, List.drop_eq_nil_of_le (by omega)]; rfl), hX⟩

end Go.Proofs.Ythddekipelbooaa
