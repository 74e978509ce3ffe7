/- The walks of chapter 44 (route): the examples. -/
import Derived.Test.YtbmchijgejgboaaPa
namespace Go.Proofs.Ytbmchijgejgboaa
open Go Go.RowKit Core
set_option linter.unusedVariables false
set_option linter.unusedSimpArgs false
attribute [local irreducible] wpQuiet wpList wpH wpT Code.wp Calls bodyPost act


def cA : Cl := ⟨1, 0, 0⟩
def cB : Cl := ⟨1, 1, 0⟩
def cE : Cl := ⟨2, 0, 0⟩
def LW : List Cl := [⟨0, 0, 0⟩, ⟨0, 1, 0⟩, ⟨1, 1, 0⟩, ⟨2, 1, 0⟩, ⟨2, 0, 0⟩]
def LC4 : List Cl := [⟨0, 0, 0⟩, ⟨0, 1, 0⟩, ⟨2, 1, 0⟩, ⟨2, 0, 0⟩]
def L2s : List Cl := [⟨0, 0, 0⟩, ⟨1, 0, 0⟩]
def G1 (A : Option Addr) (cap : Nat) : Gr := ⟨3, 2, 1, A, [⟨1, 0, 0⟩], cap⟩
def G2 (A : Option Addr) (cap : Nat) : Gr := ⟨3, 2, 1, A, [⟨1, 0, 0⟩, ⟨1, 1, 0⟩], cap⟩
def GB : Gr := ⟨25, 1, 1, none, [], 0⟩
theorem lb_walk {g : Gr} {bend : Int} (hb : 0 ≤ bend) {b : Cl} {h : Cl → Int} (h0 : h b ≤ 0) (hp : ∀ c d, Fre g d → csub d c ∈ ways → h c ≤ h d + 1) : ∀ (r : List Cl) (c u : Cl), wk g c r → lastC c r = b → h c ≤ wc bend u c r
  | [], c, u, _, e => by rw [show c = b from e]; simp only [wc]; exact h0
  | d :: r, c, u, hw, e => by
    have h1 := lb_walk hb h0 hp r d (csub d c) hw.2.2 e
    have h2 := hp c d hw.1 hw.2.1
    have h3 := stepP_bd hb u (csub d c)
    simp only [wc]; omega
theorem gd_cons {g : Gr} {bend : Int} (hb : 0 ≤ bend) {b c u d : Cl} {r : List Cl} {h : Cl → Int} (h0 : h b ≤ 0) (hp : ∀ c d, Fre g d → csub d c ∈ ways → h c ≤ h d + 1) (hc : c ≠ b) (hd : Fre g d) (hw : csub d c ∈ ways) (hG : Gd g bend b (csub d c) d r)
    (hn : ∀ e, Fre g e → csub e c ∈ ways → e ≠ d → wc bend u c (d :: r) < h e + stepP bend u (csub e c)) : Gd g bend b u c (d :: r) := by
  refine ⟨hc, ⟨wc bend u c (d :: r), hd, hw, ⟨_, (hG.lst hb).2.2, by simp only [wc]; omega⟩, fun e k' he hwe hk => ?_⟩, hG⟩
  by_cases e1 : e = d
  · subst e1
    have := (hG.lst hb).2.2.uniq hk
    simp only [wc]
    exact ⟨by omega, fun t => (Lt.irr t).elim⟩
  · have h1 := hn e he hwe e1
    obtain ⟨⟨r', a1, a2, a3⟩, _⟩ := hk
    have h2 := lb_walk hb h0 hp r' e (csub e c) a1 a2
    exact ⟨by omega, fun _ => by omega⟩
theorem fre1 {A : Option Addr} {cap : Nat} {c : Cl} : Fre (G1 A cap) c ↔ c ∈ LW := by
  unfold Fre
  rw [inB_iff]
  obtain ⟨x, y, z⟩ := c
  simp only [G1, LW, List.mem_cons, List.not_mem_nil, or_false, Cl.mk.injEq, not_and]
  omega
def hW (c : Cl) : Int := if c = ⟨0, 0, 0⟩ then 4 else if c = ⟨0, 1, 0⟩ then 3 else if c = ⟨1, 1, 0⟩ then 2 else if c = ⟨2, 1, 0⟩ then 1 else 0
theorem mem_LW {c : Cl} : c ∈ LW ↔ c = ⟨0, 0, 0⟩ ∨ c = ⟨0, 1, 0⟩ ∨ c = ⟨1, 1, 0⟩ ∨ c = ⟨2, 1, 0⟩ ∨ c = ⟨2, 0, 0⟩ := by simp [LW]
theorem hW_pot {A : Option Addr} {cap : Nat} (c d : Cl) (hd : Fre (G1 A cap) d) (hw : csub d c ∈ ways) : hW c ≤ hW d + 1 := by
  by_cases hc : c ∈ LW
  · rw [fre1, mem_LW] at hd
    rw [mem_LW] at hc
    rcases hc with rfl | rfl | rfl | rfl | rfl <;> rcases hd with rfl | rfl | rfl | rfl | rfl <;> first | decide | exact absurd hw (by decide)
  · have h1 : hW c = 0 := by
      rw [mem_LW] at hc
      unfold hW
      rw [if_neg (fun e => hc (.inl e)), if_neg (fun e => hc (.inr (.inl e))), if_neg (fun e => hc (.inr (.inr (.inl e)))), if_neg (fun e => hc (.inr (.inr (.inr (.inl e)))))]
    have h2 : 0 ≤ hW d := by unfold hW; split <;> (try split) <;> (try split) <;> (try split) <;> omega
    omega
theorem gd1 (A : Option Addr) (cap : Nat) : Gd (G1 A cap) 1 ⟨2, 0, 0⟩ c0 ⟨0, 0, 0⟩ [⟨0, 1, 0⟩, ⟨1, 1, 0⟩, ⟨2, 1, 0⟩, ⟨2, 0, 0⟩] := by
  have T : ∀ {u c d : Cl} {r : List Cl}, c ≠ ⟨2, 0, 0⟩ → d ∈ LW → csub d c ∈ ways → Gd (G1 A cap) 1 ⟨2, 0, 0⟩ (csub d c) d r → (∀ e ∈ LW, csub e c ∈ ways → e ≠ d → wc 1 u c (d :: r) < hW e + stepP 1 u (csub e c)) → Gd (G1 A cap) 1 ⟨2, 0, 0⟩ u c (d :: r) := fun hc hd hw hG hn =>
    gd_cons (h := hW) (by decide) (by decide) hW_pot hc (fre1.2 hd) hw hG (fun e he => hn e (fre1.1 he))
  refine T (by decide) (by decide) (by decide) (T (by decide) (by decide) (by decide) (T (by decide) (by decide) (by decide) (T (by decide) (by decide) (by decide) rfl ?_) ?_) ?_) ?_ <;>
  · intro e he hw hne
    rw [mem_LW] at he
    rcases he with rfl | rfl | rfl | rfl | rfl <;> first | exact absurd hw (by decide) | exact absurd rfl hne | decide
theorem ck1 (A : Option Addr) (cap : Nat) : chkP (G1 A cap) = 0 := by rfl
theorem ck2 (A : Option Addr) (cap : Nat) : chkP (G2 A cap) = 0 := by rfl
theorem ckB : chkP GB = 9 := by rfl
theorem pathS1 (A : Option Addr) (cap : Nat) : PathS (G1 A cap) c0 cE 1 LW 6 0 := by
  unfold PathS
  rw [if_neg (fun h => h (ck1 A cap)), if_neg (fun h => h rfl), if_neg (by simp [G1, c0, cE])]
  exact .inl ⟨_, rfl, gd1 A cap, by decide, rfl⟩
theorem nowalk2 {A : Option Addr} {cap : Nat} : ∀ (r : List Cl) (c : Cl), c.x = 0 → wk (G2 A cap) c r → (lastC c r).x = 0
  | [], c, h, _ => h
  | d :: r, c, h, hw => by
    obtain ⟨⟨h1, h2⟩, h3, h4⟩ := hw
    refine nowalk2 r d ?_ h4
    rw [inB_iff] at h1
    rw [way_one] at h3
    obtain ⟨x, y, z⟩ := d
    simp only [G2, List.mem_cons, List.not_mem_nil, or_false, Cl.mk.injEq, not_or, not_and, csub] at h1 h2 h3 ⊢
    omega
theorem pathS2 (A : Option Addr) (cap : Nat) : PathS (G2 A cap) c0 cE 1 [] 0 8 := by
  unfold PathS
  rw [if_neg (fun h => h (ck2 A cap)), if_neg (fun h => h rfl), if_neg (by simp [G2, c0, cE])]
  refine .inr ⟨?_, rfl, rfl, rfl⟩
  rintro ⟨r, h1, h2⟩
  have := nowalk2 r c0 rfl h1
  rw [h2] at this; cases this
theorem pathS3 (A : Option Addr) (cap : Nat) : PathS (G2 A cap) c0 cA 1 [] 0 18 := by
  unfold PathS
  rw [if_neg (fun h => h (ck2 A cap)), if_neg (fun h => h rfl), if_pos (by simp [G2, cA])]
  exact ⟨rfl, rfl, rfl⟩
theorem path_as {g : Gr} {a b : Cl} {bend cost err : Int} {ps : List Cl} (h : PathS g a b bend ps cost err) {w : World} (hG : GOk w g) : Calls Try.prog 21 #[.agg (gcell g).toArray, .agg (ccell a).toArray, .agg (ccell b).toArray, .int .i64 bend] w fun e w' => ∃ v, e = .returned (.tuple #[v, .int .i64 cost, .int .i64 err]) ∧ Ext w w' ∧ Core.Own ccell 35 3 w.heap.size w' v ps :=
  (path_any g a b bend w hG).mono fun e w' ⟨v, ps', cost', err', h1, h2, h3, h4⟩ => by
    obtain ⟨rfl, rfl, rfl⟩ := h4.uniq h
    exact ⟨v, h1, h2, h3⟩
theorem ckw (A : Option Addr) (cap : Nat) : checkP (G1 A cap) LW = 0 := by rfl
theorem ckw2 (A : Option Addr) (cap : Nat) : checkP (G1 A cap) L2s = 18 := by rfl
theorem cow : costP 5 LW = 14 := by rfl
theorem crw : cornersP LW = LC4 := by decide
theorem corners_as {l l' : List Cl} {A : Option Addr} {c : Nat} {w : World} (h : cornersP l = l') (hA : Sl ccell 3 w A l) (hla : l.length ≤ maxLen) (hl : l.length ≤ 4000000) : Calls Try.prog 18 #[.slice A l.length c] w fun e w' => ∃ v, e = .returned v ∧ Ext w w' ∧ Core.Own ccell 35 3 w.heap.size w' v l' := h ▸ corners_any l A c w hA hla hl
theorem Sl.pre {α : Type} {ce : α → List Value} {size : Nat} {w : World} {A : Option Addr} {l r : List α} (h : Sl ce size w A (l ++ r)) : Sl ce size w A l := by
  rcases h with e | ⟨b, o, h1, h2⟩
  · exact .inl (List.append_eq_nil_iff.1 e).1
  · exact .inr ⟨b, o, h1, fun i x hx => h2 i x (by rw [List.getElem?_append_left (List.getElem?_eq_some_iff.1 hx).1]; exact hx)⟩
theorem GOk.of1 {w : World} {A : Option Addr} {cap : Nat} (h : Sl ccell 3 w A [⟨1, 0, 0⟩]) : GOk w (G1 A cap) := ⟨h, by show 1 ≤ maxLen; decide, by show I64 3 ∧ I64 2 ∧ I64 1; unfold I64; decide⟩
theorem GOk.of2 {w : World} {A : Option Addr} {cap : Nat} (h : Sl ccell 3 w A [⟨1, 0, 0⟩, ⟨1, 1, 0⟩]) : GOk w (G2 A cap) := ⟨h, by show 2 ≤ maxLen; decide, by show I64 3 ∧ I64 2 ∧ I64 1; unfold I64; decide⟩
theorem GOk.ofB {w : World} : GOk w GB := ⟨.inl rfl, by show 0 ≤ maxLen; decide, by show I64 25 ∧ I64 1 ∧ I64 1; unfold I64; decide⟩

set_option maxHeartbeats 2000000 in
theorem awake_any  (w : World)  :
    Calls Try.prog 10 #[] w fun e w' => e = .returned (.bool (true)) ∧ Ext w w' := by
  refine calls_act Try.func10 rfl Try.ntmps10 rfl rfl ?_
  show Code.wp _ _ _ (act 112 [] _) _
  have hX : Ext w w := Ext.rfl' w
  refine wp_seq ?_
  refine region_s ?_
  refine q_look (look_assign rfl rfl) ?_
  refine q_nil ?_
  rintro _ rfl
  refine then_normal ?_
  refine wp_seq ?_
  refine wp_region_lit ?_
  refine s_look (look_build (pl := [(0, 1), (1, 1), (2, 1)]) (parts := [(0, .const (Go.Value.int Go.IntKind.i64 1))]) (vs := [(0, .int .i64 1)]) (cells := ccell cA) Try.underlying35 zeTry_35 (by kernel_rfl) ⟨⟨_, rfl, rfl⟩, trivial⟩ rfl (by kernel_rfl)) ?_
  refine s_buildSlice (parts := [(0, .tmp 12)]) (vs := [(0, .agg (ccell cA).toArray)]) (cells := [cA].flatMap ccell) Try.underlying22 szTry_35 zeTry_35 rfl rfl ⟨⟨_, rfl, rfl⟩, trivial⟩ rfl (by kernel_rfl) ?_
  intro g1 u1 hu1 hB1 hg1 hs1
  have ge_g1 : w.heap.size ≤ g1 := by have := hX.size; omega
  replace hX := hX.comp hu1
  have hBl : Core.Own ccell 35 3 w.heap.size _ (.slice (some ⟨g1, 0, none⟩) 1 1) [cA] := Own.one hB1 ge_g1 rfl
  refine s_look (look_build (pl := [(0, 1), (1, 1), (2, 1), (3, 1)]) (parts := [(0, .const (Go.Value.int Go.IntKind.i64 3)), (1, .const (Go.Value.int Go.IntKind.i64 2)), (2, .const (Go.Value.int Go.IntKind.i64 1)), (3, .tmp 13)]) (vs := [(0, .int .i64 3), (1, .int .i64 2), (2, .int .i64 1), (3, .slice (some ⟨g1, 0, none⟩) 1 1)]) (cells := gcell (G1 (some ⟨g1, 0, none⟩) 1)) Try.underlying24 zeTry_24 (by kernel_rfl) ⟨⟨_, rfl, rfl⟩, ⟨_, rfl, rfl⟩, ⟨_, rfl, rfl⟩, ⟨_, rfl, rfl⟩, trivial⟩ rfl (by kernel_rfl)) ?_
  refine s_alloc zeTry_24 ?_
  intro g2 u2 hu2 hB2 hg2 hs2
  have ne_hBl_g2 : (Value.ownBlock (.slice (some ⟨g1, 0, none⟩) 1 1)) ≠ some g2 := hBl.ne_new (by omega)
  have ge_g2 : w.heap.size ≤ g2 := by have := hX.size; omega
  replace hX := hX.comp hu2
  replace hBl := hBl.ext hu2
  refine s_store szTry_24 rfl (by simp [ccell, gcell, itcell, rcell, Value.cells, Value.oneCell']) rfl rfl hB2 rfl ?_
  intro u3 hk3 hT3
  replace hT3 : Blk u3 g2 24 (gcell (G1 (some ⟨g1, 0, none⟩) 1)) := hT3
  replace hX := hX.kp hk3 (by omega)
  replace hBl := hBl.kp hk3 ne_hBl_g2
  clear hB2
  have hB2 := hT3
  refine s_nil ?_
  refine then_normal ?_
  refine wp_seq ?_
  refine wp_region_lit ?_
  refine s_look (look_loadN Try.underlying24 rfl szTry_24 rfl rfl rfl (eqc_n hB2)) ?_
  refine s_look (look_build (pl := [(0, 1), (1, 1), (2, 1)]) (parts := []) (vs := []) (cells := ccell c0) Try.underlying35 zeTry_35 (by kernel_rfl) trivial rfl (by kernel_rfl)) ?_
  refine s_look (look_build (pl := [(0, 1), (1, 1), (2, 1)]) (parts := [(0, .const (Go.Value.int Go.IntKind.i64 2))]) (vs := [(0, .int .i64 2)]) (cells := ccell cE) Try.underlying35 zeTry_35 (by kernel_rfl) ⟨⟨_, rfl, rfl⟩, trivial⟩ rfl (by kernel_rfl)) ?_
  refine s_call (vs := [_, _, _, _]) enTry_21 ⟨⟨_, rfl, rfl⟩, ⟨_, rfl, rfl⟩, ⟨_, rfl, rfl⟩, ⟨_, rfl, rfl⟩, trivial⟩ (path_as (pathS1 (some ⟨g1, 0, none⟩) 1) (.of1 (hBl.slOf hce_c).1)) ?_
  rintro _ u4 ⟨v4, rfl, hc4, hP⟩
  refine ⟨_, rfl, ?_⟩
  have dis_hBl_hP := Own.dis_new hBl hP
  have ne_hP_g2 : Value.ownBlock v4 ≠ some g2 := hP.ne_old hB2.lt
  replace hP := hP.weak hX.size
  replace hX := hX.comp hc4
  replace hB2 := hB2.ext hc4
  replace hBl := hBl.ext hc4
  obtain ⟨A1, c1, rfl, _, _, _, _⟩ := hP.sl hce_c
  refine s_look (look_move rfl rfl) ?_
  refine s_look (look_extract rfl rfl rfl) ?_
  refine s_look (look_extract rfl rfl rfl) ?_
  refine s_look (look_extract rfl rfl rfl) ?_
  refine s_look (look_assign rfl rfl) ?_
  refine s_look (look_assign rfl rfl) ?_
  refine s_look (look_assign rfl rfl) ?_
  refine s_nil ?_
  refine then_normal ?_
  refine wp_seq ?_
  refine wp_region_lit ?_
  refine s_look (look_fieldAddr Try.underlying24 rfl (fun _ _ => rfl) rfl rfl) ?_
  refine s_look (look_load1 Try.underlying22 rfl rfl rfl (eqc (hB2.cell rfl))) ?_
  refine s_look (look_build (pl := [(0, 1), (1, 1), (2, 1)]) (parts := [(0, .const (Go.Value.int Go.IntKind.i64 1)), (1, .const (Go.Value.int Go.IntKind.i64 1))]) (vs := [(0, .int .i64 1), (1, .int .i64 1)]) (cells := ccell cB) Try.underlying35 zeTry_35 (by kernel_rfl) ⟨⟨_, rfl, rfl⟩, ⟨_, rfl, rfl⟩, trivial⟩ rfl (by kernel_rfl)) ?_
  refine s_buildSlice (parts := [(0, .tmp 25)]) (vs := [(0, .agg (ccell cB).toArray)]) (cells := [cB].flatMap ccell) Try.underlying22 szTry_35 zeTry_35 rfl rfl ⟨⟨_, rfl, rfl⟩, trivial⟩ rfl (by kernel_rfl) ?_
  intro g5 u5 hu5 hB5 hg5 hs5
  have lt_g2_g5 : g2 < g5 := by have := hB2.lt; omega
  have ne_hBl_g5 : (Value.ownBlock (.slice (some ⟨g1, 0, none⟩) 1 1)) ≠ some g5 := hBl.ne_new (by omega)
  have ne_hP_g5 : (Value.ownBlock (.slice A1 (LW).length c1)) ≠ some g5 := hP.ne_new (by omega)
  have ge_g5 : w.heap.size ≤ g5 := by have := hX.size; omega
  replace hX := hX.comp hu5
  replace hB2 := hB2.ext hu5
  replace hBl := hBl.ext hu5
  replace hP := hP.ext hu5
  have hsz6 := hX.size
  refine s_appendL (ce := ccell) (news := [cB]) Try.underlying22 zsbTry_35 rfl rfl rfl hBl rfl (Blk.src (x := cB) rfl (by simp [cB, ccell, Value.oneCell']) hB5) (by decide) (by decide) (by omega) ?_
  intro v6 u6 hN6 hgr6 hat6
  replace hX := hX.grow hBl (Nat.le_refl _) hgr6
  have hn_hB2 := hB2.grown hgr6 ne_hBl_g2
  replace ne_hBl_g2 := ne_app ne_hBl_g2 hB2.lt hat6
  clear hB2
  have hB2 := hn_hB2
  clear hn_hB2
  have hn_hP := hP.grown hgr6 (Dis.ne dis_hBl_hP)
  replace dis_hBl_hP := Dis.app dis_hBl_hP (fun k e => (hP.ge e).2) hat6
  clear hP
  have hP := hn_hP
  clear hn_hP
  clear hBl
  have hBl := hN6
  obtain ⟨A2, c2, rfl, _, _, _, _⟩ := hBl.sl hce_c
  refine s_look (look_fieldAddr Try.underlying24 rfl (fun _ _ => rfl) rfl rfl) ?_
  refine s_store1 szTry_22 rfl rfl rfl rfl hB2 rfl ?_
  intro u7 hk7 hT7
  replace hT7 : Blk u7 g2 24 (gcell (G2 A2 c2)) := hT7
  replace hX := hX.kp hk7 (by omega)
  replace hBl := hBl.kp hk7 ne_hBl_g2
  replace hP := hP.kp hk7 ne_hP_g2
  clear hB2
  have hB2 := hT7
  refine s_nil ?_
  refine then_normal ?_
  refine wp_seq ?_
  refine wp_region_lit ?_
  refine s_look (look_loadN Try.underlying24 rfl szTry_24 rfl rfl rfl (eqc_n hB2)) ?_
  refine s_look (look_build (pl := [(0, 1), (1, 1), (2, 1)]) (parts := []) (vs := []) (cells := ccell c0) Try.underlying35 zeTry_35 (by kernel_rfl) trivial rfl (by kernel_rfl)) ?_
  refine s_look (look_build (pl := [(0, 1), (1, 1), (2, 1)]) (parts := [(0, .const (Go.Value.int Go.IntKind.i64 2))]) (vs := [(0, .int .i64 2)]) (cells := ccell cE) Try.underlying35 zeTry_35 (by kernel_rfl) ⟨⟨_, rfl, rfl⟩, trivial⟩ rfl (by kernel_rfl)) ?_
  refine s_call (vs := [_, _, _, _]) enTry_21 ⟨⟨_, rfl, rfl⟩, ⟨_, rfl, rfl⟩, ⟨_, rfl, rfl⟩, ⟨_, rfl, rfl⟩, trivial⟩ (path_as (pathS2 A2 c2) (.of2 (hBl.slOf hce_c).1)) ?_
  rintro _ u8 ⟨v8, rfl, hc8, hP2⟩
  refine ⟨_, rfl, ?_⟩
  have dis_hBl_hP2 := Own.dis_new hBl hP2
  have dis_hP_hP2 := Own.dis_new hP hP2
  have ne_hP2_g2 : Value.ownBlock v8 ≠ some g2 := hP2.ne_old hB2.lt
  replace hP2 := hP2.weak hX.size
  replace hX := hX.comp hc8
  replace hB2 := hB2.ext hc8
  replace hBl := hBl.ext hc8
  replace hP := hP.ext hc8
  refine s_look (look_move rfl rfl) ?_
  refine s_look (look_extract rfl rfl rfl) ?_
  refine s_look (look_extract rfl rfl rfl) ?_
  refine s_look (look_extract rfl rfl rfl) ?_
  refine s_look (look_assign rfl rfl) ?_
  refine s_look (look_assign rfl rfl) ?_
  refine s_look (look_assign rfl rfl) ?_
  refine s_nil ?_
  refine then_normal ?_
  refine wp_seq ?_
  refine wp_region_lit ?_
  refine s_look (look_loadN Try.underlying24 rfl szTry_24 rfl rfl rfl (eqc_n hB2)) ?_
  refine s_look (look_build (pl := [(0, 1), (1, 1), (2, 1)]) (parts := []) (vs := []) (cells := ccell c0) Try.underlying35 zeTry_35 (by kernel_rfl) trivial rfl (by kernel_rfl)) ?_
  refine s_look (look_build (pl := [(0, 1), (1, 1), (2, 1)]) (parts := [(0, .const (Go.Value.int Go.IntKind.i64 1))]) (vs := [(0, .int .i64 1)]) (cells := ccell cA) Try.underlying35 zeTry_35 (by kernel_rfl) ⟨⟨_, rfl, rfl⟩, trivial⟩ rfl (by kernel_rfl)) ?_
  refine s_call (vs := [_, _, _, _]) enTry_21 ⟨⟨_, rfl, rfl⟩, ⟨_, rfl, rfl⟩, ⟨_, rfl, rfl⟩, ⟨_, rfl, rfl⟩, trivial⟩ (path_as (pathS3 A2 c2) (.of2 (hBl.slOf hce_c).1)) ?_
  rintro _ u9 ⟨v9, rfl, hc9, hP3⟩
  refine ⟨_, rfl, ?_⟩
  have dis_hBl_hP3 := Own.dis_new hBl hP3
  have dis_hP_hP3 := Own.dis_new hP hP3
  have dis_hP2_hP3 := Own.dis_new hP2 hP3
  have ne_hP3_g2 : Value.ownBlock v9 ≠ some g2 := hP3.ne_old hB2.lt
  replace hP3 := hP3.weak hX.size
  replace hX := hX.comp hc9
  replace hB2 := hB2.ext hc9
  replace hBl := hBl.ext hc9
  replace hP := hP.ext hc9
  replace hP2 := hP2.ext hc9
  refine s_look (look_move rfl rfl) ?_
  refine s_look (look_extract rfl rfl rfl) ?_
  refine s_look (look_extract rfl rfl rfl) ?_
  refine s_look (look_extract rfl rfl rfl) ?_
  refine s_look (look_assign rfl rfl) ?_
  refine s_look (look_assign rfl rfl) ?_
  refine s_look (look_assign rfl rfl) ?_
  refine s_nil ?_
  refine then_normal ?_
  refine wp_seq ?_
  refine wp_region_lit ?_
  refine s_look (look_build (pl := [(0, 1), (1, 1), (2, 1)]) (parts := []) (vs := []) (cells := ccell ⟨0, 0, 0⟩) Try.underlying35 zeTry_35 (by kernel_rfl) trivial rfl (by kernel_rfl)) ?_
  refine s_look (look_build (pl := [(0, 1), (1, 1), (2, 1)]) (parts := [(1, .const (Go.Value.int Go.IntKind.i64 1))]) (vs := [(1, .int .i64 1)]) (cells := ccell ⟨0, 1, 0⟩) Try.underlying35 zeTry_35 (by kernel_rfl) ⟨⟨_, rfl, rfl⟩, trivial⟩ rfl (by kernel_rfl)) ?_
  refine s_look (look_build (pl := [(0, 1), (1, 1), (2, 1)]) (parts := [(0, .const (Go.Value.int Go.IntKind.i64 1)), (1, .const (Go.Value.int Go.IntKind.i64 1))]) (vs := [(0, .int .i64 1), (1, .int .i64 1)]) (cells := ccell ⟨1, 1, 0⟩) Try.underlying35 zeTry_35 (by kernel_rfl) ⟨⟨_, rfl, rfl⟩, ⟨_, rfl, rfl⟩, trivial⟩ rfl (by kernel_rfl)) ?_
  refine s_look (look_build (pl := [(0, 1), (1, 1), (2, 1)]) (parts := [(0, .const (Go.Value.int Go.IntKind.i64 2)), (1, .const (Go.Value.int Go.IntKind.i64 1))]) (vs := [(0, .int .i64 2), (1, .int .i64 1)]) (cells := ccell ⟨2, 1, 0⟩) Try.underlying35 zeTry_35 (by kernel_rfl) ⟨⟨_, rfl, rfl⟩, ⟨_, rfl, rfl⟩, trivial⟩ rfl (by kernel_rfl)) ?_
  refine s_look (look_build (pl := [(0, 1), (1, 1), (2, 1)]) (parts := [(0, .const (Go.Value.int Go.IntKind.i64 2))]) (vs := [(0, .int .i64 2)]) (cells := ccell ⟨2, 0, 0⟩) Try.underlying35 zeTry_35 (by kernel_rfl) ⟨⟨_, rfl, rfl⟩, trivial⟩ rfl (by kernel_rfl)) ?_
  refine s_buildSlice (parts := [(0, .tmp 45), (1, .tmp 46), (2, .tmp 47), (3, .tmp 48), (4, .tmp 49)]) (vs := [(0, .agg (ccell ⟨0, 0, 0⟩).toArray), (1, .agg (ccell ⟨0, 1, 0⟩).toArray), (2, .agg (ccell ⟨1, 1, 0⟩).toArray), (3, .agg (ccell ⟨2, 1, 0⟩).toArray), (4, .agg (ccell ⟨2, 0, 0⟩).toArray)]) (cells := LW.flatMap ccell) Try.underlying22 szTry_35 zeTry_35 rfl rfl ⟨⟨_, rfl, rfl⟩, ⟨_, rfl, rfl⟩, ⟨_, rfl, rfl⟩, ⟨_, rfl, rfl⟩, ⟨_, rfl, rfl⟩, trivial⟩ rfl (by kernel_rfl) ?_
  intro g10 u10 hu10 hB10 hg10 hs10
  have lt_g2_g10 : g2 < g10 := by have := hB2.lt; omega
  have ne_hBl_g10 : (Value.ownBlock (.slice A2 2 c2)) ≠ some g10 := hBl.ne_new (by omega)
  have ne_hP_g10 : (Value.ownBlock (.slice A1 (LW).length c1)) ≠ some g10 := hP.ne_new (by omega)
  have ne_hP2_g10 : (Value.ownBlock (v8)) ≠ some g10 := hP2.ne_new (by omega)
  have ne_hP3_g10 : (Value.ownBlock (v9)) ≠ some g10 := hP3.ne_new (by omega)
  have ge_g10 : w.heap.size ≤ g10 := by have := hX.size; omega
  replace hX := hX.comp hu10
  replace hB2 := hB2.ext hu10
  replace hBl := hBl.ext hu10
  replace hP := hP.ext hu10
  replace hP2 := hP2.ext hu10
  replace hP3 := hP3.ext hu10
  refine s_look (look_assign rfl rfl) ?_
  refine s_nil ?_
  refine then_normal ?_
  refine wp_seq ?_
  refine wp_seq ?_
  refine region_q ?_
  refine q_look (look_move rfl rfl) ?_
  refine q_look (look_neq rfl rfl rfl rfl) ?_
  refine q_look (look_move rfl rfl) ?_
  refine q_lookg rfl rfl rfl (fun hq => look_move rfl rfl) ?_
  refine q_lookg rfl rfl rfl (fun hq => look_neq rfl hq rfl rfl) ?_
  refine q_look (look_or rfl rfl rfl rfl) ?_
  refine q_look (look_move rfl rfl) ?_
  refine q_lookg rfl rfl rfl (fun hq => look_move rfl rfl) ?_
  refine q_lookg rfl rfl rfl (fun hq => look_neq rfl hq rfl rfl) ?_
  refine q_look (look_or rfl rfl rfl rfl) ?_
  refine q_look (look_move rfl rfl) ?_
  refine q_lookg rfl rfl rfl (fun hq => look_move rfl rfl) ?_
  refine q_lookg rfl rfl rfl (fun hq => look_neq rfl hq rfl rfl) ?_
  refine q_look (look_or rfl rfl rfl rfl) ?_
  refine q_look (look_move rfl rfl) ?_
  refine q_lookg rfl rfl rfl (fun hq => look_move rfl rfl) ?_
  refine q_lookg rfl rfl rfl (fun hq => look_move rfl rfl) ?_
  refine q_callg (vs := [_, _]) rfl rfl rfl enTry_17 (fun hq => ⟨⟨_, rfl, hq⟩, ⟨_, rfl, hq⟩, trivial⟩) (fun hq wc hw => cext hw (call_true (same_any LW LW A1 (some ⟨g10, 0, none⟩) c1 5 wc ((hP.slOf hce_c).1.ext hw) ((Blk.sl hce_c hB10).ext hw) (show 5 ≤ maxLen by decide)) (decide_eq_true rfl))) ?_
  refine q_lookg rfl rfl rfl (fun hq => look_not rfl hq) ?_
  refine q_look (look_or rfl rfl rfl rfl) ?_
  refine q_look (look_move rfl rfl) ?_
  refine q_lookg rfl rfl rfl (fun hq => look_loadN Try.underlying24 rfl szTry_24 rfl rfl rfl (ext_cell_n hB2)) ?_
  refine q_callg (vs := [_]) rfl rfl rfl enTry_11 (fun hq => ⟨⟨_, rfl, hq⟩, trivial⟩) (fun hq wc hw => cext hw (call_int (checkgrid_any (G2 A2 c2) wc (GOk.ext (.of2 (hBl.slOf hce_c).1) hw)) (ck2 A2 c2))) ?_
  refine q_lookg rfl rfl rfl (fun hq => look_neq rfl hq rfl rfl) ?_
  refine q_look (look_or rfl rfl rfl rfl) ?_
  refine q_look (look_move rfl rfl) ?_
  refine q_lookg rfl rfl rfl (fun hq => look_build (pl := [(0, 1), (1, 1), (2, 1), (3, 1)]) (parts := [(0, .const (Go.Value.int Go.IntKind.i64 25)), (1, .const (Go.Value.int Go.IntKind.i64 1)), (2, .const (Go.Value.int Go.IntKind.i64 1))]) (vs := [(0, .int .i64 25), (1, .int .i64 1), (2, .int .i64 1)]) (cells := gcell GB) Try.underlying24 zeTry_24 (by kernel_rfl) ⟨⟨_, rfl, rfl⟩, ⟨_, rfl, rfl⟩, ⟨_, rfl, rfl⟩, trivial⟩ rfl (by kernel_rfl)) ?_
  refine q_callg (vs := [_]) rfl rfl rfl enTry_11 (fun hq => ⟨⟨_, rfl, hq⟩, trivial⟩) (fun hq wc hw => cext hw (call_int (checkgrid_any GB wc GOk.ofB) ckB)) ?_
  refine q_lookg rfl rfl rfl (fun hq => look_neq rfl hq rfl rfl) ?_
  refine q_look (look_or rfl rfl rfl rfl) ?_
  refine q_nil ?_
  intro w1 hw1
  replace hX := hX.comp hw1
  replace hB2 := hB2.ext hw1
  replace hB10 := hB10.ext hw1
  replace hBl := hBl.ext hw1
  replace hP := hP.ext hw1
  replace hP2 := hP2.ext hw1
  replace hP3 := hP3.ext hw1
  refine then_normal ?_
  refine cond_false rfl (by decide +kernel) ?_
  refine wp_skip ?_
  refine then_normal ?_
  refine wp_seq ?_
  refine wp_region_lit ?_
  refine s_look (look_fieldAddr Try.underlying24 rfl (fun _ _ => rfl) rfl rfl) ?_
  refine s_look (look_load1 Try.underlying22 rfl rfl rfl (eqc (hB2.cell rfl))) ?_
  refine s_look (Look.as (look_slice_h (hi := 1) Try.underlying22 szTry_35 rfl rfl rfl rfl (by omega) (by have h2 : 2 ≤ c2 := (hBl.slOf hce_c).2.2.1; show 1 ≤ c2; omega)) (v' := .slice A2 1 c2) (by simp [cutA, Addr.add, G2])) ?_
  refine s_look (look_fieldAddr Try.underlying24 rfl (fun _ _ => rfl) rfl rfl) ?_
  refine s_store1 szTry_22 rfl rfl rfl rfl hB2 rfl ?_
  intro u11 hk11 hT11
  replace hT11 : Blk u11 g2 24 (gcell (G1 A2 c2)) := hT11
  replace hX := hX.kp hk11 (by omega)
  replace hB10 := hB10.kp hk11 (by omega)
  replace hBl := hBl.kp hk11 ne_hBl_g2
  replace hP := hP.kp hk11 ne_hP_g2
  replace hP2 := hP2.kp hk11 ne_hP2_g2
  replace hP3 := hP3.kp hk11 ne_hP3_g2
  clear hB2
  have hB2 := hT11
  refine s_nil ?_
  refine then_normal ?_
  refine wp_seq ?_
  refine wp_region_lit ?_
  refine s_look (look_loadN Try.underlying24 rfl szTry_24 rfl rfl rfl (eqc_n hB2)) ?_
  refine s_look (look_move rfl rfl) ?_
  refine s_call (vs := [_, _]) enTry_13 ⟨⟨_, rfl, rfl⟩, ⟨_, rfl, rfl⟩, trivial⟩ (call_int (check_any (G1 A2 c2) LW (some ⟨g10, 0, none⟩) 5 _ (.of1 (Sl.pre (l := [cA]) (r := [cB]) (hBl.slOf hce_c).1)) (Blk.sl hce_c hB10) (show 5 ≤ maxLen by decide)) (ckw A2 c2)) ?_
  rintro _ u12 ⟨rfl, hc12⟩
  refine ⟨_, rfl, ?_⟩
  replace hX := hX.comp hc12
  replace hB2 := hB2.ext hc12
  replace hB10 := hB10.ext hc12
  replace hBl := hBl.ext hc12
  replace hP := hP.ext hc12
  replace hP2 := hP2.ext hc12
  replace hP3 := hP3.ext hc12
  refine s_look (look_eql rfl rfl rfl rfl) ?_
  refine s_look (look_move rfl rfl) ?_
  refine s_want rfl rfl rfl (by decide +kernel) ?_
  refine s_look (look_loadN Try.underlying24 rfl szTry_24 rfl rfl rfl (eqc_n hB2)) ?_
  refine s_want rfl rfl rfl (by decide +kernel) ?_
  refine s_look (look_build (pl := [(0, 1), (1, 1), (2, 1)]) (parts := []) (vs := []) (cells := ccell ⟨0, 0, 0⟩) Try.underlying35 zeTry_35 (by kernel_rfl) trivial rfl (by kernel_rfl)) ?_
  refine s_want rfl rfl rfl (by decide +kernel) ?_
  refine s_look (look_build (pl := [(0, 1), (1, 1), (2, 1)]) (parts := [(0, .const (Go.Value.int Go.IntKind.i64 1))]) (vs := [(0, .int .i64 1)]) (cells := ccell ⟨1, 0, 0⟩) Try.underlying35 zeTry_35 (by kernel_rfl) ⟨⟨_, rfl, rfl⟩, trivial⟩ rfl (by kernel_rfl)) ?_
  refine s_want rfl rfl rfl (by decide +kernel) ?_
  refine s_buildSlice (parts := [(0, .tmp 91), (1, .tmp 92)]) (vs := [(0, .agg (ccell ⟨0, 0, 0⟩).toArray), (1, .agg (ccell ⟨1, 0, 0⟩).toArray)]) (cells := L2s.flatMap ccell) Try.underlying22 szTry_35 zeTry_35 rfl rfl ⟨⟨_, rfl, rfl⟩, ⟨_, rfl, rfl⟩, trivial⟩ rfl (by kernel_rfl) ?_
  intro g13 u13 hu13 hB13 hg13 hs13
  have lt_g2_g13 : g2 < g13 := by have := hB2.lt; omega
  have lt_g10_g13 : g10 < g13 := by have := hB10.lt; omega
  have ne_hBl_g13 : (Value.ownBlock (.slice A2 2 c2)) ≠ some g13 := hBl.ne_new (by omega)
  have ne_hP_g13 : (Value.ownBlock (.slice A1 (LW).length c1)) ≠ some g13 := hP.ne_new (by omega)
  have ne_hP2_g13 : (Value.ownBlock (v8)) ≠ some g13 := hP2.ne_new (by omega)
  have ne_hP3_g13 : (Value.ownBlock (v9)) ≠ some g13 := hP3.ne_new (by omega)
  have ge_g13 : w.heap.size ≤ g13 := by have := hX.size; omega
  replace hX := hX.comp hu13
  replace hB2 := hB2.ext hu13
  replace hB10 := hB10.ext hu13
  replace hBl := hBl.ext hu13
  replace hP := hP.ext hu13
  replace hP2 := hP2.ext hu13
  replace hP3 := hP3.ext hu13
  refine s_want rfl rfl rfl (by decide +kernel) ?_
  refine s_call (vs := [_, _]) enTry_13 ⟨⟨_, rfl, rfl⟩, ⟨_, rfl, rfl⟩, trivial⟩ (call_int (check_any (G1 A2 c2) L2s (some ⟨g13, 0, none⟩) 2 _ (.of1 (Sl.pre (l := [cA]) (r := [cB]) (hBl.slOf hce_c).1)) (Blk.sl hce_c hB13) (show 2 ≤ maxLen by decide)) (ckw2 A2 c2)) ?_
  rintro _ u14 ⟨rfl, hc14⟩
  refine ⟨_, rfl, ?_⟩
  replace hX := hX.comp hc14
  replace hB2 := hB2.ext hc14
  replace hB10 := hB10.ext hc14
  replace hB13 := hB13.ext hc14
  replace hBl := hBl.ext hc14
  replace hP := hP.ext hc14
  replace hP2 := hP2.ext hc14
  replace hP3 := hP3.ext hc14
  refine s_want rfl rfl rfl (by decide +kernel) ?_
  refine s_look (look_eql rfl rfl rfl rfl) ?_
  refine s_look (look_and2 rfl rfl rfl rfl) ?_
  refine s_look (look_move rfl rfl) ?_
  refine s_want rfl rfl rfl (by decide +kernel) ?_
  refine s_look (look_move rfl rfl) ?_
  refine s_want rfl rfl rfl (by decide +kernel) ?_
  refine s_call (vs := [_, _]) enTry_15 ⟨⟨_, rfl, rfl⟩, ⟨_, rfl, rfl⟩, trivial⟩ (call_int (cost_any LW (some ⟨g10, 0, none⟩) 5 5 _ (Blk.sl hce_c hB10) (show 5 ≤ maxLen by decide) (show 5 ≤ 4000000000000 by decide)) cow) ?_
  rintro _ u15 ⟨rfl, hc15⟩
  refine ⟨_, rfl, ?_⟩
  replace hX := hX.comp hc15
  replace hB2 := hB2.ext hc15
  replace hB10 := hB10.ext hc15
  replace hB13 := hB13.ext hc15
  replace hBl := hBl.ext hc15
  replace hP := hP.ext hc15
  replace hP2 := hP2.ext hc15
  replace hP3 := hP3.ext hc15
  refine s_want rfl rfl rfl (by decide +kernel) ?_
  refine s_look (look_eql rfl rfl rfl rfl) ?_
  refine s_look (look_and2 rfl rfl rfl rfl) ?_
  refine s_look (look_move rfl rfl) ?_
  refine s_want rfl rfl rfl (by decide +kernel) ?_
  refine s_look (look_move rfl rfl) ?_
  refine s_want rfl rfl rfl (by decide +kernel) ?_
  refine s_call (vs := [_]) enTry_18 ⟨⟨_, rfl, rfl⟩, trivial⟩ (corners_as crw (Blk.sl hce_c hB10) (show 5 ≤ maxLen by decide) (show 5 ≤ 4000000 by decide)) ?_
  rintro _ u16 ⟨v16, rfl, hc16, hCo⟩
  refine ⟨_, rfl, ?_⟩
  have dis_hBl_hCo := Own.dis_new hBl hCo
  have dis_hP_hCo := Own.dis_new hP hCo
  have dis_hP2_hCo := Own.dis_new hP2 hCo
  have dis_hP3_hCo := Own.dis_new hP3 hCo
  have ne_hCo_g2 : Value.ownBlock v16 ≠ some g2 := hCo.ne_old hB2.lt
  have ne_hCo_g10 : Value.ownBlock v16 ≠ some g10 := hCo.ne_old hB10.lt
  have ne_hCo_g13 : Value.ownBlock v16 ≠ some g13 := hCo.ne_old hB13.lt
  replace hCo := hCo.weak hX.size
  replace hX := hX.comp hc16
  replace hB2 := hB2.ext hc16
  replace hB10 := hB10.ext hc16
  replace hB13 := hB13.ext hc16
  replace hBl := hBl.ext hc16
  replace hP := hP.ext hc16
  replace hP2 := hP2.ext hc16
  replace hP3 := hP3.ext hc16
  obtain ⟨A3, c3, rfl, _, _, _, _⟩ := hCo.sl hce_c
  refine s_want rfl rfl rfl (by decide +kernel) ?_
  refine s_look (look_build (pl := [(0, 1), (1, 1), (2, 1)]) (parts := []) (vs := []) (cells := ccell ⟨0, 0, 0⟩) Try.underlying35 zeTry_35 (by kernel_rfl) trivial rfl (by kernel_rfl)) ?_
  refine s_want rfl rfl rfl (by decide +kernel) ?_
  refine s_look (look_build (pl := [(0, 1), (1, 1), (2, 1)]) (parts := [(1, .const (Go.Value.int Go.IntKind.i64 1))]) (vs := [(1, .int .i64 1)]) (cells := ccell ⟨0, 1, 0⟩) Try.underlying35 zeTry_35 (by kernel_rfl) ⟨⟨_, rfl, rfl⟩, trivial⟩ rfl (by kernel_rfl)) ?_
  refine s_want rfl rfl rfl (by decide +kernel) ?_
  refine s_look (look_build (pl := [(0, 1), (1, 1), (2, 1)]) (parts := [(0, .const (Go.Value.int Go.IntKind.i64 2)), (1, .const (Go.Value.int Go.IntKind.i64 1))]) (vs := [(0, .int .i64 2), (1, .int .i64 1)]) (cells := ccell ⟨2, 1, 0⟩) Try.underlying35 zeTry_35 (by kernel_rfl) ⟨⟨_, rfl, rfl⟩, ⟨_, rfl, rfl⟩, trivial⟩ rfl (by kernel_rfl)) ?_
  refine s_want rfl rfl rfl (by decide +kernel) ?_
  refine s_look (look_build (pl := [(0, 1), (1, 1), (2, 1)]) (parts := [(0, .const (Go.Value.int Go.IntKind.i64 2))]) (vs := [(0, .int .i64 2)]) (cells := ccell ⟨2, 0, 0⟩) Try.underlying35 zeTry_35 (by kernel_rfl) ⟨⟨_, rfl, rfl⟩, trivial⟩ rfl (by kernel_rfl)) ?_
  refine s_want rfl rfl rfl (by decide +kernel) ?_
  refine s_buildSlice (parts := [(0, .tmp 105), (1, .tmp 106), (2, .tmp 107), (3, .tmp 108)]) (vs := [(0, .agg (ccell ⟨0, 0, 0⟩).toArray), (1, .agg (ccell ⟨0, 1, 0⟩).toArray), (2, .agg (ccell ⟨2, 1, 0⟩).toArray), (3, .agg (ccell ⟨2, 0, 0⟩).toArray)]) (cells := LC4.flatMap ccell) Try.underlying22 szTry_35 zeTry_35 rfl rfl ⟨⟨_, rfl, rfl⟩, ⟨_, rfl, rfl⟩, ⟨_, rfl, rfl⟩, ⟨_, rfl, rfl⟩, trivial⟩ rfl (by kernel_rfl) ?_
  intro g17 u17 hu17 hB17 hg17 hs17
  have lt_g2_g17 : g2 < g17 := by have := hB2.lt; omega
  have lt_g10_g17 : g10 < g17 := by have := hB10.lt; omega
  have lt_g13_g17 : g13 < g17 := by have := hB13.lt; omega
  have ne_hBl_g17 : (Value.ownBlock (.slice A2 2 c2)) ≠ some g17 := hBl.ne_new (by omega)
  have ne_hP_g17 : (Value.ownBlock (.slice A1 (LW).length c1)) ≠ some g17 := hP.ne_new (by omega)
  have ne_hP2_g17 : (Value.ownBlock (v8)) ≠ some g17 := hP2.ne_new (by omega)
  have ne_hP3_g17 : (Value.ownBlock (v9)) ≠ some g17 := hP3.ne_new (by omega)
  have ne_hCo_g17 : (Value.ownBlock (.slice A3 LC4.length c3)) ≠ some g17 := hCo.ne_new (by omega)
  have ge_g17 : w.heap.size ≤ g17 := by have := hX.size; omega
  replace hX := hX.comp hu17
  replace hB2 := hB2.ext hu17
  replace hB10 := hB10.ext hu17
  replace hB13 := hB13.ext hu17
  replace hBl := hBl.ext hu17
  replace hP := hP.ext hu17
  replace hP2 := hP2.ext hu17
  replace hP3 := hP3.ext hu17
  replace hCo := hCo.ext hu17
  refine s_want rfl rfl rfl (by decide +kernel) ?_
  refine s_call (vs := [_, _]) enTry_17 ⟨⟨_, rfl, rfl⟩, ⟨_, rfl, rfl⟩, trivial⟩ (call_true (same_any LC4 LC4 A3 (some ⟨g17, 0, none⟩) c3 4 _ (hCo.slOf hce_c).1 (Blk.sl hce_c hB17) (show 4 ≤ maxLen by decide)) (decide_eq_true rfl)) ?_
  rintro _ u18 ⟨rfl, hc18⟩
  refine ⟨_, rfl, ?_⟩
  replace hX := hX.comp hc18
  replace hB2 := hB2.ext hc18
  replace hB10 := hB10.ext hc18
  replace hB13 := hB13.ext hc18
  replace hB17 := hB17.ext hc18
  replace hBl := hBl.ext hc18
  replace hP := hP.ext hc18
  replace hP2 := hP2.ext hc18
  replace hP3 := hP3.ext hc18
  replace hCo := hCo.ext hc18
  refine s_look (look_and2 rfl rfl rfl rfl) ?_
  refine s_look (look_assign rfl rfl) ?_
  refine s_nil ?_
  refine then_normal ?_
  refine wp_ret ?_
  exact res1 Try.results10 rfl ⟨ret_bool (by decide +kernel), hX⟩

end Go.Proofs.Ytbmchijgejgboaa
