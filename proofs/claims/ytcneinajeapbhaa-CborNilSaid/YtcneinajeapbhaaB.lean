/- The walks of chapter 05 (cbor), second part: encodings. -/
import Derived.Test.YtcneinajeapbhaaA
namespace Go.Proofs.Ytcneinajeapbhaa
open Go Go.RowKit Core
set_option linter.unusedVariables false
set_option linter.unusedSimpArgs false
attribute [local irreducible] wpQuiet wpList wpH wpT Code.wp Calls bodyPost act


def intP (n : Int) : List UInt8 := if n < 0 then headP 1 (-1 - n) else headP 0 n
def boolP (b : Bool) : List UInt8 := if b = true then [245] else [244]
def listP (n : Int) : List UInt8 := if n < 0 then [] else headP 4 n
def textP (t : List UInt8) : List UInt8 := headP 2 (t.length : Int) ++ t
theorem head_len (k v : Int) : 1 ≤ (headP k v).length ∧ (headP k v).length ≤ 9 := by
  unfold headP
  repeat' split
  all_goals simp [bytes_len]

theorem int_any (n : Int) (w : World) (hn : I64 n) :
    Calls Try.prog 12 #[.int .i64 n] w fun e w' => e = .returned (.string (ofL (intP n))) ∧ Ext w w' := by
  refine calls_act Try.func12 rfl Try.ntmps12 rfl rfl ?_
  show Code.wp _ _ _ (act 14 [(0, true, .int .i64 n)] _) _
  have hX : Ext w w := Ext.rfl' w
  have hn2 := hn
  unfold I64 at hn2
  refine wp_seq ?_
  refine region_s ?_
  refine q_look (look_assign rfl rfl) ?_
  refine q_nil ?_
  rintro _ rfl
  refine then_normal ?_
  refine wp_seq ?_
  refine wp_seq ?_
  refine region_s ?_
  refine q_look (look_move rfl rfl) ?_
  refine q_look (look_lss rfl rfl rfl rfl) ?_
  refine q_nil ?_
  rintro _ rfl
  refine then_normal ?_
  refine cond_split rfl (fun hc4 => ?_) (fun hc4 => ?_)
  · have h0 : n < 0 := by simpa using hc4
    refine wp_seq ?_
    refine wp_region_lit ?_
    refine s_look (look_move rfl rfl) ?_
    refine s_look (look_unxor rfl rfl hn) ?_
    refine s_look (look_conv_int Try.underlying52 Try.underlying3 rfl rfl (wrap_u64_in (by omega) (by omega))) ?_
    refine s_call (vs := [_, _, _]) enTry_37 ⟨⟨_, rfl, rfl⟩, ⟨_, rfl, rfl⟩, ⟨_, rfl, rfl⟩, trivial⟩ (head_any 1 (-1 - n) _ (by omega) (by unfold U64; omega)) ?_
    rintro _ u1 ⟨v1, rfl, hc1, hO⟩
    refine ⟨_, rfl, ?_⟩
    replace hO := hO.weak hX.size
    replace hX := hX.comp hc1
    obtain ⟨A_hO, c_hO, rfl, _, _, _, hnil_hO⟩ := hO.sl hce_b
    refine s_look (look_bytes_str (bs := headP 1 (-1 - n)) Try.underlying50 Try.underlying5 Try.underlying9 rfl rfl hnil_hO (fun w' e => e ▸ (hO.slOf hce_b).1)) ?_
    refine s_look (look_assign rfl rfl) ?_
    refine s_nil ?_
    refine then_normal ?_
    refine wp_ret ?_
    refine then_ret ?_
    exact res1 Try.results12 rfl ⟨by unfold intP; rw [if_pos h0], hX⟩
  · have h0 : ¬ n < 0 := by simpa using hc4
    refine wp_skip ?_
    refine then_normal ?_
    refine wp_seq ?_
    refine wp_region_lit ?_
    refine s_look (look_move rfl rfl) ?_
    refine s_look (look_conv_int Try.underlying52 Try.underlying3 rfl rfl (wrap_u64_in (by omega) (by omega))) ?_
    refine s_call (vs := [_, _, _]) enTry_37 ⟨⟨_, rfl, rfl⟩, ⟨_, rfl, rfl⟩, ⟨_, rfl, rfl⟩, trivial⟩ (head_any 0 n _ (by omega) (by unfold U64; omega)) ?_
    rintro _ u2 ⟨v2, rfl, hc2, hO⟩
    refine ⟨_, rfl, ?_⟩
    replace hO := hO.weak hX.size
    replace hX := hX.comp hc2
    obtain ⟨A_hO, c_hO, rfl, _, _, _, hnil_hO⟩ := hO.sl hce_b
    refine s_look (look_bytes_str (bs := headP 0 n) Try.underlying50 Try.underlying5 Try.underlying9 rfl rfl hnil_hO (fun w' e => e ▸ (hO.slOf hce_b).1)) ?_
    refine s_look (look_assign rfl rfl) ?_
    refine s_nil ?_
    refine then_normal ?_
    refine wp_ret ?_
    exact res1 Try.results12 rfl ⟨by unfold intP; rw [if_neg h0], hX⟩

theorem refint_any (n : Int) (w : World) (hn : I64 n) :
    Calls Try.prog 13 #[.int .i64 n] w fun e w' => e = .returned (.string (ofL (intP n))) ∧ Ext w w' := by
  refine calls_act Try.func13 rfl Try.ntmps13 rfl rfl ?_
  show Code.wp _ _ _ (act 12 [(0, true, .int .i64 n)] _) _
  have hX : Ext w w := Ext.rfl' w
  have hn2 := hn
  unfold I64 at hn2
  refine wp_seq ?_
  refine region_s ?_
  refine q_look (look_assign rfl rfl) ?_
  refine q_nil ?_
  rintro _ rfl
  refine then_normal ?_
  refine wp_seq ?_
  refine wp_seq ?_
  refine region_s ?_
  refine q_look (look_move rfl rfl) ?_
  refine q_look (look_lss rfl rfl rfl rfl) ?_
  refine q_nil ?_
  rintro _ rfl
  refine then_normal ?_
  refine cond_split rfl (fun hc4 => ?_) (fun hc4 => ?_)
  · have h0 : n < 0 := by simpa using hc4
    refine wp_seq ?_
    refine region_q ?_
    refine q_look (look_move rfl rfl) ?_
    refine q_look (look_sub rfl rfl rfl rfl (by unfold I64; omega)) ?_
    refine q_look (look_conv_int Try.underlying52 Try.underlying3 rfl rfl (wrap_u64_in (by omega) (by omega))) ?_
    refine q_call (vs := [_, _]) enTry_38 ⟨⟨_, rfl, rfl⟩, ⟨_, rfl, rfl⟩, trivial⟩ (fun wc hw => cext hw (refhead_any 1 (-1 - n) wc (by omega) (by unfold U64; omega))) ?_
    refine q_look (look_assign rfl rfl) ?_
    refine q_nil ?_
    intro w1 hw1
    replace hX := hX.comp hw1
    refine then_normal ?_
    refine wp_ret ?_
    refine then_ret ?_
    exact res1 Try.results13 rfl ⟨by unfold intP; rw [if_pos h0], hX⟩
  · have h0 : ¬ n < 0 := by simpa using hc4
    refine wp_skip ?_
    refine then_normal ?_
    refine wp_seq ?_
    refine region_q ?_
    refine q_look (look_move rfl rfl) ?_
    refine q_look (look_conv_int Try.underlying52 Try.underlying3 rfl rfl (wrap_u64_in (by omega) (by omega))) ?_
    refine q_call (vs := [_, _]) enTry_38 ⟨⟨_, rfl, rfl⟩, ⟨_, rfl, rfl⟩, trivial⟩ (fun wc hw => cext hw (refhead_any 0 n wc (by omega) (by unfold U64; omega))) ?_
    refine q_look (look_assign rfl rfl) ?_
    refine q_nil ?_
    intro w2 hw2
    replace hX := hX.comp hw2
    refine then_normal ?_
    refine wp_ret ?_
    exact res1 Try.results13 rfl ⟨by unfold intP; rw [if_neg h0], hX⟩

theorem bool_any (b : Bool) (w : World)  :
    Calls Try.prog 16 #[.bool b] w fun e w' => e = .returned (.string (ofL (boolP b))) ∧ Ext w w' := by
  refine calls_act Try.func16 rfl Try.ntmps16 rfl rfl ?_
  show Code.wp _ _ _ (act 8 [(0, true, .bool b)] _) _
  have hX : Ext w w := Ext.rfl' w
  refine wp_seq ?_
  refine region_s ?_
  refine q_look (look_assign rfl rfl) ?_
  refine q_nil ?_
  rintro _ rfl
  refine then_normal ?_
  refine wp_seq ?_
  refine wp_seq ?_
  refine region_s ?_
  refine q_look (look_move rfl rfl) ?_
  refine q_nil ?_
  rintro _ rfl
  refine then_normal ?_
  refine cond_split rfl (fun hc3 => ?_) (fun hc3 => ?_)
  · have h0 : b = true := hc3
    refine wp_seq ?_
    refine wp_region_lit ?_
    refine s_buildSlice (parts := [(0, .const (Go.Value.int Go.IntKind.u8 245))]) (vs := [(0, _)]) (cells := [(245 : UInt8)].flatMap bcell) Try.underlying50 szTry_5 zeTry_5 rfl rfl ⟨⟨_, rfl, rfl⟩, trivial⟩ rfl (by kernel_rfl) ?_
    intro g1 u1 hu1 hB1 hg1 hs1
    have ge_g1 : w.heap.size ≤ g1 := by have := hX.size; omega
    replace hX := hX.comp hu1
    refine s_look (look_bytes_str (bs := [(245 : UInt8)]) Try.underlying50 Try.underlying5 Try.underlying9 rfl rfl (fun h => by cases h) (fun w' e => e ▸ Blk.sl hce_b hB1)) ?_
    refine s_look (look_assign rfl rfl) ?_
    refine s_nil ?_
    refine then_normal ?_
    refine wp_ret ?_
    refine then_ret ?_
    exact res1 Try.results16 rfl ⟨by subst h0; rfl, hX⟩
  · have h0 : b = false := hc3
    refine wp_skip ?_
    refine then_normal ?_
    refine wp_seq ?_
    refine wp_region_lit ?_
    refine s_buildSlice (parts := [(0, .const (Go.Value.int Go.IntKind.u8 244))]) (vs := [(0, _)]) (cells := [(244 : UInt8)].flatMap bcell) Try.underlying50 szTry_5 zeTry_5 rfl rfl ⟨⟨_, rfl, rfl⟩, trivial⟩ rfl (by kernel_rfl) ?_
    intro g2 u2 hu2 hB2 hg2 hs2
    have ge_g2 : w.heap.size ≤ g2 := by have := hX.size; omega
    replace hX := hX.comp hu2
    refine s_look (look_bytes_str (bs := [(244 : UInt8)]) Try.underlying50 Try.underlying5 Try.underlying9 rfl rfl (fun h => by cases h) (fun w' e => e ▸ Blk.sl hce_b hB2)) ?_
    refine s_look (look_assign rfl rfl) ?_
    refine s_nil ?_
    refine then_normal ?_
    refine wp_ret ?_
    exact res1 Try.results16 rfl ⟨by subst h0; rfl, hX⟩

theorem refbool_any (b : Bool) (w : World)  :
    Calls Try.prog 17 #[.bool b] w fun e w' => e = .returned (.string (ofL (boolP b))) ∧ Ext w w' := by
  refine calls_act Try.func17 rfl Try.ntmps17 rfl rfl ?_
  show Code.wp _ _ _ (act 4 [(0, true, .bool b)] _) _
  have hX : Ext w w := Ext.rfl' w
  refine wp_seq ?_
  refine region_s ?_
  refine q_look (look_assign rfl rfl) ?_
  refine q_nil ?_
  rintro _ rfl
  refine then_normal ?_
  refine wp_seq ?_
  refine wp_seq ?_
  refine region_s ?_
  refine q_look (look_move rfl rfl) ?_
  refine q_nil ?_
  rintro _ rfl
  refine then_normal ?_
  refine cond_split rfl (fun hc3 => ?_) (fun hc3 => ?_)
  · have h0 : b = true := hc3
    refine wp_seq ?_
    refine region_s ?_
    refine q_look (look_assign rfl rfl) ?_
    refine q_nil ?_
    rintro _ rfl
    refine then_normal ?_
    refine wp_ret ?_
    refine then_ret ?_
    exact res1 Try.results17 rfl ⟨by subst h0; rfl, hX⟩
  · have h0 : b = false := hc3
    refine wp_skip ?_
    refine then_normal ?_
    refine wp_seq ?_
    refine region_s ?_
    refine q_look (look_assign rfl rfl) ?_
    refine q_nil ?_
    rintro _ rfl
    refine then_normal ?_
    refine wp_ret ?_
    exact res1 Try.results17 rfl ⟨by subst h0; rfl, hX⟩

theorem list_any (n : Int) (w : World) (hn : I64 n) :
    Calls Try.prog 18 #[.int .i64 n] w fun e w' => e = .returned (.string (ofL (listP n))) ∧ Ext w w' := by
  refine calls_act Try.func18 rfl Try.ntmps18 rfl rfl ?_
  show Code.wp _ _ _ (act 9 [(0, true, .int .i64 n)] _) _
  have hX : Ext w w := Ext.rfl' w
  have hn2 := hn
  unfold I64 at hn2
  refine wp_seq ?_
  refine region_s ?_
  refine q_look (look_assign rfl rfl) ?_
  refine q_nil ?_
  rintro _ rfl
  refine then_normal ?_
  refine wp_seq ?_
  refine wp_seq ?_
  refine region_s ?_
  refine q_look (look_move rfl rfl) ?_
  refine q_look (look_lss rfl rfl rfl rfl) ?_
  refine q_nil ?_
  rintro _ rfl
  refine then_normal ?_
  refine cond_split rfl (fun hc4 => ?_) (fun hc4 => ?_)
  · have h0 : n < 0 := by simpa using hc4
    refine wp_seq ?_
    refine region_s ?_
    refine q_look (look_assign rfl rfl) ?_
    refine q_nil ?_
    rintro _ rfl
    refine then_normal ?_
    refine wp_ret ?_
    refine then_ret ?_
    exact res1 Try.results18 rfl ⟨by unfold listP; rw [if_pos h0]; rfl, hX⟩
  · have h0 : ¬ n < 0 := by simpa using hc4
    refine wp_skip ?_
    refine then_normal ?_
    refine wp_seq ?_
    refine wp_region_lit ?_
    refine s_look (look_move rfl rfl) ?_
    refine s_look (look_conv_int Try.underlying52 Try.underlying3 rfl rfl (wrap_u64_in (by omega) (by omega))) ?_
    refine s_call (vs := [_, _, _]) enTry_37 ⟨⟨_, rfl, rfl⟩, ⟨_, rfl, rfl⟩, ⟨_, rfl, rfl⟩, trivial⟩ (head_any 4 n _ (by omega) (by unfold U64; omega)) ?_
    rintro _ u1 ⟨v1, rfl, hc1, hO⟩
    refine ⟨_, rfl, ?_⟩
    replace hO := hO.weak hX.size
    replace hX := hX.comp hc1
    obtain ⟨A_hO, c_hO, rfl, _, _, _, hnil_hO⟩ := hO.sl hce_b
    refine s_look (look_bytes_str (bs := headP 4 n) Try.underlying50 Try.underlying5 Try.underlying9 rfl rfl hnil_hO (fun w' e => e ▸ (hO.slOf hce_b).1)) ?_
    refine s_look (look_assign rfl rfl) ?_
    refine s_nil ?_
    refine then_normal ?_
    refine wp_ret ?_
    exact res1 Try.results18 rfl ⟨by unfold listP; rw [if_neg h0], hX⟩

theorem reflist_any (n : Int) (w : World) (hn : I64 n) :
    Calls Try.prog 19 #[.int .i64 n] w fun e w' => e = .returned (.string (ofL (listP n))) ∧ Ext w w' := by
  refine calls_act Try.func19 rfl Try.ntmps19 rfl rfl ?_
  show Code.wp _ _ _ (act 8 [(0, true, .int .i64 n)] _) _
  have hX : Ext w w := Ext.rfl' w
  have hn2 := hn
  unfold I64 at hn2
  refine wp_seq ?_
  refine region_s ?_
  refine q_look (look_assign rfl rfl) ?_
  refine q_nil ?_
  rintro _ rfl
  refine then_normal ?_
  refine wp_seq ?_
  refine wp_seq ?_
  refine region_s ?_
  refine q_look (look_move rfl rfl) ?_
  refine q_look (look_lss rfl rfl rfl rfl) ?_
  refine q_nil ?_
  rintro _ rfl
  refine then_normal ?_
  refine cond_split rfl (fun hc4 => ?_) (fun hc4 => ?_)
  · have h0 : n < 0 := by simpa using hc4
    refine wp_seq ?_
    refine region_s ?_
    refine q_look (look_assign rfl rfl) ?_
    refine q_nil ?_
    rintro _ rfl
    refine then_normal ?_
    refine wp_ret ?_
    refine then_ret ?_
    exact res1 Try.results19 rfl ⟨by unfold listP; rw [if_pos h0]; rfl, hX⟩
  · have h0 : ¬ n < 0 := by simpa using hc4
    refine wp_skip ?_
    refine then_normal ?_
    refine wp_seq ?_
    refine region_q ?_
    refine q_look (look_move rfl rfl) ?_
    refine q_look (look_conv_int Try.underlying52 Try.underlying3 rfl rfl (wrap_u64_in (by omega) (by omega))) ?_
    refine q_call (vs := [_, _]) enTry_38 ⟨⟨_, rfl, rfl⟩, ⟨_, rfl, rfl⟩, trivial⟩ (fun wc hw => cext hw (refhead_any 4 n wc (by omega) (by unfold U64; omega))) ?_
    refine q_look (look_assign rfl rfl) ?_
    refine q_nil ?_
    intro w1 hw1
    replace hX := hX.comp hw1
    refine then_normal ?_
    refine wp_ret ?_
    exact res1 Try.results19 rfl ⟨by unfold listP; rw [if_neg h0], hX⟩

theorem reftext_any (t : List UInt8) (w : World) (ht : t.length ≤ 1000000) :
    Calls Try.prog 15 #[.string (ofL t)] w fun e w' => e = .returned (.string (ofL (textP t))) ∧ Ext w w' := by
  refine calls_act Try.func15 rfl Try.ntmps15 rfl rfl ?_
  show Code.wp _ _ _ (act 9 [(0, true, .string (ofL t))] _) _
  have hX : Ext w w := Ext.rfl' w
  refine wp_seq ?_
  refine region_s ?_
  refine q_look (look_assign rfl rfl) ?_
  refine q_nil ?_
  rintro _ rfl
  refine then_normal ?_
  refine wp_seq ?_
  refine region_q ?_
  refine q_look (look_move rfl rfl) ?_
  refine q_look (Look.as (look_len_string Try.underlying9 rfl rfl) (by rw [ofL_size]) (v' := .int .i64 (t.length : Int))) ?_
  refine q_look (look_conv_int Try.underlying52 Try.underlying3 rfl rfl (wrap_u64_in (by omega) (by omega))) ?_
  refine q_call (vs := [_, _]) enTry_38 ⟨⟨_, rfl, rfl⟩, ⟨_, rfl, rfl⟩, trivial⟩ (fun wc hw => cext hw (refhead_any 2 (t.length : Int) wc (by omega) (by unfold U64; omega))) ?_
  refine q_look (look_move rfl rfl) ?_
  refine q_look (look_concat rfl rfl rfl rfl (by have := head_len 2 (t.length : Int); omega)) ?_
  refine q_look (look_assign rfl rfl) ?_
  refine q_nil ?_
  intro w1 hw1
  replace hX := hX.comp hw1
  refine then_normal ?_
  refine wp_ret ?_
  exact res1 Try.results15 rfl ⟨rfl, hX⟩

theorem text_any (t : List UInt8) (w : World) (ht : t.length ≤ 1000000) :
    Calls Try.prog 14 #[.string (ofL t)] w fun e w' => e = .returned (.string (ofL (textP t))) ∧ Ext w w' := by
  refine calls_act Try.func14 rfl Try.ntmps14 rfl rfl ?_
  show Code.wp _ _ _ (act 10 [(0, true, .string (ofL t))] _) _
  have hX : Ext w w := Ext.rfl' w
  refine wp_seq ?_
  refine region_s ?_
  refine q_look (look_assign rfl rfl) ?_
  refine q_nil ?_
  rintro _ rfl
  refine then_normal ?_
  refine wp_seq ?_
  refine wp_region_lit ?_
  refine s_look (look_move rfl rfl) ?_
  refine s_look (Look.as (look_len_string Try.underlying9 rfl rfl) (by rw [ofL_size]) (v' := .int .i64 (t.length : Int))) ?_
  refine s_look (look_conv_int Try.underlying52 Try.underlying3 rfl rfl (wrap_u64_in (by omega) (by omega))) ?_
  refine s_call (vs := [_, _, _]) enTry_37 ⟨⟨_, rfl, rfl⟩, ⟨_, rfl, rfl⟩, ⟨_, rfl, rfl⟩, trivial⟩ (head_any 2 (t.length : Int) _ (by omega) (by unfold U64; omega)) ?_
  rintro _ u1 ⟨v1, rfl, hc1, hO⟩
  refine ⟨_, rfl, ?_⟩
  replace hO := hO.weak hX.size
  replace hX := hX.comp hc1
  refine s_look (look_move rfl rfl) ?_
  refine s_append_str Try.underlying50 Try.underlying9 zsbTry_5 rfl hO rfl (by have := head_len 2 (t.length : Int); omega) hX.size ?_
  intro v2 u2 hN2 hg2
  replace hX := hX.grow hO (Nat.le_refl _) hg2
  replace hN2 : Own bcell 5 1 w.heap.size u2 v2 (textP t) := hN2
  obtain ⟨A_t, c_t, rfl, _, _, _, hnil_hO⟩ := hN2.sl hce_b
  clear hO
  have hO := hN2
  refine s_look (look_bytes_str (bs := textP t) Try.underlying50 Try.underlying5 Try.underlying9 rfl rfl hnil_hO (fun w' e => e ▸ (hO.slOf hce_b).1)) ?_
  refine s_look (look_assign rfl rfl) ?_
  refine s_nil ?_
  refine then_normal ?_
  refine wp_ret ?_
  exact res1 Try.results14 rfl ⟨rfl, hX⟩

end Go.Proofs.Ytcneinajeapbhaa
