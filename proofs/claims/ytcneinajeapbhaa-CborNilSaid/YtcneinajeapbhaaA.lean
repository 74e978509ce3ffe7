/- The walks of chapter 05 (cbor), first part: heads. -/
import Derived.Test.YtcneinajeapbhaaRows
import Derived.Test.YtcneinajeapbhaaBits
namespace Go.Proofs.Ytcneinajeapbhaa
open Go Go.RowKit Core
set_option linter.unusedVariables false
set_option linter.unusedSimpArgs false
attribute [local irreducible] wpQuiet wpList wpH wpT Code.wp Calls bodyPost act

theorem mixed : Try.prog.follows .mixedOrders = true := by kernel_rfl
theorem enTry_3 : Enters Try.prog 3 := enters_of Try.func3 (by kernel_rfl) rfl
theorem enTry_4 : Enters Try.prog 4 := enters_of Try.func4 (by kernel_rfl) rfl
theorem enTry_5 : Enters Try.prog 5 := enters_of Try.func5 (by kernel_rfl) rfl
theorem enTry_6 : Enters Try.prog 6 := enters_of Try.func6 (by kernel_rfl) rfl
theorem enTry_7 : Enters Try.prog 7 := enters_of Try.func7 (by kernel_rfl) rfl
theorem enTry_8 : Enters Try.prog 8 := enters_of Try.func8 (by kernel_rfl) rfl
theorem enTry_9 : Enters Try.prog 9 := enters_of Try.func9 (by kernel_rfl) rfl
theorem enTry_10 : Enters Try.prog 10 := enters_of Try.func10 (by kernel_rfl) rfl
theorem enTry_11 : Enters Try.prog 11 := enters_of Try.func11 (by kernel_rfl) rfl
theorem enTry_12 : Enters Try.prog 12 := enters_of Try.func12 (by kernel_rfl) rfl
theorem enTry_13 : Enters Try.prog 13 := enters_of Try.func13 (by kernel_rfl) rfl
theorem enTry_14 : Enters Try.prog 14 := enters_of Try.func14 (by kernel_rfl) rfl
theorem enTry_15 : Enters Try.prog 15 := enters_of Try.func15 (by kernel_rfl) rfl
theorem enTry_16 : Enters Try.prog 16 := enters_of Try.func16 (by kernel_rfl) rfl
theorem enTry_17 : Enters Try.prog 17 := enters_of Try.func17 (by kernel_rfl) rfl
theorem enTry_18 : Enters Try.prog 18 := enters_of Try.func18 (by kernel_rfl) rfl
theorem enTry_19 : Enters Try.prog 19 := enters_of Try.func19 (by kernel_rfl) rfl
theorem enTry_20 : Enters Try.prog 20 := enters_of Try.func20 (by kernel_rfl) rfl
theorem enTry_21 : Enters Try.prog 21 := enters_of Try.func21 (by kernel_rfl) rfl
theorem enTry_22 : Enters Try.prog 22 := enters_of Try.func22 (by kernel_rfl) rfl
theorem enTry_23 : Enters Try.prog 23 := enters_of Try.func23 (by kernel_rfl) rfl
theorem enTry_24 : Enters Try.prog 24 := enters_of Try.func24 (by kernel_rfl) rfl
theorem enTry_25 : Enters Try.prog 25 := enters_of Try.func25 (by kernel_rfl) rfl
theorem enTry_26 : Enters Try.prog 26 := enters_of Try.func26 (by kernel_rfl) rfl
theorem enTry_27 : Enters Try.prog 27 := enters_of Try.func27 (by kernel_rfl) rfl
theorem enTry_28 : Enters Try.prog 28 := enters_of Try.func28 (by kernel_rfl) rfl
theorem enTry_29 : Enters Try.prog 29 := enters_of Try.func29 (by kernel_rfl) rfl
theorem enTry_30 : Enters Try.prog 30 := enters_of Try.func30 (by kernel_rfl) rfl
theorem enTry_31 : Enters Try.prog 31 := enters_of Try.func31 (by kernel_rfl) rfl
theorem enTry_32 : Enters Try.prog 32 := enters_of Try.func32 (by kernel_rfl) rfl
theorem enTry_33 : Enters Try.prog 33 := enters_of Try.func33 (by kernel_rfl) rfl
theorem enTry_34 : Enters Try.prog 34 := enters_of Try.func34 (by kernel_rfl) rfl
theorem enTry_35 : Enters Try.prog 35 := enters_of Try.func35 (by kernel_rfl) rfl
theorem enTry_36 : Enters Try.prog 36 := enters_of Try.func36 (by kernel_rfl) rfl
theorem enTry_37 : Enters Try.prog 37 := enters_of Try.func37 (by kernel_rfl) rfl
theorem enTry_38 : Enters Try.prog 38 := enters_of Try.func38 (by kernel_rfl) rfl
theorem enTry_39 : Enters Try.prog 39 := enters_of Try.func39 (by kernel_rfl) rfl
theorem enTry_40 : Enters Try.prog 40 := enters_of Try.func40 (by kernel_rfl) rfl
theorem enTry_41 : Enters Try.prog 41 := enters_of Try.func41 (by kernel_rfl) rfl
theorem enTry_42 : Enters Try.prog 42 := enters_of Try.func42 (by kernel_rfl) rfl
theorem enTry_43 : Enters Try.prog 43 := enters_of Try.func43 (by kernel_rfl) rfl
theorem enTry_44 : Enters Try.prog 44 := enters_of Try.func44 (by kernel_rfl) rfl
theorem szTry_3 : (Try.prog.info? 3).map (fun i => i.size) = some 1 := by kernel_rfl
theorem zeTry_3 : (Try.prog.info? 3).map (fun i => i.zero) = some (some (.int .i64 0)) := by kernel_rfl
theorem szTry_4 : (Try.prog.info? 4).map (fun i => i.size) = some 1 := by kernel_rfl
theorem zeTry_4 : (Try.prog.info? 4).map (fun i => i.zero) = some (some (.bool false)) := by kernel_rfl
theorem szTry_5 : (Try.prog.info? 5).map (fun i => i.size) = some 1 := by kernel_rfl
theorem zeTry_5 : (Try.prog.info? 5).map (fun i => i.zero) = some (some (.int .u8 0)) := by kernel_rfl
theorem szTry_9 : (Try.prog.info? 9).map (fun i => i.size) = some 1 := by kernel_rfl
theorem zeTry_9 : (Try.prog.info? 9).map (fun i => i.zero) = some (some (.string ⟨#[]⟩)) := by kernel_rfl
theorem szTry_32 : (Try.prog.info? 32).map (fun i => i.size) = some 1 := by kernel_rfl
theorem zeTry_32 : (Try.prog.info? 32).map (fun i => i.zero) = some (some (.int .i64 0)) := by kernel_rfl
theorem szTry_45 : (Try.prog.info? 45).map (fun i => i.size) = some 3 := by kernel_rfl
theorem zeTry_45 : (Try.prog.info? 45).map (fun i => i.zero) = some (some (.agg #[.int .i64 0, .int .i64 0, .int .i64 0])) := by kernel_rfl
theorem szTry_55 : (Try.prog.info? 55).map (fun i => i.size) = some 2 := by kernel_rfl
theorem zeTry_55 : (Try.prog.info? 55).map (fun i => i.zero) = some (some (.agg #[.string ⟨#[]⟩, .int .i64 0])) := by kernel_rfl
theorem szTry_57 : (Try.prog.info? 57).map (fun i => i.size) = some 2 := by kernel_rfl
theorem zeTry_57 : (Try.prog.info? 57).map (fun i => i.zero) = some (some (.agg #[.string ⟨#[]⟩, .int .i64 0])) := by kernel_rfl
theorem szTry_63 : (Try.prog.info? 63).map (fun i => i.size) = some 3 := by kernel_rfl
theorem zeTry_63 : (Try.prog.info? 63).map (fun i => i.zero) = some (some (.agg #[.string ⟨#[]⟩, .int .i64 0, .int .i64 0])) := by kernel_rfl
theorem zsbTry_5 : (Try.prog.info? 5).map (fun i => (i.zero, i.size, i.bytes)) = some (some (.int .u8 0), 1, 1) := by kernel_rfl

def bytesP : Int → Nat → List UInt8
  | _, 0 => []
  | v, n + 1 => bytesP (v / 256) n ++ [u8of v]
theorem bytes_len : ∀ (n : Nat) (v : Int), (bytesP v n).length = n
  | 0, _ => rfl
  | n + 1, v => by simp [bytesP, bytes_len n]
def headP (k v : Int) : List UInt8 :=
  if v < 24 then [u8of (32 * k + v)] else if v ≤ 255 then u8of (32 * k + 24) :: bytesP v 1 else if v ≤ 65535 then u8of (32 * k + 25) :: bytesP v 2
  else if v ≤ 4294967295 then u8of (32 * k + 26) :: bytesP v 4 else u8of (32 * k + 27) :: bytesP v 8
theorem u8_mod (v : Int) : u8of (v % 256) = u8of v := by unfold u8of; rw [Int.emod_emod]
def U64 (v : Int) : Prop := 0 ≤ v ∧ v < 18446744073709551616
theorem or8 {k v : Int} (hk : 0 ≤ k ∧ k ≤ 7) (hv : 0 ≤ v ∧ v < 32) : IntKind.u8.wrap (((32 * k % 2 ^ IntKind.u8.bits).toNat ||| (v % 2 ^ IntKind.u8.bits).toNat : Nat) : Int) = ((u8of (32 * k + v)).toNat : Int) := by
  have h : ((((32 * k) % 2 ^ 8).toNat ||| (v % 2 ^ 8).toNat : Nat) : Int) = 32 * k + v := or_sum k.toNat 5 8 (by omega) hv.1 (by omega) (by omega)
  show IntKind.u8.wrap (((32 * k % 2 ^ 8).toNat ||| (v % 2 ^ 8).toNat : Nat) : Int) = _
  rw [h, wrap_u8]

theorem bytes_any (v : Int) (n : Nat) (w : World) (hv : U64 v) (hn : n ≤ 8) :
    Calls Try.prog 44 #[.int .u64 v, .int .i64 (n : Int)] w fun e w' => e = .returned (.string (ofL (bytesP v n))) ∧ Ext w w' := by
  refine calls_act Try.func44 rfl Try.ntmps44 rfl rfl ?_
  show Code.wp _ _ _ (act 22 [(0, true, .int .u64 v), (1, true, .int .i64 (n : Int))] _) _
  have hX : Ext w w := Ext.rfl' w
  refine wp_seq ?_
  refine region_s ?_
  refine q_look (look_assign rfl rfl) ?_
  refine q_nil ?_
  rintro _ rfl
  refine then_normal ?_
  refine wp_seq ?_
  refine region_s ?_
  refine q_look (look_assign rfl rfl) ?_
  refine q_nil ?_
  rintro _ rfl
  refine then_normal ?_
  refine wp_seq ?_
  refine wp_seq ?_
  refine region_s ?_
  refine q_look (look_assign rfl rfl) ?_
  refine q_nil ?_
  rintro _ rfl
  refine then_normal ?_
  refine wp_block ?_
  refine loop_act (fun (ls : Nat × Int × List UInt8) => [(0, .int .u64 ls.2.1), (1, .int .i64 (n : Int)), (5, .string (ofL ls.2.2)), (6, .int .i64 (ls.1 : Int))]) (fun ls w' => (Ext w w') ∧ (ls.1 ≤ n) ∧ (U64 ls.2.1) ∧ (ls.2.2.length = ls.1) ∧ (bytesP v n = bytesP ls.2.1 (n - ls.1) ++ ls.2.2)) (fun ls => n - ls.1) ((0, v, [])) ?_ ?_ ?_
  · exact ⟨rfl, rfl, rfl, rfl, trivial⟩
  · exact ⟨hX, Nat.zero_le _, hv, rfl, by simp⟩
  · rintro ⟨i, x, s⟩ σ wr hF
    obtain ⟨hX, hi, hx, hs, hb⟩ : (Ext w wr) ∧ (i ≤ n) ∧ (U64 x) ∧ (s.length = i) ∧ (bytesP v n = bytesP x (n - i) ++ s) := hF
    unfold U64 at hx
    show Code.wp _ _ _ (act 22 [(0, true, .int .u64 x), (1, true, .int .i64 (n : Int)), (5, true, .string (ofL s)), (6, true, .int .i64 (i : Int))] _) _
    refine wp_seq ?_
    refine wp_seq ?_
    refine region_s ?_
    refine q_look (look_move rfl rfl) ?_
    refine q_look (look_move rfl rfl) ?_
    refine q_look (look_lss rfl rfl rfl rfl) ?_
    refine q_nil ?_
    rintro _ rfl
    refine then_normal ?_
    refine cond_split rfl (fun hc9 => ?_) (fun hc9 => ?_)
    · have hlt : i < n := by simp at hc9; omega
      have hb2 : bytesP v n = bytesP (x / 256) (n - (i + 1)) ++ ([u8of (x % 256)] ++ s) := by
        rw [hb, show n - i = (n - (i + 1)) + 1 by omega, bytesP, u8_mod, List.append_assoc]
      refine wp_skip ?_
      refine then_normal ?_
      refine wp_seq ?_
      refine wp_block ?_
      refine wp_seq ?_
      refine wp_region_lit ?_
      refine s_look (look_move rfl rfl) ?_
      refine s_look (look_rem rfl rfl rfl rfl (by omega) (by omega)) ?_
      refine s_look (look_conv_int Try.underlying5 Try.underlying52 rfl rfl (wrap_u8 _)) ?_
      refine s_buildSlice (parts := [(0, .tmp 14)]) (vs := [(0, _)]) (cells := [u8of (x % 256)].flatMap bcell) Try.underlying50 szTry_5 zeTry_5 rfl rfl ⟨⟨_, rfl, rfl⟩, trivial⟩ rfl (by kernel_rfl) ?_
      intro g1 u1 hu1 hB1 hg1 hs1
      have ge_g1 : w.heap.size ≤ g1 := by have := hX.size; omega
      replace hX := hX.comp hu1
      refine s_look (look_bytes_str (bs := [u8of (x % 256)]) Try.underlying50 Try.underlying5 Try.underlying9 rfl rfl (fun h => by cases h) (fun w' e => e ▸ Blk.sl hce_b hB1)) ?_
      refine s_look (look_move rfl rfl) ?_
      refine s_look (look_concat rfl rfl rfl rfl (by simp only [List.length_cons, List.length_nil]; omega)) ?_
      refine s_look (look_assign rfl rfl) ?_
      refine s_nil ?_
      refine then_normal ?_
      refine region_s ?_
      refine q_look (look_move rfl rfl) ?_
      refine q_look (look_quo_k rfl rfl rfl rfl (by omega) (by omega) (wrap_u64_in (by omega) (by omega))) ?_
      refine q_look (look_assign rfl rfl) ?_
      refine q_nil ?_
      rintro _ rfl
      refine inB_normal ?_
      refine then_normal ?_
      refine region_s ?_
      refine q_look (look_move rfl rfl) ?_
      refine q_look (look_add rfl rfl rfl rfl (by unfold I64; omega)) ?_
      refine q_look (look_assign rfl rfl) ?_
      refine q_nil ?_
      rintro _ rfl
      exact loop_end ((i + 1, x / 256, [u8of (x % 256)] ++ s)) (by simp only []; omega) ⟨rfl, rfl, rfl, rfl, trivial⟩ ⟨hX, by show i + 1 ≤ n; omega, by unfold U64; show 0 ≤ x / 256 ∧ x / 256 < 18446744073709551616; omega, by show (_ :: _).length = _; simp [hs], hb2⟩
    · have hge : ¬ i < n := by simp at hc9; omega
      refine wp_exit ?_
      refine then_exit ?_
      refine then_exit ?_
      refine inB_exit_same ?_
      refine then_normal ?_
      refine wp_seq ?_
      refine region_s ?_
      refine q_look (look_move rfl rfl) ?_
      refine q_look (look_assign rfl rfl) ?_
      refine q_nil ?_
      rintro _ rfl
      refine then_normal ?_
      refine wp_ret ?_
      exact res1 Try.results44 rfl ⟨by rw [hb, show n - i = 0 by omega]; rfl, hX⟩

theorem refhead_any (k v : Int) (w : World) (hk : 0 ≤ k ∧ k ≤ 7) (hv : U64 v) :
    Calls Try.prog 38 #[.int .i64 k, .int .u64 v] w fun e w' => e = .returned (.string (ofL (headP k v))) ∧ Ext w w' := by
  refine calls_act Try.func38 rfl Try.ntmps38 rfl rfl ?_
  show Code.wp _ _ _ (act 31 [(0, true, .int .i64 k), (1, true, .int .u64 v)] _) _
  have hX : Ext w w := Ext.rfl' w
  have hv2 := hv
  unfold U64 at hv2
  refine wp_seq ?_
  refine region_s ?_
  refine q_look (look_assign rfl rfl) ?_
  refine q_nil ?_
  rintro _ rfl
  refine then_normal ?_
  refine wp_seq ?_
  refine region_s ?_
  refine q_look (look_assign rfl rfl) ?_
  refine q_look (look_assign rfl rfl) ?_
  refine q_nil ?_
  rintro _ rfl
  refine then_normal ?_
  refine wp_seq ?_
  refine wp_seq ?_
  refine region_s ?_
  refine q_look (look_move rfl rfl) ?_
  refine q_look (look_lss rfl rfl rfl rfl) ?_
  refine q_nil ?_
  rintro _ rfl
  refine then_normal ?_
  refine cond_split rfl (fun hc8 => ?_) (fun hc8 => ?_)
  · have h24 : v < 24 := by simpa using hc8
    refine wp_seq ?_
    refine region_q ?_
    refine q_look (look_move rfl rfl) ?_
    refine q_look (look_mulz rfl rfl rfl rfl (wrap_i64_in (by unfold I64; omega))) ?_
    refine q_look (look_conv_int Try.underlying52 Try.underlying3 rfl rfl (wrap_u64_in (by omega) (by omega))) ?_
    refine q_look (look_move rfl rfl) ?_
    refine q_look (look_addz rfl rfl rfl rfl (wrap_u64_in (by omega) (by omega))) ?_
    refine q_call (vs := [_, _]) enTry_44 ⟨⟨_, rfl, rfl⟩, ⟨_, rfl, rfl⟩, trivial⟩ (fun wc hw => cext hw (bytes_any (32 * k + v) 1 wc (by unfold U64; omega) (by omega))) ?_
    refine q_look (look_assign rfl rfl) ?_
    refine q_nil ?_
    intro w1 hw1
    replace hX := hX.comp hw1
    refine then_normal ?_
    refine wp_ret ?_
    refine then_ret ?_
    exact res1 Try.results38 rfl ⟨by unfold headP; rw [if_pos h24]; rfl, hX⟩
  · have h24 : ¬ v < 24 := by simpa using hc8
    refine wp_skip ?_
    refine then_normal ?_
    refine wp_seq ?_
    refine wp_seq ?_
    refine region_s ?_
    refine q_look (look_move rfl rfl) ?_
    refine q_look (look_gtr rfl rfl rfl rfl) ?_
    refine q_nil ?_
    rintro _ rfl
    refine then_normal ?_
    refine cond_split rfl (fun hc16 => ?_) (fun hc16 => ?_)
    · have h255 : ¬ v ≤ 255 := by simp at hc16; omega
      refine region_s ?_
      refine q_look (look_assign rfl rfl) ?_
      refine q_look (look_assign rfl rfl) ?_
      refine q_nil ?_
      rintro _ rfl
      refine then_normal ?_
      refine wp_seq ?_
      refine wp_seq ?_
      refine region_s ?_
      refine q_look (look_move rfl rfl) ?_
      refine q_look (look_gtr rfl rfl rfl rfl) ?_
      refine q_nil ?_
      rintro _ rfl
      refine then_normal ?_
      refine cond_split rfl (fun hc18 => ?_) (fun hc18 => ?_)
      · have h65535 : ¬ v ≤ 65535 := by simp at hc18; omega
        refine region_s ?_
        refine q_look (look_assign rfl rfl) ?_
        refine q_look (look_assign rfl rfl) ?_
        refine q_nil ?_
        rintro _ rfl
        refine then_normal ?_
        refine seq_cut (n := 31) (fun (z : Int × Nat) => [(0, .int .i64 k), (1, .int .u64 v), (5, .int .i64 z.1), (6, .int .i64 (z.2 : Int))]) (fun z w' => Ext w w' ∧ 24 ≤ z.1 ∧ z.1 ≤ 27 ∧ z.2 ≤ 8 ∧ headP k v = u8of (32 * k + z.1) :: bytesP v z.2) ?_ ?_
        · refine wp_seq ?_
          refine region_s ?_
          refine q_look (look_move rfl rfl) ?_
          refine q_look (look_gtr rfl rfl rfl rfl) ?_
          refine q_nil ?_
          rintro _ rfl
          refine then_normal ?_
          refine cond_split rfl (fun hc20 => ?_) (fun hc20 => ?_)
          · have h4294967295 : ¬ v ≤ 4294967295 := by simp at hc20; omega
            refine region_s ?_
            refine q_look (look_assign rfl rfl) ?_
            refine q_look (look_assign rfl rfl) ?_
            refine q_nil ?_
            rintro _ rfl
            first | exact cut_end (24, 1) ⟨rfl, rfl, rfl, rfl, trivial⟩ ⟨hX, by decide, by decide, by decide, by unfold headP; rw [if_neg h24, if_pos (by omega)]⟩ | exact cut_end (25, 2) ⟨rfl, rfl, rfl, rfl, trivial⟩ ⟨hX, by decide, by decide, by decide, by unfold headP; rw [if_neg h24, if_neg (by omega), if_pos (by omega)]⟩ | exact cut_end (26, 4) ⟨rfl, rfl, rfl, rfl, trivial⟩ ⟨hX, by decide, by decide, by decide, by unfold headP; rw [if_neg h24, if_neg (by omega), if_neg (by omega), if_pos (by omega)]⟩ | exact cut_end (27, 8) ⟨rfl, rfl, rfl, rfl, trivial⟩ ⟨hX, by decide, by decide, by decide, by unfold headP; rw [if_neg h24, if_neg (by omega), if_neg (by omega), if_neg (by omega)]⟩
          · have h4294967295 : v ≤ 4294967295 := by simp at hc20; omega
            refine wp_skip ?_
            first | exact cut_end (24, 1) ⟨rfl, rfl, rfl, rfl, trivial⟩ ⟨hX, by decide, by decide, by decide, by unfold headP; rw [if_neg h24, if_pos (by omega)]⟩ | exact cut_end (25, 2) ⟨rfl, rfl, rfl, rfl, trivial⟩ ⟨hX, by decide, by decide, by decide, by unfold headP; rw [if_neg h24, if_neg (by omega), if_pos (by omega)]⟩ | exact cut_end (26, 4) ⟨rfl, rfl, rfl, rfl, trivial⟩ ⟨hX, by decide, by decide, by decide, by unfold headP; rw [if_neg h24, if_neg (by omega), if_neg (by omega), if_pos (by omega)]⟩ | exact cut_end (27, 8) ⟨rfl, rfl, rfl, rfl, trivial⟩ ⟨hX, by decide, by decide, by decide, by unfold headP; rw [if_neg h24, if_neg (by omega), if_neg (by omega), if_neg (by omega)]⟩
        · rintro ⟨f, n⟩ σ wr hF
          obtain ⟨hX, hf1, hf2, hn, hh⟩ : Ext w wr ∧ 24 ≤ f ∧ f ≤ 27 ∧ n ≤ 8 ∧ headP k v = u8of (32 * k + f) :: bytesP v n := hF
          show Code.wp _ _ _ (act 31 [(0, true, .int .i64 k), (1, true, .int .u64 v), (5, true, .int .i64 f), (6, true, .int .i64 (n : Int))] _) _
          refine wp_seq ?_
          refine region_q ?_
          refine q_look (look_move rfl rfl) ?_
          refine q_look (look_mulz rfl rfl rfl rfl (wrap_i64_in (by unfold I64; omega))) ?_
          refine q_look (look_move rfl rfl) ?_
          refine q_look (look_add rfl rfl rfl rfl (by unfold I64; omega)) ?_
          refine q_look (look_conv_int Try.underlying52 Try.underlying3 rfl rfl (wrap_u64_in (by omega) (by omega))) ?_
          refine q_call (vs := [_, _]) enTry_44 ⟨⟨_, rfl, rfl⟩, ⟨_, rfl, rfl⟩, trivial⟩ (fun wc hw => cext hw (bytes_any (32 * k + f) 1 wc (by unfold U64; omega) (by omega))) ?_
          refine q_look (look_move rfl rfl) ?_
          refine q_look (look_move rfl rfl) ?_
          refine q_call (vs := [_, _]) enTry_44 ⟨⟨_, rfl, rfl⟩, ⟨_, rfl, rfl⟩, trivial⟩ (fun wc hw => cext hw (bytes_any v n wc hv hn)) ?_
          refine q_look (look_concat rfl rfl rfl rfl (by rw [bytes_len, bytes_len]; omega)) ?_
          refine q_look (look_assign rfl rfl) ?_
          refine q_nil ?_
          intro w2 hw2
          replace hX := hX.comp hw2
          refine then_normal ?_
          refine wp_ret ?_
          exact res1 Try.results38 rfl ⟨by rw [hh]; rfl, hX⟩
      · have h65535 : v ≤ 65535 := by simp at hc18; omega
        refine wp_skip ?_
        refine then_normal ?_
        refine seq_cut (n := 31) (fun (z : Int × Nat) => [(0, .int .i64 k), (1, .int .u64 v), (5, .int .i64 z.1), (6, .int .i64 (z.2 : Int))]) (fun z w' => Ext w w' ∧ 24 ≤ z.1 ∧ z.1 ≤ 27 ∧ z.2 ≤ 8 ∧ headP k v = u8of (32 * k + z.1) :: bytesP v z.2) ?_ ?_
        · refine wp_seq ?_
          refine region_s ?_
          refine q_look (look_move rfl rfl) ?_
          refine q_look (look_gtr rfl rfl rfl rfl) ?_
          refine q_nil ?_
          rintro _ rfl
          refine then_normal ?_
          refine cond_split rfl (fun hc20 => ?_) (fun hc20 => ?_)
          · have h4294967295 : ¬ v ≤ 4294967295 := by simp at hc20; omega
            refine region_s ?_
            refine q_look (look_assign rfl rfl) ?_
            refine q_look (look_assign rfl rfl) ?_
            refine q_nil ?_
            rintro _ rfl
            first | exact cut_end (24, 1) ⟨rfl, rfl, rfl, rfl, trivial⟩ ⟨hX, by decide, by decide, by decide, by unfold headP; rw [if_neg h24, if_pos (by omega)]⟩ | exact cut_end (25, 2) ⟨rfl, rfl, rfl, rfl, trivial⟩ ⟨hX, by decide, by decide, by decide, by unfold headP; rw [if_neg h24, if_neg (by omega), if_pos (by omega)]⟩ | exact cut_end (26, 4) ⟨rfl, rfl, rfl, rfl, trivial⟩ ⟨hX, by decide, by decide, by decide, by unfold headP; rw [if_neg h24, if_neg (by omega), if_neg (by omega), if_pos (by omega)]⟩ | exact cut_end (27, 8) ⟨rfl, rfl, rfl, rfl, trivial⟩ ⟨hX, by decide, by decide, by decide, by unfold headP; rw [if_neg h24, if_neg (by omega), if_neg (by omega), if_neg (by omega)]⟩
          · have h4294967295 : v ≤ 4294967295 := by simp at hc20; omega
            refine wp_skip ?_
            first | exact cut_end (24, 1) ⟨rfl, rfl, rfl, rfl, trivial⟩ ⟨hX, by decide, by decide, by decide, by unfold headP; rw [if_neg h24, if_pos (by omega)]⟩ | exact cut_end (25, 2) ⟨rfl, rfl, rfl, rfl, trivial⟩ ⟨hX, by decide, by decide, by decide, by unfold headP; rw [if_neg h24, if_neg (by omega), if_pos (by omega)]⟩ | exact cut_end (26, 4) ⟨rfl, rfl, rfl, rfl, trivial⟩ ⟨hX, by decide, by decide, by decide, by unfold headP; rw [if_neg h24, if_neg (by omega), if_neg (by omega), if_pos (by omega)]⟩ | exact cut_end (27, 8) ⟨rfl, rfl, rfl, rfl, trivial⟩ ⟨hX, by decide, by decide, by decide, by unfold headP; rw [if_neg h24, if_neg (by omega), if_neg (by omega), if_neg (by omega)]⟩
        · rintro ⟨f, n⟩ σ wr hF
          obtain ⟨hX, hf1, hf2, hn, hh⟩ : Ext w wr ∧ 24 ≤ f ∧ f ≤ 27 ∧ n ≤ 8 ∧ headP k v = u8of (32 * k + f) :: bytesP v n := hF
          show Code.wp _ _ _ (act 31 [(0, true, .int .i64 k), (1, true, .int .u64 v), (5, true, .int .i64 f), (6, true, .int .i64 (n : Int))] _) _
          refine wp_seq ?_
          refine region_q ?_
          refine q_look (look_move rfl rfl) ?_
          refine q_look (look_mulz rfl rfl rfl rfl (wrap_i64_in (by unfold I64; omega))) ?_
          refine q_look (look_move rfl rfl) ?_
          refine q_look (look_add rfl rfl rfl rfl (by unfold I64; omega)) ?_
          refine q_look (look_conv_int Try.underlying52 Try.underlying3 rfl rfl (wrap_u64_in (by omega) (by omega))) ?_
          refine q_call (vs := [_, _]) enTry_44 ⟨⟨_, rfl, rfl⟩, ⟨_, rfl, rfl⟩, trivial⟩ (fun wc hw => cext hw (bytes_any (32 * k + f) 1 wc (by unfold U64; omega) (by omega))) ?_
          refine q_look (look_move rfl rfl) ?_
          refine q_look (look_move rfl rfl) ?_
          refine q_call (vs := [_, _]) enTry_44 ⟨⟨_, rfl, rfl⟩, ⟨_, rfl, rfl⟩, trivial⟩ (fun wc hw => cext hw (bytes_any v n wc hv hn)) ?_
          refine q_look (look_concat rfl rfl rfl rfl (by rw [bytes_len, bytes_len]; omega)) ?_
          refine q_look (look_assign rfl rfl) ?_
          refine q_nil ?_
          intro w3 hw3
          replace hX := hX.comp hw3
          refine then_normal ?_
          refine wp_ret ?_
          exact res1 Try.results38 rfl ⟨by rw [hh]; rfl, hX⟩
    · have h255 : v ≤ 255 := by simp at hc16; omega
      refine wp_skip ?_
      refine then_normal ?_
      refine wp_seq ?_
      refine wp_seq ?_
      refine region_s ?_
      refine q_look (look_move rfl rfl) ?_
      refine q_look (look_gtr rfl rfl rfl rfl) ?_
      refine q_nil ?_
      rintro _ rfl
      refine then_normal ?_
      refine cond_split rfl (fun hc18 => ?_) (fun hc18 => ?_)
      · have h65535 : ¬ v ≤ 65535 := by simp at hc18; omega
        refine region_s ?_
        refine q_look (look_assign rfl rfl) ?_
        refine q_look (look_assign rfl rfl) ?_
        refine q_nil ?_
        rintro _ rfl
        refine then_normal ?_
        refine seq_cut (n := 31) (fun (z : Int × Nat) => [(0, .int .i64 k), (1, .int .u64 v), (5, .int .i64 z.1), (6, .int .i64 (z.2 : Int))]) (fun z w' => Ext w w' ∧ 24 ≤ z.1 ∧ z.1 ≤ 27 ∧ z.2 ≤ 8 ∧ headP k v = u8of (32 * k + z.1) :: bytesP v z.2) ?_ ?_
        · refine wp_seq ?_
          refine region_s ?_
          refine q_look (look_move rfl rfl) ?_
          refine q_look (look_gtr rfl rfl rfl rfl) ?_
          refine q_nil ?_
          rintro _ rfl
          refine then_normal ?_
          refine cond_split rfl (fun hc20 => ?_) (fun hc20 => ?_)
          · have h4294967295 : ¬ v ≤ 4294967295 := by simp at hc20; omega
            refine region_s ?_
            refine q_look (look_assign rfl rfl) ?_
            refine q_look (look_assign rfl rfl) ?_
            refine q_nil ?_
            rintro _ rfl
            first | exact cut_end (24, 1) ⟨rfl, rfl, rfl, rfl, trivial⟩ ⟨hX, by decide, by decide, by decide, by unfold headP; rw [if_neg h24, if_pos (by omega)]⟩ | exact cut_end (25, 2) ⟨rfl, rfl, rfl, rfl, trivial⟩ ⟨hX, by decide, by decide, by decide, by unfold headP; rw [if_neg h24, if_neg (by omega), if_pos (by omega)]⟩ | exact cut_end (26, 4) ⟨rfl, rfl, rfl, rfl, trivial⟩ ⟨hX, by decide, by decide, by decide, by unfold headP; rw [if_neg h24, if_neg (by omega), if_neg (by omega), if_pos (by omega)]⟩ | exact cut_end (27, 8) ⟨rfl, rfl, rfl, rfl, trivial⟩ ⟨hX, by decide, by decide, by decide, by unfold headP; rw [if_neg h24, if_neg (by omega), if_neg (by omega), if_neg (by omega)]⟩
          · have h4294967295 : v ≤ 4294967295 := by simp at hc20; omega
            refine wp_skip ?_
            first | exact cut_end (24, 1) ⟨rfl, rfl, rfl, rfl, trivial⟩ ⟨hX, by decide, by decide, by decide, by unfold headP; rw [if_neg h24, if_pos (by omega)]⟩ | exact cut_end (25, 2) ⟨rfl, rfl, rfl, rfl, trivial⟩ ⟨hX, by decide, by decide, by decide, by unfold headP; rw [if_neg h24, if_neg (by omega), if_pos (by omega)]⟩ | exact cut_end (26, 4) ⟨rfl, rfl, rfl, rfl, trivial⟩ ⟨hX, by decide, by decide, by decide, by unfold headP; rw [if_neg h24, if_neg (by omega), if_neg (by omega), if_pos (by omega)]⟩ | exact cut_end (27, 8) ⟨rfl, rfl, rfl, rfl, trivial⟩ ⟨hX, by decide, by decide, by decide, by unfold headP; rw [if_neg h24, if_neg (by omega), if_neg (by omega), if_neg (by omega)]⟩
        · rintro ⟨f, n⟩ σ wr hF
          obtain ⟨hX, hf1, hf2, hn, hh⟩ : Ext w wr ∧ 24 ≤ f ∧ f ≤ 27 ∧ n ≤ 8 ∧ headP k v = u8of (32 * k + f) :: bytesP v n := hF
          show Code.wp _ _ _ (act 31 [(0, true, .int .i64 k), (1, true, .int .u64 v), (5, true, .int .i64 f), (6, true, .int .i64 (n : Int))] _) _
          refine wp_seq ?_
          refine region_q ?_
          refine q_look (look_move rfl rfl) ?_
          refine q_look (look_mulz rfl rfl rfl rfl (wrap_i64_in (by unfold I64; omega))) ?_
          refine q_look (look_move rfl rfl) ?_
          refine q_look (look_add rfl rfl rfl rfl (by unfold I64; omega)) ?_
          refine q_look (look_conv_int Try.underlying52 Try.underlying3 rfl rfl (wrap_u64_in (by omega) (by omega))) ?_
          refine q_call (vs := [_, _]) enTry_44 ⟨⟨_, rfl, rfl⟩, ⟨_, rfl, rfl⟩, trivial⟩ (fun wc hw => cext hw (bytes_any (32 * k + f) 1 wc (by unfold U64; omega) (by omega))) ?_
          refine q_look (look_move rfl rfl) ?_
          refine q_look (look_move rfl rfl) ?_
          refine q_call (vs := [_, _]) enTry_44 ⟨⟨_, rfl, rfl⟩, ⟨_, rfl, rfl⟩, trivial⟩ (fun wc hw => cext hw (bytes_any v n wc hv hn)) ?_
          refine q_look (look_concat rfl rfl rfl rfl (by rw [bytes_len, bytes_len]; omega)) ?_
          refine q_look (look_assign rfl rfl) ?_
          refine q_nil ?_
          intro w4 hw4
          replace hX := hX.comp hw4
          refine then_normal ?_
          refine wp_ret ?_
          exact res1 Try.results38 rfl ⟨by rw [hh]; rfl, hX⟩
      · have h65535 : v ≤ 65535 := by simp at hc18; omega
        refine wp_skip ?_
        refine then_normal ?_
        refine seq_cut (n := 31) (fun (z : Int × Nat) => [(0, .int .i64 k), (1, .int .u64 v), (5, .int .i64 z.1), (6, .int .i64 (z.2 : Int))]) (fun z w' => Ext w w' ∧ 24 ≤ z.1 ∧ z.1 ≤ 27 ∧ z.2 ≤ 8 ∧ headP k v = u8of (32 * k + z.1) :: bytesP v z.2) ?_ ?_
        · refine wp_seq ?_
          refine region_s ?_
          refine q_look (look_move rfl rfl) ?_
          refine q_look (look_gtr rfl rfl rfl rfl) ?_
          refine q_nil ?_
          rintro _ rfl
          refine then_normal ?_
          refine cond_split rfl (fun hc20 => ?_) (fun hc20 => ?_)
          · have h4294967295 : ¬ v ≤ 4294967295 := by simp at hc20; omega
            refine region_s ?_
            refine q_look (look_assign rfl rfl) ?_
            refine q_look (look_assign rfl rfl) ?_
            refine q_nil ?_
            rintro _ rfl
            first | exact cut_end (24, 1) ⟨rfl, rfl, rfl, rfl, trivial⟩ ⟨hX, by decide, by decide, by decide, by unfold headP; rw [if_neg h24, if_pos (by omega)]⟩ | exact cut_end (25, 2) ⟨rfl, rfl, rfl, rfl, trivial⟩ ⟨hX, by decide, by decide, by decide, by unfold headP; rw [if_neg h24, if_neg (by omega), if_pos (by omega)]⟩ | exact cut_end (26, 4) ⟨rfl, rfl, rfl, rfl, trivial⟩ ⟨hX, by decide, by decide, by decide, by unfold headP; rw [if_neg h24, if_neg (by omega), if_neg (by omega), if_pos (by omega)]⟩ | exact cut_end (27, 8) ⟨rfl, rfl, rfl, rfl, trivial⟩ ⟨hX, by decide, by decide, by decide, by unfold headP; rw [if_neg h24, if_neg (by omega), if_neg (by omega), if_neg (by omega)]⟩
          · have h4294967295 : v ≤ 4294967295 := by simp at hc20; omega
            refine wp_skip ?_
            first | exact cut_end (24, 1) ⟨rfl, rfl, rfl, rfl, trivial⟩ ⟨hX, by decide, by decide, by decide, by unfold headP; rw [if_neg h24, if_pos (by omega)]⟩ | exact cut_end (25, 2) ⟨rfl, rfl, rfl, rfl, trivial⟩ ⟨hX, by decide, by decide, by decide, by unfold headP; rw [if_neg h24, if_neg (by omega), if_pos (by omega)]⟩ | exact cut_end (26, 4) ⟨rfl, rfl, rfl, rfl, trivial⟩ ⟨hX, by decide, by decide, by decide, by unfold headP; rw [if_neg h24, if_neg (by omega), if_neg (by omega), if_pos (by omega)]⟩ | exact cut_end (27, 8) ⟨rfl, rfl, rfl, rfl, trivial⟩ ⟨hX, by decide, by decide, by decide, by unfold headP; rw [if_neg h24, if_neg (by omega), if_neg (by omega), if_neg (by omega)]⟩
        · rintro ⟨f, n⟩ σ wr hF
          obtain ⟨hX, hf1, hf2, hn, hh⟩ : Ext w wr ∧ 24 ≤ f ∧ f ≤ 27 ∧ n ≤ 8 ∧ headP k v = u8of (32 * k + f) :: bytesP v n := hF
          show Code.wp _ _ _ (act 31 [(0, true, .int .i64 k), (1, true, .int .u64 v), (5, true, .int .i64 f), (6, true, .int .i64 (n : Int))] _) _
          refine wp_seq ?_
          refine region_q ?_
          refine q_look (look_move rfl rfl) ?_
          refine q_look (look_mulz rfl rfl rfl rfl (wrap_i64_in (by unfold I64; omega))) ?_
          refine q_look (look_move rfl rfl) ?_
          refine q_look (look_add rfl rfl rfl rfl (by unfold I64; omega)) ?_
          refine q_look (look_conv_int Try.underlying52 Try.underlying3 rfl rfl (wrap_u64_in (by omega) (by omega))) ?_
          refine q_call (vs := [_, _]) enTry_44 ⟨⟨_, rfl, rfl⟩, ⟨_, rfl, rfl⟩, trivial⟩ (fun wc hw => cext hw (bytes_any (32 * k + f) 1 wc (by unfold U64; omega) (by omega))) ?_
          refine q_look (look_move rfl rfl) ?_
          refine q_look (look_move rfl rfl) ?_
          refine q_call (vs := [_, _]) enTry_44 ⟨⟨_, rfl, rfl⟩, ⟨_, rfl, rfl⟩, trivial⟩ (fun wc hw => cext hw (bytes_any v n wc hv hn)) ?_
          refine q_look (look_concat rfl rfl rfl rfl (by rw [bytes_len, bytes_len]; omega)) ?_
          refine q_look (look_assign rfl rfl) ?_
          refine q_nil ?_
          intro w5 hw5
          replace hX := hX.comp hw5
          refine then_normal ?_
          refine wp_ret ?_
          exact res1 Try.results38 rfl ⟨by rw [hh]; rfl, hX⟩


def szOk (v : Int) (z : Nat) : Prop := z ≤ 3 ∧ (1 ≤ z → 256 ≤ v) ∧ (2 ≤ z → 65536 ≤ v) ∧ (3 ≤ z → 4294967296 ≤ v)
theorem sz_last {k v : Int} {z : Nat} (h : szOk v z) (hv : U64 v) (h24 : ¬ v < 24) (hend : z = 3 ∨ v / ((2 ^ (8 * 2 ^ z) : Nat) : Int) = 0) : headP k v = u8of (32 * k + (24 + (z : Int))) :: bytesP v (2 ^ z) := by
  obtain ⟨h1, h2, h3, h4⟩ := h
  unfold U64 at hv
  unfold headP
  rw [if_neg h24]
  rcases (by omega : z = 0 ∨ z = 1 ∨ z = 2 ∨ z = 3) with rfl | rfl | rfl | rfl
  · have : v / 256 = 0 := by simpa using hend
    rw [if_pos (by omega)]; rfl
  · have : v / 65536 = 0 := by simpa using hend
    rw [if_neg (by omega), if_pos (by omega)]; rfl
  · have : v / 4294967296 = 0 := by simpa using hend
    rw [if_neg (by omega), if_neg (by omega), if_pos (by omega)]; rfl
  · rw [if_neg (by omega), if_neg (by omega), if_neg (by omega)]; rfl
theorem sz_next {v : Int} {z : Nat} (h : szOk v z) (hlt : z < 3) (hne : v / ((2 ^ (8 * 2 ^ z) : Nat) : Int) ≠ 0) (hv : U64 v) : szOk v (z + 1) := by
  obtain ⟨h1, h2, h3, h4⟩ := h
  unfold U64 at hv
  rcases (by omega : z = 0 ∨ z = 1 ∨ z = 2) with rfl | rfl | rfl
  · have : v / 256 ≠ 0 := by simpa using hne
    exact ⟨by omega, fun _ => by omega, fun h => by omega, fun h => by omega⟩
  · have : v / 65536 ≠ 0 := by simpa using hne
    exact ⟨by omega, fun _ => by omega, fun h => by omega, fun h => by omega⟩
  · have : v / 4294967296 ≠ 0 := by simpa using hne
    exact ⟨by omega, fun _ => by omega, fun h => by omega, fun h => by omega⟩
theorem shl8 {z : Nat} (hz : z ≤ 3) (K : IntKind) (hK : K = .u64 ∨ K = .i64) : K.wrap (8 * 2 ^ (min ((z : Int)).toNat K.bits)) = ((8 * 2 ^ z : Nat) : Int) := by
  rcases hK with rfl | rfl <;> rcases (by omega : z = 0 ∨ z = 1 ∨ z = 2 ∨ z = 3) with rfl | rfl | rfl | rfl <;> rfl
theorem shrU {v : Int} (hv : U64 v) (m : Nat) : v.fdiv (2 ^ (min ((m : Int)).toNat IntKind.u64.bits)) = v / ((2 ^ m : Nat) : Int) := by
  unfold U64 at hv
  rw [Int.fdiv_eq_ediv_of_nonneg _ (Int.le_of_lt (Int.pow_pos (by omega)))]
  rw [Int.toNat_natCast, show IntKind.u64.bits = 64 from rfl]
  by_cases h : m ≤ 64
  · rw [Nat.min_eq_left h]; simp
  · rw [Nat.min_eq_right (by omega)]
    have h1 : v / (2 : Int) ^ 64 = 0 := Int.ediv_eq_zero_of_lt hv.1 (by omega)
    have h2 : v / ((2 ^ m : Nat) : Int) = 0 := by
      refine Int.ediv_eq_zero_of_lt hv.1 ?_
      have : (2 ^ 64 : Nat) ≤ 2 ^ m := Nat.pow_le_pow_right (by omega) (by omega)
      omega
    rw [h1, h2]
theorem bytes_step (v : Int) (n j : Nat) (h : j < n) : bytesP (v / ((2 ^ (8 * (n - j)) : Nat) : Int)) j ++ [u8of (v / ((2 ^ (8 * (n - 1 - j)) : Nat) : Int))] = bytesP (v / ((2 ^ (8 * (n - (j + 1))) : Nat) : Int)) (j + 1) := by
  rw [bytesP, show n - 1 - j = n - (j + 1) by omega]
  congr 2
  rw [Int.ediv_ediv_of_nonneg (Int.natCast_nonneg _)]
  congr 1
  rw [show n - j = (n - (j + 1)) + 1 by omega, Nat.mul_add, Nat.pow_add]
  simp

theorem head_any (k v : Int) (w : World) (hk : 0 ≤ k ∧ k ≤ 7) (hv : U64 v) :
    Calls Try.prog 37 #[.slice none 0 0, .int .i64 k, .int .u64 v] w fun e w' => ∃ r, e = .returned r ∧ Ext w w' ∧ Own bcell 5 1 w.heap.size w' r (headP k v) := by
  refine calls_act Try.func37 rfl Try.ntmps37 rfl rfl ?_
  show Code.wp _ _ _ (act 56 [(0, true, .slice none 0 0), (1, true, .int .i64 k), (2, true, .int .u64 v)] _) _
  have hX : Ext w w := Ext.rfl' w
  have hv2 := hv
  unfold U64 at hv2
  refine wp_seq ?_
  refine region_s ?_
  refine q_look (look_assign rfl rfl) ?_
  refine q_nil ?_
  rintro _ rfl
  have hO := Own.nil bcell 5 1 w.heap.size w
  refine then_normal ?_
  refine wp_seq ?_
  refine region_s ?_
  refine q_look (look_move rfl rfl) ?_
  refine q_look (look_shl rfl rfl rfl rfl (by omega) (show IntKind.i64.wrap (k * 2 ^ 5) = 32 * k by rw [wrap_i64_in (by unfold I64; omega)]; omega)) ?_
  refine q_look (look_conv_int Try.underlying5 Try.underlying3 rfl rfl (show IntKind.u8.wrap (32 * k) = 32 * k by rw [wrap_u8, u8of_int]; omega)) ?_
  refine q_look (look_assign rfl rfl) ?_
  refine q_nil ?_
  rintro _ rfl
  refine then_normal ?_
  refine wp_seq ?_
  refine wp_seq ?_
  refine region_s ?_
  refine q_look (look_move rfl rfl) ?_
  refine q_look (look_lss rfl rfl rfl rfl) ?_
  refine q_nil ?_
  rintro _ rfl
  refine then_normal ?_
  refine cond_split rfl (fun hc14 => ?_) (fun hc14 => ?_)
  · have h24 : v < 24 := by simpa using hc14
    refine wp_seq ?_
    refine wp_region_lit ?_
    refine s_look (look_move rfl rfl) ?_
    refine s_look (look_move rfl rfl) ?_
    refine s_look (look_move rfl rfl) ?_
    refine s_look (look_conv_int Try.underlying5 Try.underlying52 rfl rfl (show IntKind.u8.wrap v = v by rw [wrap_u8, u8of_int]; omega)) ?_
    refine s_look (look_or_ rfl rfl rfl rfl (or8 hk (by omega))) ?_
    refine s_buildSlice (parts := [(0, .tmp 19)]) (vs := [(0, _)]) (cells := bcell (u8of (32 * k + v))) Try.underlying50 szTry_5 zeTry_5 rfl rfl ⟨⟨_, rfl, rfl⟩, trivial⟩ rfl (by kernel_rfl) ?_
    intro g1 u1 hu1 hB1 hg1 hs1
    have ne_hO_g1 : (Value.ownBlock (.slice none 0 0)) ≠ some g1 := hO.ne_new (by omega)
    have ge_g1 : w.heap.size ≤ g1 := by have := hX.size; omega
    replace hX := hX.comp hu1
    replace hO := hO.ext hu1
    have hsz2 := hX.size
    refine s_appendL (ce := bcell) (news := [u8of (32 * k + v)]) Try.underlying50 zsbTry_5 rfl rfl rfl hO rfl (Blk.src (x := u8of (32 * k + v)) rfl (by simp [bcell, Value.oneCell']) hB1) (by simp only [List.length_cons, List.length_nil]; rw [maxLen_is]; omega) (by simp only [List.length_cons, List.length_nil]; omega) (by omega) ?_
    intro v2 u2 hN2 hgr2 hat2
    replace hX := hX.grow hO (Nat.le_refl _) hgr2
    clear hO
    have hO := hN2
    refine s_look (look_assign rfl rfl) ?_
    refine s_nil ?_
    refine then_normal ?_
    refine wp_ret ?_
    refine then_ret ?_
    exact res1 Try.results37 rfl ⟨_, rfl, hX, hO.as (by unfold headP; rw [if_pos h24]; rfl)⟩
  · have h24 : ¬ v < 24 := by simpa using hc14
    refine wp_skip ?_
    refine then_normal ?_
    refine wp_seq ?_
    refine region_s ?_
    refine q_look (look_assign rfl rfl) ?_
    refine q_nil ?_
    rintro _ rfl
    refine then_normal ?_
    refine wp_seq ?_
    refine wp_block ?_
    refine loop_act (fun (z : Nat) => [(0, .slice none 0 0), (1, .int .i64 k), (2, .int .u64 v), (7, .int .u8 (32 * k)), (8, .int .i64 (z : Int))]) (fun z w' => (Ext w w') ∧ (Own bcell 5 1 w.heap.size w' (.slice none 0 0) []) ∧ (szOk v z)) (fun z => 3 - z) (0) ?_ ?_ ?_
    · exact ⟨rfl, rfl, rfl, rfl, rfl, trivial⟩
    · exact ⟨hX, hO, ⟨by omega, by omega, by omega, by omega⟩⟩
    · rintro z σ wr hF
      obtain ⟨hX, hO, hz⟩ : (Ext w wr) ∧ (Own bcell 5 1 w.heap.size wr (.slice none 0 0) []) ∧ (szOk v z) := hF
      have hz0 := hz.1
      show Code.wp _ _ _ (act 56 [(0, true, .slice none 0 0), (1, true, .int .i64 k), (2, true, .int .u64 v), (7, true, .int .u8 (32 * k)), (8, true, .int .i64 (z : Int))] _) _
      refine wp_seq ?_
      refine wp_seq ?_
      refine region_s ?_
      refine q_look (look_move rfl rfl) ?_
      refine q_look (look_lss rfl rfl rfl rfl) ?_
      refine q_look (look_move rfl rfl) ?_
      refine q_lookg rfl rfl rfl (fun hq => look_move rfl rfl) ?_
      refine q_lookg rfl rfl rfl (fun hq => look_move rfl rfl) ?_
      refine q_lookg rfl rfl rfl (fun hq => look_shl rfl rfl rfl hq (by omega) (shl8 hz0 .u64 (.inl rfl))) ?_
      refine q_lookg rfl rfl rfl (fun hq => look_shr rfl hq rfl hq (by omega) (shrU hv _)) ?_
      refine q_lookg rfl rfl rfl (fun hq => look_neq rfl hq rfl rfl) ?_
      refine q_look (look_and rfl rfl rfl rfl) ?_
      refine q_nil ?_
      rintro _ rfl
      refine then_normal ?_
      refine cond_split rfl (fun hc30 => ?_) (fun hc30 => ?_)
      · have hz3 : z < 3 := by simp at hc30; omega
        have hne : v / ((2 ^ (8 * 2 ^ z) : Nat) : Int) ≠ 0 := by rw [Bool.and_eq_true] at hc30; have h := hc30.2; simpa using h
        refine wp_skip ?_
        refine then_normal ?_
        refine wp_block ?_
        refine region_s ?_
        refine q_look (look_move rfl rfl) ?_
        refine q_look (look_add rfl rfl rfl rfl (by unfold I64; omega)) ?_
        refine q_look (look_assign rfl rfl) ?_
        refine q_nil ?_
        rintro _ rfl
        refine inB_normal ?_
        exact loop_end (z + 1) (by omega) ⟨rfl, rfl, rfl, rfl, rfl, trivial⟩ ⟨hX, hO, sz_next hz hz3 hne hv⟩
      · have hend : z = 3 ∨ v / ((2 ^ (8 * 2 ^ z) : Nat) : Int) = 0 := by
          rw [Bool.and_eq_false_iff] at hc30
          rcases hc30 with h | h
          · left; have := of_decide_eq_false h; omega
          · right; simpa using h
        have hlast := sz_last (k := k) hz hv h24 hend
        obtain ⟨N, hN⟩ : ∃ N, N = 2 ^ z := ⟨_, rfl⟩
        have hp : 1 ≤ N ∧ N ≤ 8 := by rw [hN]; rcases (by omega : z = 0 ∨ z = 1 ∨ z = 2 ∨ z = 3) with rfl | rfl | rfl | rfl <;> decide
        rw [← hN] at hlast
        have hsl : IntKind.i64.wrap (8 * 2 ^ (min ((z : Int)).toNat IntKind.i64.bits)) = ((8 * N : Nat) : Int) := by rw [hN]; exact shl8 hz0 .i64 (.inr rfl)
        refine wp_exit ?_
        refine then_exit ?_
        refine then_exit ?_
        refine inB_exit_same ?_
        refine then_normal ?_
        refine wp_seq ?_
        refine wp_region_lit ?_
        refine s_look (look_move rfl rfl) ?_
        refine s_look (look_move rfl rfl) ?_
        refine s_look (look_move rfl rfl) ?_
        refine s_look (look_add rfl rfl rfl rfl (by unfold I64; omega)) ?_
        refine s_look (look_conv_int Try.underlying5 Try.underlying3 rfl rfl (show IntKind.u8.wrap (24 + (z : Int)) = 24 + (z : Int) by rw [wrap_u8, u8of_int]; omega)) ?_
        refine s_look (look_or_ rfl rfl rfl rfl (or8 hk (by omega))) ?_
        refine s_buildSlice (parts := [(0, .tmp 38)]) (vs := [(0, _)]) (cells := bcell (u8of (32 * k + (24 + (z : Int))))) Try.underlying50 szTry_5 zeTry_5 rfl rfl ⟨⟨_, rfl, rfl⟩, trivial⟩ rfl (by kernel_rfl) ?_
        intro g3 u3 hu3 hB3 hg3 hs3
        have ne_hO_g3 : (Value.ownBlock (.slice none 0 0)) ≠ some g3 := hO.ne_new (by omega)
        have ge_g3 : w.heap.size ≤ g3 := by have := hX.size; omega
        replace hX := hX.comp hu3
        replace hO := hO.ext hu3
        have hsz4 := hX.size
        refine s_appendL (ce := bcell) (news := [u8of (32 * k + (24 + (z : Int)))]) Try.underlying50 zsbTry_5 rfl rfl rfl hO rfl (Blk.src (x := u8of (32 * k + (24 + (z : Int)))) rfl (by simp [bcell, Value.oneCell']) hB3) (by simp only [List.length_cons, List.length_nil]; rw [maxLen_is]; omega) (by simp only [List.length_cons, List.length_nil]; omega) (by omega) ?_
        intro v4 u4 hN4 hgr4 hat4
        replace hX := hX.grow hO (Nat.le_refl _) hgr4
        clear hO
        have hO : Own bcell 5 1 w.heap.size u4 v4 [u8of (32 * k + (24 + (z : Int)))] := (by simpa using hN4)
        refine s_look (look_assign rfl rfl) ?_
        refine s_nil ?_
        refine then_normal ?_
        refine wp_seq ?_
        refine wp_seq ?_
        refine region_s ?_
        refine q_look (look_move rfl rfl) ?_
        refine q_look (look_shl rfl rfl rfl rfl (by omega) hsl) ?_
        refine q_look (look_sub rfl rfl rfl rfl (by unfold I64; omega)) ?_
        refine q_look (look_assign rfl rfl) ?_
        refine q_nil ?_
        rintro _ rfl
        refine then_normal ?_
        refine wp_block ?_
        refine loop_act (fun (ls : Nat × Value) => [(0, ls.2), (2, .int .u64 v), (9, .int .i64 (((8 * N : Nat) : Int) - 8 - 8 * (ls.1 : Int)))]) (fun ls w' => (Ext w w') ∧ (Own bcell 5 1 w.heap.size w' ls.2 (u8of (32 * k + (24 + (z : Int))) :: bytesP (v / ((2 ^ (8 * (N - ls.1)) : Nat) : Int)) ls.1)) ∧ (ls.1 ≤ N)) (fun ls => N - ls.1) ((0, v4)) ?_ ?_ ?_
        · exact ⟨rfl, rfl, (congrArg (fun t => some (true, Value.int .i64 t)) (show ((8 * N : Nat) : Int) - 8 = ((8 * N : Nat) : Int) - 8 - 8 * ((0 : Nat) : Int) by omega)), trivial⟩
        · exact ⟨hX, hO.as rfl, Nat.zero_le _⟩
        · rintro ⟨j, u⟩ σ wr hF
          obtain ⟨hX, hO, hj0⟩ : (Ext w wr) ∧ (Own bcell 5 1 w.heap.size wr u (u8of (32 * k + (24 + (z : Int))) :: bytesP (v / ((2 ^ (8 * (N - j)) : Nat) : Int)) j)) ∧ (j ≤ N) := hF
          show Code.wp _ _ _ (act 56 [(0, true, u), (2, true, .int .u64 v), (9, true, .int .i64 (((8 * N : Nat) : Int) - 8 - 8 * (j : Int)))] _) _
          refine wp_seq ?_
          refine wp_seq ?_
          refine region_s ?_
          refine q_look (look_move rfl rfl) ?_
          refine q_look (look_geq rfl rfl rfl rfl) ?_
          refine q_nil ?_
          rintro _ rfl
          refine then_normal ?_
          refine cond_split rfl (fun hc45 => ?_) (fun hc45 => ?_)
          · have hj : j < N := by simp at hc45; omega
            have hsh : (((8 * N : Nat) : Int) - 8 - 8 * (j : Int)) = ((8 * (N - 1 - j) : Nat) : Int) := by omega
            refine wp_skip ?_
            refine then_normal ?_
            refine wp_seq ?_
            refine wp_block ?_
            refine wp_region_lit ?_
            refine s_look (look_move rfl rfl) ?_
            refine s_look (look_move rfl rfl) ?_
            refine s_look (look_move rfl rfl) ?_
            refine s_look (look_shr rfl rfl rfl rfl (by omega) (show v.fdiv (2 ^ (min (((8 * N : Nat) : Int) - 8 - 8 * (j : Int)).toNat IntKind.u64.bits)) = v / ((2 ^ (8 * (N - 1 - j)) : Nat) : Int) by rw [hsh]; exact shrU hv _)) ?_
            refine s_look (look_conv_int Try.underlying5 Try.underlying52 rfl rfl (wrap_u8 _)) ?_
            refine s_buildSlice (parts := [(0, .tmp 52)]) (vs := [(0, _)]) (cells := bcell (u8of (v / ((2 ^ (8 * (N - 1 - j)) : Nat) : Int)))) Try.underlying50 szTry_5 zeTry_5 rfl rfl ⟨⟨_, rfl, rfl⟩, trivial⟩ rfl (by kernel_rfl) ?_
            intro g5 u5 hu5 hB5 hg5 hs5
            have ne_hO_g5 : (Value.ownBlock (u)) ≠ some g5 := hO.ne_new (by omega)
            have ge_g5 : w.heap.size ≤ g5 := by have := hX.size; omega
            replace hX := hX.comp hu5
            replace hO := hO.ext hu5
            have hsz6 := hX.size
            refine s_appendL (ce := bcell) (news := [u8of (v / ((2 ^ (8 * (N - 1 - j)) : Nat) : Int))]) Try.underlying50 zsbTry_5 rfl rfl rfl hO rfl (Blk.src (x := u8of (v / ((2 ^ (8 * (N - 1 - j)) : Nat) : Int))) rfl (by simp [bcell, Value.oneCell']) hB5) (by simp only [List.length_cons, List.length_nil, bytes_len]; rw [maxLen_is]; omega) (by simp only [List.length_cons, List.length_nil, bytes_len]; omega) (by omega) ?_
            intro v6 u6 hN6 hgr6 hat6
            replace hX := hX.grow hO (Nat.le_refl _) hgr6
            clear hO
            have hO := hN6
            refine s_look (look_assign rfl rfl) ?_
            refine s_nil ?_
            refine inB_normal ?_
            refine then_normal ?_
            refine region_s ?_
            refine q_look (look_move rfl rfl) ?_
            refine q_look (look_sub rfl rfl rfl rfl (by unfold I64; omega)) ?_
            refine q_look (look_assign rfl rfl) ?_
            refine q_nil ?_
            rintro _ rfl
            exact loop_end ((j + 1, v6)) (by simp only []; omega) ⟨rfl, rfl, (congrArg (fun t => some (true, Value.int .i64 t)) (show ((8 * N : Nat) : Int) - 8 - 8 * (j : Int) - 8 = ((8 * N : Nat) : Int) - 8 - 8 * ((j + 1 : Nat) : Int) by omega)), trivial⟩ ⟨hX, hO.as (by show _ :: _ = _ :: _; rw [← bytes_step v (N) j hj]; simp), by show j + 1 ≤ N; omega⟩
          · have hj : ¬ j < N := by simp at hc45; omega
            refine wp_exit ?_
            refine then_exit ?_
            refine then_exit ?_
            refine inB_exit_same ?_
            refine then_normal ?_
            refine wp_seq ?_
            refine region_s ?_
            refine q_look (look_move rfl rfl) ?_
            refine q_look (look_assign rfl rfl) ?_
            refine q_nil ?_
            rintro _ rfl
            refine then_normal ?_
            refine wp_ret ?_
            exact res1 Try.results37 rfl ⟨_, rfl, hX, hO.as (by rw [hlast, show j = N by omega, Nat.sub_self]; simp)⟩

end Go.Proofs.Ytcneinajeapbhaa
