/- The walks of chapter 47 (outfit), third part: Missing. -/
import Derived.Test.YtldgigjapifagaaB
import Derived.Test.YtldgigjapifagaaQue
namespace Go.Proofs.Ytldgigjapifagaa
open Go Go.RowKit Core
set_option linter.unusedVariables false
set_option linter.unusedSimpArgs false
attribute [local irreducible] wpQuiet wpList wpH wpT Code.wp Calls bodyPost act


def kI (n : Int) : Value := .int .i64 n
def kS (s : ByteArray) : Value := .string s
theorem klI : KeyLaw Try.prog 3 kI (.int .i64) := KeyLaw.int Try.underlying3
theorem klS : KeyLaw Try.prog 9 kS .string := KeyLaw.str Try.underlying9
theorem zv4 (w : World) : (zeroValue 4).run Try.prog w = .ok (.bool false) w := by kernel_rfl
/-- One package in an After: the queue, and what is needed. -/
def stepA (ps : List Pk) (s : List Int × List Int) (x : ByteArray) : List Int × List Int :=
  if 0 ≤ findP x ps ∧ ¬ findP x ps ∈ s.2 then (s.1 ++ [findP x ps], s.2 ++ [findP x ps]) else s
def foldA (ps : List Pk) (l : List ByteArray) (s : List Int × List Int) : List Int × List Int := l.foldl (stepA ps) s
def aft (ps : List Pk) (k : Int) : List ByteArray := (ps.getD k.toNat pk0).after
def run (ps : List Pk) : Nat → List Int → List Int → List Int
  | 0, _, nd => nd
  | _ + 1, [], nd => nd
  | f + 1, k :: r, nd => if k < 0 then run ps f r nd else run ps f (foldA ps (aft ps k) (r, nd)).1 (foldA ps (aft ps k) (r, nd)).2
def ND (ps : List Pk) (id : ByteArray) : List Int := run ps (ps.length + 2) [findP id ps] []
def misL (dn : List ByteArray) (nd : List Int) (first : Int) : List Pk → Nat → List ByteArray
  | [], _ => []
  | p :: r, i => (if (i : Int) ∈ nd ∧ (i : Int) ≠ first ∧ ¬ p.id ∈ dn then [p.id] else []) ++ misL dn nd first r (i + 1)
def missP (dn : List ByteArray) (id : ByteArray) (ps : List Pk) : List ByteArray := misL dn (ND ps id) (findP id ps) ps 0
theorem misL_nil (dn : List ByteArray) (first : Int) : ∀ (ps : List Pk) (i : Nat), misL dn [] first ps i = []
  | [], i => rfl
  | p :: r, i => by rw [misL, if_neg (fun h => by cases h.1), misL_nil dn first r (i + 1)]; rfl
theorem misL_len (dn : List ByteArray) (nd : List Int) (first : Int) : ∀ (ps : List Pk) (i : Nat), (misL dn nd first ps i).length ≤ ps.length
  | [], i => Nat.le_refl _
  | p :: r, i => by
    have := misL_len dn nd first r (i + 1)
    rw [misL, List.length_append, List.length_cons]
    split <;> simp <;> omega
theorem miss_none {dn : List ByteArray} {id : ByteArray} {ps : List Pk} (h : findP id ps < 0) : missP dn id ps = [] := by
  have : ND ps id = [] := by
    unfold ND
    rw [show ps.length + 2 = (ps.length + 1) + 1 from rfl, run, if_pos h, run]
  unfold missP
  rw [this, misL_nil]
structure QOk (n : Nat) (q nd : List Int) : Prop where
  q : ∀ k ∈ q, -1 ≤ k ∧ k < (n : Int)
  nod : nd.Nodup
  nd : ∀ k ∈ nd, 0 ≤ k ∧ k < (n : Int)
theorem nodup_len : ∀ {n : Nat} {l : List Int}, l.Nodup → (∀ k ∈ l, 0 ≤ k ∧ k < (n : Int)) → l.length ≤ n
  | 0, [], _, _ => Nat.le_refl _
  | 0, k :: r, _, h => by have := h k (.head _); omega
  | n + 1, l, hn, h => by
    have h1 := nodup_len (n := n) (l := l.filter (fun k => decide (k ≠ (n : Int)))) (hn.filter _) (fun k hk => by
      have h2 := List.mem_filter.1 hk
      have := h k h2.1
      have := of_decide_eq_true h2.2
      omega)
    have h3 : l.length ≤ (l.filter (fun k => decide (k ≠ (n : Int)))).length + 1 := by
      clear h1 h
      induction l with
      | nil => simp
      | cons a r ih =>
        have hn' := List.nodup_cons.1 hn
        by_cases e : a = (n : Int)
        · subst e
          have e2 : r.filter (fun k => decide (k ≠ (n : Int))) = r := List.filter_eq_self.2 (fun k hk => decide_eq_true (fun e => hn'.1 (e ▸ hk)))
          rw [List.filter_cons_of_neg (by simp), e2]
          simp
        · rw [List.filter_cons_of_pos (by simpa using e)]
          have := ih hn'.2
          simp only [List.length_cons]; omega
    omega
theorem QOk.len {n : Nat} {q nd : List Int} (h : QOk n q nd) : nd.length ≤ n := nodup_len h.nod h.nd
theorem QOk.tail {n : Nat} {q nd : List Int} {k : Int} (h : QOk n (k :: q) nd) : QOk n q nd := ⟨fun x hx => h.q x (.tail _ hx), h.nod, h.nd⟩
theorem QOk.add {n : Nat} {q nd : List Int} {k : Int} (h : QOk n q nd) (h0 : 0 ≤ k ∧ k < (n : Int)) (h1 : ¬ k ∈ nd) : QOk n (q ++ [k]) (nd ++ [k]) := by
  refine ⟨fun x hx => ?_, ?_, fun x hx => ?_⟩
  · rcases List.mem_append.1 hx with h2 | h2
    · exact h.q x h2
    · rw [List.mem_singleton.1 h2]; omega
  · rw [List.nodup_append]
    exact ⟨h.nod, by simp, fun a ha b hb e => h1 (by rw [← List.mem_singleton.1 hb, ← e]; exact ha)⟩
  · rcases List.mem_append.1 hx with h2 | h2
    · exact h.nd x h2
    · rw [List.mem_singleton.1 h2]; omega
theorem QOk.len_lt {n : Nat} {q nd : List Int} {k : Int} (h : QOk n q nd) (h0 : 0 ≤ k ∧ k < (n : Int)) (h1 : ¬ k ∈ nd) : nd.length < n := by
  have := (h.add h0 h1).len
  simp at this; omega
theorem aft_eq {ps : List Pk} {i : Nat} {p : Pk} (h : ps[i]? = some p) : aft ps (i : Int) = p.after := by
  unfold aft
  rw [Int.toNat_natCast, List.getD_eq_getElem?_getD, h]; rfl
theorem foldA_drop {ps : List Pk} {l : List ByteArray} {j : Nat} {x : ByteArray} (hx : l[j]? = some x) (s : List Int × List Int) : foldA ps (l.drop j) s = foldA ps (l.drop (j + 1)) (stepA ps s x) := by
  unfold foldA
  rw [drop_get hx, List.foldl_cons]
theorem stepA_pos {ps : List Pk} {s : List Int × List Int} {x : ByteArray} (h : 0 ≤ findP x ps ∧ ¬ findP x ps ∈ s.2) : stepA ps s x = (s.1 ++ [findP x ps], s.2 ++ [findP x ps]) := by unfold stepA; rw [if_pos h]
theorem stepA_neg {ps : List Pk} {s : List Int × List Int} {x : ByteArray} (h : ¬ (0 ≤ findP x ps ∧ ¬ findP x ps ∈ s.2)) : stepA ps s x = s := by unfold stepA; rw [if_neg h]
theorem mem_snoc {m : List (Int × Bool)} {nd : List Int} {k : Int} (h : ∀ x, (mget m x).getD false = decide (x ∈ nd)) (x : Int) : (mget (mput m k true) x).getD false = decide (x ∈ nd ++ [k]) := by
  rw [mget_put]
  by_cases e : x = k
  · rw [if_pos e]; simp [e]
  · rw [if_neg e, h x]; simp [e]

theorem miss_any (h nd0 pt sm : Value) (pA : Option Addr) (ps : List Pk) (pc : Nat) (ne : Value) (dn : List ByteArray) (dA : Option Addr) (dc : Nat) (id : ByteArray) (w : World) (hD : DOk w pA ps) (hN : Sl scell 1 w dA dn) (hnl : dn.length ≤ maxLen) (hps : ps.length ≤ 1000) :
    Calls Try.prog 20 #[.agg #[h, nd0, pt, sm, .slice pA ps.length pc, ne], .slice dA dn.length dc, .string id] w fun e w' => ∃ v, e = .returned v ∧ Ext w w' ∧ Own scell 9 1 w.heap.size w' v (missP dn id ps) := by
  refine calls_act Try.func20 rfl Try.ntmps20 rfl rfl ?_
  show Code.wp _ _ _ (act 91 [(0, true, .agg #[h, nd0, pt, sm, .slice pA ps.length pc, ne]), (1, true, .slice dA dn.length dc), (2, true, .string id)] _) _
  have hX : Ext w w := Ext.rfl' w
  refine wp_seq ?_
  refine wp_region_lit ?_
  refine s_box rfl ?_
  intro g1 u1 hu1 hB1 hg1 hs1
  replace hB1 : Blk u1 g1 28 ([h, nd0, pt, sm, .slice pA ps.length pc, ne]) := hB1
  have ge_g1 : w.heap.size ≤ g1 := by have := hX.size; omega
  replace hX := hX.comp hu1
  refine s_look (look_assign rfl rfl) ?_
  refine s_nil ?_
  refine then_normal ?_
  refine wp_seq ?_
  refine region_q ?_
  refine q_look (look_loadN Try.underlying28 rfl szTry_28 rfl rfl rfl (ext_cell_n hB1)) ?_
  refine q_look (look_move rfl rfl) ?_
  refine q_call (vs := [_, _]) enTry_31 ⟨⟨_, rfl, rfl⟩, ⟨_, rfl, rfl⟩, trivial⟩ (fun wc hw => cext hw (index_any h nd0 pt sm pA ps pc ne id wc (hD.ext (hX.comp hw)))) ?_
  refine q_look (look_assign rfl rfl) ?_
  refine q_nil ?_
  intro w1 hw1
  replace hX := hX.comp hw1
  replace hB1 := hB1.ext hw1
  obtain ⟨first, hfi⟩ : ∃ first, first = findP id ps := ⟨_, rfl⟩
  have hfb := findP_bd id ps
  rw [← hfi] at hfb
  rw [← hfi]
  refine then_normal ?_
  refine wp_seq ?_
  refine wp_region_lit ?_
  refine s_makeMap (kv := kI) ?_ rfl
  intro g2 u2 hu2 hM2 hg2 hs2
  have lt_g1_g2 : g1 < g2 := by have := hB1.lt; omega
  have ge_g2 : w.heap.size ≤ g2 := by have := hX.size; omega
  replace hX := hX.comp hu2
  replace hB1 := hB1.ext hu2
  refine s_look (look_assign rfl rfl) ?_
  refine s_nil ?_
  refine then_normal ?_
  refine wp_seq ?_
  refine wp_seq ?_
  refine wp_region_lit ?_
  refine s_look (look_move rfl rfl) ?_
  refine s_buildSlice (parts := [(0, .tmp 19)]) (vs := [(0, _)]) (cells := [.int .i64 first]) Try.underlying35 szTry_3 zeTry_3 rfl rfl ⟨⟨_, rfl, rfl⟩, trivial⟩ rfl (by kernel_rfl) ?_
  intro g3 u3 hu3 hB3 hg3 hs3
  have lt_g1_g3 : g1 < g3 := by have := hB1.lt; omega
  have lt_g2_g3 : g2 < g3 := by have := hM2.lt; omega
  have ge_g3 : w.heap.size ≤ g3 := by have := hX.size; omega
  replace hX := hX.comp hu3
  replace hB1 := hB1.ext hu3
  replace hM2 := hM2.ext hu3
  refine s_look (look_assign rfl rfl) ?_
  refine s_nil ?_
  have hQ := Que.one (kv := kI) (x := first) (base := w.heap.size) hB3 ge_g3
  have ne_hQ_g1 : Value.ownBlock (.slice (some ⟨g3, 0, none⟩) 1 1) ≠ some g1 := by simp [Value.ownBlock]; have := lt_g1_g3; omega
  have ne_hQ_g2 : Value.ownBlock (.slice (some ⟨g3, 0, none⟩) 1 1) ≠ some g2 := by simp [Value.ownBlock]; have := lt_g2_g3; omega
  refine then_normal ?_
  refine wp_block ?_
  refine loop_act (fun (ls : List (Int × Bool) × List Int × List Int × Value) => [(1, .slice dA dn.length dc), (2, .string id), (3, .pointer (some ⟨g1, 0, none⟩)), (6, .slice none 0 0), (7, .int .i64 first), (8, .map (some g2)), (9, ls.2.2.2)]) (fun ls w' => (Ext w w') ∧ (Blk w' g1 28 [h, nd0, pt, sm, .slice pA ps.length pc, ne]) ∧ (MapB kI w' g2 ls.1) ∧ (Que kI 3 w.heap.size w' ls.2.2.2 ls.2.1) ∧ (Value.ownBlock ls.2.2.2 ≠ some g1) ∧ (Value.ownBlock ls.2.2.2 ≠ some g2) ∧ (∀ x, (mget ls.1 x).getD false = decide (x ∈ ls.2.2.1)) ∧ (QOk ps.length ls.2.1 ls.2.2.1) ∧ (ls.2.1.length + (ps.length - ls.2.2.1.length) ≤ ps.length + 1) ∧ (run ps (ls.2.1.length + (ps.length - ls.2.2.1.length) + 1) ls.2.1 ls.2.2.1 = ND ps id)) (fun ls => ls.2.1.length + (ps.length - ls.2.2.1.length)) (([], [first], [], .slice (some ⟨g3, 0, none⟩) 1 1)) ?_ ?_ ?_
  · exact ⟨rfl, rfl, rfl, rfl, rfl, rfl, rfl, trivial⟩
  · exact ⟨hX, hB1, hM2, hQ, ne_hQ_g1, ne_hQ_g2, fun x => rfl, ⟨fun k hk => by rw [List.mem_singleton.1 hk]; omega, List.nodup_nil, fun k hk => by cases hk⟩, by show 1 + (ps.length - 0) ≤ _; omega, by unfold ND; rw [← hfi]; show run ps (1 + (ps.length - 0) + 1) [first] [] = _; congr 1; omega⟩
  · rintro ⟨m, q, nd, qv⟩ σ wr hF
    obtain ⟨hX, hB1, hM2, hQ, ne_hQ_g1, ne_hQ_g2, hm, hst, hql, hrun⟩ : (Ext w wr) ∧ (Blk wr g1 28 [h, nd0, pt, sm, .slice pA ps.length pc, ne]) ∧ (MapB kI wr g2 m) ∧ (Que kI 3 w.heap.size wr qv q) ∧ (Value.ownBlock qv ≠ some g1) ∧ (Value.ownBlock qv ≠ some g2) ∧ (∀ x, (mget m x).getD false = decide (x ∈ nd)) ∧ (QOk ps.length q nd) ∧ (q.length + (ps.length - nd.length) ≤ ps.length + 1) ∧ (run ps (q.length + (ps.length - nd.length) + 1) q nd = ND ps id) := hF
    show Code.wp _ _ _ (act 91 [(1, true, .slice dA dn.length dc), (2, true, .string id), (3, true, .pointer (some ⟨g1, 0, none⟩)), (6, true, .slice none 0 0), (7, true, .int .i64 first), (8, true, .map (some g2)), (9, true, qv)] _) _
    refine wp_seq ?_
    refine wp_seq ?_
    obtain ⟨bq, oq, cq, rfl, hcq, hSQ⟩ := hQ.sl1 (ce := icell) (fun _ => rfl)
    refine region_s ?_
    refine q_look (look_move rfl rfl) ?_
    refine q_look (look_len_slice Try.underlying35 rfl rfl) ?_
    refine q_look (look_gtr rfl rfl rfl rfl) ?_
    refine q_nil ?_
    rintro _ rfl
    refine then_normal ?_
    refine cond_split rfl (fun hc23 => ?_) (fun hc23 => ?_)
    · obtain ⟨k, r, rfl⟩ : ∃ k r, q = k :: r := by cases q with
        | nil => exact absurd (nn_t hc23) (by decide)
        | cons k r => exact ⟨k, r, rfl⟩
      have hkb := hst.q k (.head _)
      have hl0 : 0 < (k :: r).length := by simp
      refine wp_skip ?_
      refine then_normal ?_
      refine wp_seq ?_
      refine wp_block ?_
      refine wp_seq ?_
      refine wp_seq ?_
      refine region_s ?_
      refine q_look (look_move rfl rfl) ?_
      refine q_look (look_indexAddr 0 Try.underlying35 szTry_3 rfl rfl rfl rfl rfl (by omega)) ?_
      refine q_look (look_load1 Try.underlying3 rfl rfl rfl (eqc ((hSQ.rd 0 k rfl) 0 _ rfl))) ?_
      refine q_look (look_lss rfl rfl rfl rfl) ?_
      refine q_nil ?_
      rintro _ rfl
      refine then_normal ?_
      refine cond_split rfl (fun hc29 => ?_) (fun hc29 => ?_)
      · have hk0 : k < 0 := nn_t hc29
        refine wp_exit ?_
        refine then_exit ?_
        refine inB_exit_same ?_
        refine then_normal ?_
        refine region_s ?_
        refine q_look (look_move rfl rfl) ?_
        refine q_look (look_slice_l (lo := 1) Try.underlying35 szTry_3 rfl rfl rfl rfl rfl (by simp only [List.length_cons]; omega)) ?_
        refine q_look (look_assign rfl rfl) ?_
        refine q_nil ?_
        rintro _ rfl
        exact loop_end ((m, r, nd, .slice (cutA (some ⟨bq, oq, none⟩) cq 1 1) ((k :: r).length - 1) (cq - 1))) (by simp only [List.length_cons]; omega) ⟨rfl, rfl, rfl, rfl, rfl, rfl, rfl, trivial⟩ ⟨hX, hB1, hM2, hQ.tail, (by have h0 := ne_hQ_g1; unfold cutA; split <;> simpa [Value.ownBlock, addAt] using h0), (by have h0 := ne_hQ_g2; unfold cutA; split <;> simpa [Value.ownBlock, addAt] using h0), hm, hst.tail, by have hl1 : (k :: r).length = r.length + 1 := rfl; show r.length + (ps.length - nd.length) ≤ _; omega, by rw [← hrun, run, if_pos hk0]; congr 1; have hl1 : (k :: r).length = r.length + 1 := rfl; show r.length + (ps.length - nd.length) + 1 = _; omega⟩
      · have hk0 : ¬ k < 0 := nn_f hc29
        obtain ⟨i, rfl⟩ : ∃ i : Nat, k = (i : Int) := ⟨k.toNat, by omega⟩
        have hlt : i < ps.length := by omega
        obtain ⟨p, hp⟩ := get_lt hlt
        obtain ⟨b1, o1, rfl, _⟩ := (hD.sl.ext hX).at_ hlt
        have hpo := hD.ok p (mem_get hp)
        obtain ⟨A2, hA2⟩ : ∃ A2, p.A = A2 := ⟨_, rfl⟩
        have hpo1 := hpo.1
        rw [hA2] at hpo1
        refine wp_skip ?_
        refine then_normal ?_
        refine wp_seq ?_
        refine region_qd mixed (by kernel_rfl) ?_
        refine q_look (look_fieldAddr Try.underlying28 rfl (fun _ _ => rfl) rfl rfl) ?_
        refine q_look (look_load1 Try.underlying25 rfl rfl rfl (ext_cell (hB1.cell rfl))) ?_
        refine q_look (look_move rfl rfl) ?_
        refine q_look (look_indexAddr 0 Try.underlying35 szTry_3 rfl rfl rfl rfl rfl (by omega)) ?_
        refine q_look (look_load1 Try.underlying3 rfl rfl rfl (ext_cell ((hSQ.rd 0 _ rfl) 0 _ rfl))) ?_
        refine q_look (look_indexAddr _ Try.underlying25 szTry_48 rfl rfl rfl rfl rfl (by omega)) ?_
        refine q_look (look_fieldAddr Try.underlying48 rfl (fun _ _ => rfl) rfl rfl) ?_
        refine q_look (Look.as (look_load1 Try.underlying31 rfl rfl rfl (ext_cell (((hD.sl.ext hX).rd i p hp) _ _ rfl))) (v' := .slice A2 p.after.length p.cap) (by rw [hA2])) ?_
        refine q_look (look_len_slice Try.underlying31 rfl rfl) ?_
        refine q_look (look_move rfl rfl) ?_
        refine q_nil ?_
        intro w2 hw2
        replace hX := hX.comp hw2
        replace hB1 := hB1.ext hw2
        replace hM2 := hM2.ext hw2
        replace hQ := hQ.ext hw2
        refine then_normal ?_
        refine wp_block ?_
        refine loop_act (fun (ls : Nat × List (Int × Bool) × List Int × List Int × Value) => [(1, .slice dA dn.length dc), (2, .string id), (3, .pointer (some ⟨g1, 0, none⟩)), (6, .slice none 0 0), (7, .int .i64 first), (8, .map (some g2)), (9, ls.2.2.2.2), (37, .slice A2 p.after.length p.cap), (38, .int .i64 (p.after.length : Int)), (39, .int .i64 (ls.1 : Int))]) (fun ls w' => (Ext w w') ∧ (Blk w' g1 28 [h, nd0, pt, sm, .slice (some ⟨b1, o1, none⟩) ps.length pc, ne]) ∧ (MapB kI w' g2 ls.2.1) ∧ (Que kI 3 w.heap.size w' ls.2.2.2.2 ((i : Int) :: ls.2.2.1)) ∧ (Value.ownBlock ls.2.2.2.2 ≠ some g1) ∧ (Value.ownBlock ls.2.2.2.2 ≠ some g2) ∧ (∀ x, (mget ls.2.1 x).getD false = decide (x ∈ ls.2.2.2.1)) ∧ (ls.1 ≤ p.after.length) ∧ (QOk ps.length ls.2.2.1 ls.2.2.2.1) ∧ (foldA ps (p.after.drop ls.1) (ls.2.2.1, ls.2.2.2.1) = foldA ps p.after (r, nd)) ∧ (ls.2.2.1.length + (ps.length - ls.2.2.2.1.length) = r.length + (ps.length - nd.length))) (fun ls => p.after.length - ls.1) ((0, m, r, nd, .slice (some ⟨bq, oq, none⟩) ((i : Int) :: r).length cq)) ?_ ?_ ?_
        · exact ⟨rfl, rfl, rfl, rfl, rfl, rfl, rfl, rfl, rfl, rfl, trivial⟩
        · exact ⟨hX, hB1, hM2, hQ, ne_hQ_g1, ne_hQ_g2, hm, Nat.zero_le _, hst.tail, rfl, rfl⟩
        · rintro ⟨j, m2, r2, nd2, qv⟩ σ wr hF
          obtain ⟨hX, hB1, hM2, hQ, ne_hQ_g1, ne_hQ_g2, hm2, hj, hst2, hfold, hlen2⟩ : (Ext w wr) ∧ (Blk wr g1 28 [h, nd0, pt, sm, .slice (some ⟨b1, o1, none⟩) ps.length pc, ne]) ∧ (MapB kI wr g2 m2) ∧ (Que kI 3 w.heap.size wr qv ((i : Int) :: r2)) ∧ (Value.ownBlock qv ≠ some g1) ∧ (Value.ownBlock qv ≠ some g2) ∧ (∀ x, (mget m2 x).getD false = decide (x ∈ nd2)) ∧ (j ≤ p.after.length) ∧ (QOk ps.length r2 nd2) ∧ (foldA ps (p.after.drop j) (r2, nd2) = foldA ps p.after (r, nd)) ∧ (r2.length + (ps.length - nd2.length) = r.length + (ps.length - nd.length)) := hF
          show Code.wp _ _ _ (act 91 [(1, true, .slice dA dn.length dc), (2, true, .string id), (3, true, .pointer (some ⟨g1, 0, none⟩)), (6, true, .slice none 0 0), (7, true, .int .i64 first), (8, true, .map (some g2)), (9, true, qv), (37, true, .slice A2 p.after.length p.cap), (38, true, .int .i64 (p.after.length : Int)), (39, true, .int .i64 (j : Int))] _) _
          refine wp_seq ?_
          refine region_s ?_
          refine q_look (look_lss rfl rfl rfl rfl) ?_
          refine q_nil ?_
          rintro _ rfl
          refine then_normal ?_
          refine wp_seq ?_
          refine cond_split rfl (fun hc40 => ?_) (fun hc40 => ?_)
          · have hlj : j < p.after.length := by have := nn_t hc40; omega
            obtain ⟨x, hx⟩ := get_lt hlj
            obtain ⟨b2, o2, rfl, hr2⟩ := (hpo1.ext hX).at_ hlj
            have hfx := findP_bd x ps
            have hpl2 := hpo.2.1
            refine wp_skip ?_
            refine then_normal ?_
            refine wp_seq ?_
            refine wp_block ?_
            refine wp_seq ?_
            refine region_s ?_
            refine q_look (look_indexAddr _ Try.underlying31 szTry_9 rfl rfl rfl rfl rfl (by omega)) ?_
            refine q_look (look_load1 Try.underlying9 rfl rfl rfl (eqc ((hr2 j x hx) 0 _ rfl))) ?_
            refine q_look (look_assign rfl rfl) ?_
            refine q_nil ?_
            rintro _ rfl
            refine then_normal ?_
            refine wp_seq ?_
            refine region_q ?_
            refine q_look (look_loadN Try.underlying28 rfl szTry_28 rfl rfl rfl (ext_cell_n hB1)) ?_
            refine q_look (look_move rfl rfl) ?_
            refine q_call (vs := [_, _]) enTry_31 ⟨⟨_, rfl, rfl⟩, ⟨_, rfl, rfl⟩, trivial⟩ (fun wc hw => cext hw (index_any h nd0 pt sm (some ⟨b1, o1, none⟩) ps pc ne x wc (hD.ext (hX.comp hw)))) ?_
            refine q_look (look_assign rfl rfl) ?_
            refine q_nil ?_
            intro w3 hw3
            replace hX := hX.comp hw3
            replace hB1 := hB1.ext hw3
            replace hM2 := hM2.ext hw3
            replace hQ := hQ.ext hw3
            refine then_normal ?_
            refine wp_seq ?_
            refine region_s ?_
            refine q_look (look_move rfl rfl) ?_
            refine q_look (look_geq rfl rfl rfl rfl) ?_
            refine q_look (look_move rfl rfl) ?_
            refine q_lookg rfl rfl rfl (fun hq => look_move rfl rfl) ?_
            refine q_lookg rfl rfl rfl (fun hq => look_move rfl rfl) ?_
            refine q_lookg rfl rfl rfl (fun hq => look_map (a := findP x ps) klI Try.underlying56 zv4 rfl hq rfl hq (fun w' e => e ▸ hM2)) ?_
            refine q_lookg rfl rfl rfl (fun hq => look_not rfl hq) ?_
            refine q_look (look_and rfl rfl rfl rfl) ?_
            refine q_nil ?_
            rintro _ rfl
            refine then_normal ?_
            refine cond_split rfl (fun hc53 => ?_) (fun hc53 => ?_)
            · have hnew : 0 ≤ findP x ps ∧ ¬ findP x ps ∈ nd2 := by rw [Bool.and_eq_true, hm2] at hc53; exact ⟨nn_t hc53.1, nd_t hc53.2⟩
              refine wp_seq ?_
              refine wp_region_lit ?_
              refine s_look (look_move rfl rfl) ?_
              refine s_look (look_move rfl rfl) ?_
              refine s_mapUpdate (a := findP x ps) (v := true) klI Try.underlying56 (by rfl) (by rfl) (by rfl) hM2 ?_
              intro u4 hk4 hT4
              replace hX := hX.kp hk4 (by omega)
              replace hB1 := hB1.kp hk4 (by omega)
              replace hQ := hQ.kp hk4 ne_hQ_g2
              clear hM2
              have hM2 := hT4
              refine s_nil ?_
              refine then_normal ?_
              have hQl : r2.length ≤ 3000 := by have := hlen2; have := hql; have hl1 : ((i : Int) :: r).length = r.length + 1 := rfl; omega
              refine wp_region_lit ?_
              refine s_look (look_move rfl rfl) ?_
              refine s_look (look_move rfl rfl) ?_
              refine s_buildSlice (parts := [(0, .tmp 57)]) (vs := [(0, _)]) (cells := [.int .i64 (findP x ps)]) Try.underlying35 szTry_3 zeTry_3 rfl rfl ⟨⟨_, rfl, rfl⟩, trivial⟩ rfl (by kernel_rfl) ?_
              intro g5 u5 hu5 hB5 hg5 hs5
              have lt_g1_g5 : g1 < g5 := by have := hB1.lt; omega
              have lt_g2_g5 : g2 < g5 := by have := hM2.lt; omega
              have ne_hQ_g5 : (Value.ownBlock (qv)) ≠ some g5 := hQ.ne_new (by omega)
              have ge_g5 : w.heap.size ≤ g5 := by have := hX.size; omega
              replace hX := hX.comp hu5
              replace hB1 := hB1.ext hu5
              replace hM2 := hM2.ext hu5
              replace hQ := hQ.ext hu5
              refine s_appendQ (x := findP x ps) Try.underlying35 zsbTry_3 rfl rfl hQ rfl hB5 rfl (by have h1 := hst2.len; have h2 := hlen2; have := hD.len; have := maxLen_is; have := hps; have h3 := hQl; simp only [List.length_cons]; omega) (by have h1 := hst2.len; have h2 := hlen2; have := hD.len; have := maxLen_is; have := hps; have h3 := hQl; simp only [List.length_cons]; omega) (by have := hX.size; omega) ?_
              intro v6 u6 hN6 hgr6 hat6
              replace hX := Que.grow hX hQ (Nat.le_refl _) hgr6
              have hn_hB1 := hB1.grown hgr6 ne_hQ_g1
              have hn_hM2 := hM2.grown hgr6 ne_hQ_g2
              replace ne_hQ_g1 := ne_app ne_hQ_g1 hB1.lt hat6
              replace ne_hQ_g2 := ne_app ne_hQ_g2 hM2.lt hat6
              clear hB1
              have hB1 := hn_hB1
              clear hn_hB1
              clear hM2
              have hM2 := hn_hM2
              clear hn_hM2
              clear hQ
              have hQ := hN6
              refine s_look (look_assign rfl rfl) ?_
              refine s_nil ?_
              refine inB_normal ?_
              refine then_normal ?_
              refine region_s ?_
              refine q_look (look_add rfl rfl rfl rfl (by have := hD.len; have := maxLen_is; unfold I64; omega)) ?_
              refine q_look (look_move rfl rfl) ?_
              refine q_nil ?_
              rintro _ rfl
              exact loop_end ((j + 1, mput m2 (findP x ps) true, r2 ++ [findP x ps], nd2 ++ [findP x ps], v6)) (by simp only []; omega) ⟨rfl, rfl, rfl, rfl, rfl, rfl, rfl, rfl, rfl, rfl, trivial⟩ ⟨hX, hB1, hM2, hQ, ne_hQ_g1, ne_hQ_g2, mem_snoc hm2, by show j + 1 ≤ p.after.length; omega, hst2.add (by omega) hnew.2, by rw [← hfold, foldA_drop hx, stepA_pos hnew], by have := hst2.len_lt (by omega) hnew.2; show (r2 ++ [_]).length + (ps.length - (nd2 ++ [_]).length) = _; simp only [List.length_append, List.length_cons, List.length_nil]; omega⟩
            · have hnew : ¬ (0 ≤ findP x ps ∧ ¬ findP x ps ∈ nd2) := fun hh => by rw [hm2, decide_eq_true hh.1, Bool.true_and] at hc53; exact hh.2 (nd_f hc53)
              refine wp_skip ?_
              refine inB_normal ?_
              refine then_normal ?_
              refine region_s ?_
              refine q_look (look_add rfl rfl rfl rfl (by have := hD.len; have := maxLen_is; unfold I64; omega)) ?_
              refine q_look (look_move rfl rfl) ?_
              refine q_nil ?_
              rintro _ rfl
              exact loop_end ((j + 1, m2, r2, nd2, qv)) (by simp only []; omega) ⟨rfl, rfl, rfl, rfl, rfl, rfl, rfl, rfl, rfl, rfl, trivial⟩ ⟨hX, hB1, hM2, hQ, ne_hQ_g1, ne_hQ_g2, hm2, by show j + 1 ≤ p.after.length; omega, hst2, by rw [← hfold, foldA_drop hx, stepA_neg hnew], hlen2⟩
          · obtain rfl : j = p.after.length := by have := nn_f hc40; omega
            rw [List.drop_length] at hfold
            change (r2, nd2) = _ at hfold
            have hst := hst2
            have hm := hm2
            obtain ⟨bq, oq, cq, rfl, hcq, hSQ⟩ := hQ.sl1 (ce := icell) (fun _ => rfl)
            refine wp_exit ?_
            refine then_exit ?_
            refine then_exit ?_
            refine inB_exit_same ?_
            refine inB_normal ?_
            refine then_normal ?_
            refine region_s ?_
            refine q_look (look_move rfl rfl) ?_
            refine q_look (look_slice_l (lo := 1) Try.underlying35 szTry_3 rfl rfl rfl rfl rfl (by simp only [List.length_cons]; omega)) ?_
            refine q_look (look_assign rfl rfl) ?_
            refine q_nil ?_
            rintro _ rfl
            exact loop_end ((m2, r2, nd2, .slice (cutA (some ⟨bq, oq, none⟩) cq 1 1) (((i : Int) :: r2).length - 1) (cq - 1))) (by simp only [List.length_cons]; omega) ⟨rfl, rfl, rfl, rfl, rfl, rfl, rfl, trivial⟩ ⟨hX, hB1, hM2, hQ.tail, (by have h0 := ne_hQ_g1; unfold cutA; split <;> simpa [Value.ownBlock, addAt] using h0), (by have h0 := ne_hQ_g2; unfold cutA; split <;> simpa [Value.ownBlock, addAt] using h0), hm, hst, by have hl1 : ((i : Int) :: r).length = r.length + 1 := rfl; show r2.length + (ps.length - nd2.length) ≤ _; omega, by rw [← hrun, run, if_neg (by omega), aft_eq hp, ← hfold]; congr 1; have hl1 : ((i : Int) :: r).length = r.length + 1 := rfl; show r2.length + (ps.length - nd2.length) + 1 = _; omega⟩
    · obtain rfl : q = [] := by cases q with
        | nil => rfl
        | cons k r => exact absurd (nn_f hc23) (by simp only [List.length_cons]; omega)
      obtain rfl : nd = ND ps id := by rw [← hrun]; rfl
      refine wp_exit ?_
      refine then_exit ?_
      refine then_exit ?_
      refine inB_exit_same ?_
      refine then_normal ?_
      refine wp_seq ?_
      refine wp_seq ?_
      have hO := Own.nil scell 9 1 w.heap.size w
      refine region_s ?_
      refine q_look (look_fieldAddr Try.underlying28 rfl (fun _ _ => rfl) rfl rfl) ?_
      refine q_look (look_load1 Try.underlying25 rfl rfl rfl (eqc (hB1.cell rfl))) ?_
      refine q_look (look_len_slice Try.underlying25 rfl rfl) ?_
      refine q_look (look_move rfl rfl) ?_
      refine q_nil ?_
      rintro _ rfl
      refine then_normal ?_
      refine wp_block ?_
      refine loop_act (fun (ls : Nat × Value × List ByteArray) => [(1, .slice dA dn.length dc), (6, ls.2.1), (7, .int .i64 first), (8, .map (some g2)), (62, .slice pA ps.length pc), (63, .int .i64 (ps.length : Int)), (64, .int .i64 (ls.1 : Int))]) (fun ls w' => (Ext w w') ∧ (MapB kI w' g2 m) ∧ (Own scell 9 1 w.heap.size w' ls.2.1 ls.2.2) ∧ (Value.ownBlock ls.2.1 ≠ some g2) ∧ (ls.1 ≤ ps.length) ∧ (ls.2.2.length ≤ ls.1) ∧ (ls.2.2 ++ misL dn (ND ps id) first (ps.drop ls.1) ls.1 = missP dn id ps)) (fun ls => ps.length - ls.1) ((0, .slice none 0 0, [])) ?_ ?_ ?_
      · exact ⟨rfl, rfl, rfl, rfl, rfl, rfl, rfl, trivial⟩
      · exact ⟨hX, hM2, Own.nil _ _ _ _ _, by simp [Value.ownBlock], Nat.zero_le _, Nat.le_refl _, by rw [hfi]; rfl⟩
      · rintro ⟨k, ov, ol⟩ σ wr hF
        obtain ⟨hX, hM2, hO, ne_hO_g2, hk, hol, hout⟩ : (Ext w wr) ∧ (MapB kI wr g2 m) ∧ (Own scell 9 1 w.heap.size wr ov ol) ∧ (Value.ownBlock ov ≠ some g2) ∧ (k ≤ ps.length) ∧ (ol.length ≤ k) ∧ (ol ++ misL dn (ND ps id) first (ps.drop k) k = missP dn id ps) := hF
        show Code.wp _ _ _ (act 91 [(1, true, .slice dA dn.length dc), (6, true, ov), (7, true, .int .i64 first), (8, true, .map (some g2)), (62, true, .slice pA ps.length pc), (63, true, .int .i64 (ps.length : Int)), (64, true, .int .i64 (k : Int))] _) _
        refine wp_seq ?_
        refine region_s ?_
        refine q_look (look_lss rfl rfl rfl rfl) ?_
        refine q_nil ?_
        rintro _ rfl
        refine then_normal ?_
        refine wp_seq ?_
        refine cond_split rfl (fun hc65 => ?_) (fun hc65 => ?_)
        · have hlt : k < ps.length := by have := nn_t hc65; omega
          obtain ⟨p, hp⟩ := get_lt hlt
          obtain ⟨b1, o1, rfl, _⟩ := (hD.sl.ext hX).at_ hlt
          refine wp_skip ?_
          refine then_normal ?_
          refine wp_seq ?_
          refine wp_block ?_
          refine wp_seq ?_
          refine wp_region_lit ?_
          refine s_look (look_move rfl rfl) ?_
          refine s_look (look_indexAddr _ Try.underlying25 szTry_48 rfl rfl rfl rfl rfl (by omega)) ?_
          refine s_look (look_loadN Try.underlying48 rfl szTry_48 rfl rfl rfl (cs := pcell p) (eqn ((hD.sl.ext hX).rd k p hp))) ?_
          refine s_alloc zeTry_48 ?_
          intro g7 u7 hu7 hB7 hg7 hs7
          have lt_g2_g7 : g2 < g7 := by have := hM2.lt; omega
          have ne_hO_g7 : (Value.ownBlock (ov)) ≠ some g7 := hO.ne_new (by omega)
          have ge_g7 : w.heap.size ≤ g7 := by have := hX.size; omega
          replace hX := hX.comp hu7
          replace hM2 := hM2.ext hu7
          replace hO := hO.ext hu7
          refine s_look (look_assign rfl rfl) ?_
          refine s_store szTry_48 rfl (by simp [pcell, scell, Value.cells, Value.oneCell']) rfl rfl hB7 rfl ?_
          intro u8 hk8 hT8
          replace hT8 : Blk u8 g7 48 (pcell p) := hT8
          replace hX := hX.kp hk8 (by omega)
          replace hM2 := hM2.kp hk8 (by omega)
          replace hO := hO.kp hk8 ne_hO_g7
          clear hB7
          have hB7 := hT8
          refine s_nil ?_
          refine then_normal ?_
          refine wp_seq ?_
          refine region_q ?_
          refine q_look (look_move rfl rfl) ?_
          refine q_look (look_move rfl rfl) ?_
          refine q_look (look_map (a := (k : Int)) klI Try.underlying56 zv4 rfl rfl rfl rfl (fun w' e => hM2.ext e)) ?_
          refine q_look (look_move rfl rfl) ?_
          refine q_lookg rfl rfl rfl (fun hq => look_move rfl rfl) ?_
          refine q_lookg rfl rfl rfl (fun hq => look_move rfl rfl) ?_
          refine q_lookg rfl rfl rfl (fun hq => look_neq rfl hq rfl hq) ?_
          refine q_look (look_and rfl rfl rfl rfl) ?_
          refine q_look (look_move rfl rfl) ?_
          refine q_lookg rfl rfl rfl (fun hq => look_move rfl rfl) ?_
          refine q_lookg rfl rfl rfl (fun hq => look_fieldAddr Try.underlying48 rfl (fun _ _ => rfl) rfl rfl) ?_
          refine q_lookg rfl rfl rfl (fun hq => look_load1 Try.underlying9 rfl rfl hq (ext_cell (hB7.cell rfl))) ?_
          refine q_callg (vs := [_, _]) rfl rfl rfl enTry_35 (fun hq => ⟨⟨_, rfl, hq⟩, ⟨_, rfl, hq⟩, trivial⟩) (fun hq wc hw => cext hw (contains_s dn dA dc p.id wc (hN.ext (hX.comp hw)) hnl)) ?_
          refine q_lookg rfl rfl rfl (fun hq => look_not rfl hq) ?_
          refine q_look (look_and rfl rfl rfl rfl) ?_
          refine q_nil ?_
          intro w4 hw4
          replace hX := hX.comp hw4
          replace hM2 := hM2.ext hw4
          replace hB7 := hB7.ext hw4
          replace hO := hO.ext hw4
          refine then_normal ?_
          refine cond_split rfl (fun hc83 => ?_) (fun hc83 => ?_)
          · have hin : (k : Int) ∈ ND ps id ∧ (k : Int) ≠ first ∧ ¬ p.id ∈ dn := by rw [hm] at hc83; simp only [Bool.and_eq_true] at hc83; exact ⟨nn_t hc83.1.1, nd_t hc83.1.2, nd_t hc83.2⟩
            refine wp_region_lit ?_
            refine s_look (look_move rfl rfl) ?_
            refine s_look (look_fieldAddr Try.underlying48 rfl (fun _ _ => rfl) rfl rfl) ?_
            refine s_look (look_load1 Try.underlying9 rfl rfl rfl (eqc (hB7.cell rfl))) ?_
            refine s_buildSlice (parts := [(0, .tmp 86)]) (vs := [(0, _)]) (cells := scell p.id) Try.underlying31 szTry_9 zeTry_9 rfl rfl ⟨⟨_, rfl, rfl⟩, trivial⟩ rfl (by kernel_rfl) ?_
            intro g9 u9 hu9 hB9 hg9 hs9
            have lt_g2_g9 : g2 < g9 := by have := hM2.lt; omega
            have lt_g7_g9 : g7 < g9 := by have := hB7.lt; omega
            have ne_hO_g9 : (Value.ownBlock (ov)) ≠ some g9 := hO.ne_new (by omega)
            have ge_g9 : w.heap.size ≤ g9 := by have := hX.size; omega
            replace hX := hX.comp hu9
            replace hM2 := hM2.ext hu9
            replace hB7 := hB7.ext hu9
            replace hO := hO.ext hu9
            have hsz10 := hX.size
            refine s_appendL (ce := scell) (news := [p.id]) Try.underlying31 zsbTry_9 rfl rfl rfl hO rfl (Blk.src (x := p.id) rfl (by simp [scell, Value.oneCell']) hB9) (by simp only [List.length_cons, List.length_nil]; rw [maxLen_is]; omega) (by simp only [List.length_cons, List.length_nil]; omega) (by omega) ?_
            intro v10 u10 hN10 hgr10 hat10
            replace hX := hX.grow hO (Nat.le_refl _) hgr10
            have hn_hM2 := hM2.grown hgr10 ne_hO_g2
            have hn_hB7 := hB7.grown hgr10 ne_hO_g7
            replace ne_hO_g2 := ne_app ne_hO_g2 hM2.lt hat10
            replace ne_hO_g7 := ne_app ne_hO_g7 hB7.lt hat10
            clear hM2
            have hM2 := hn_hM2
            clear hn_hM2
            clear hB7
            have hB7 := hn_hB7
            clear hn_hB7
            clear hO
            have hO := hN10
            refine s_look (look_assign rfl rfl) ?_
            refine s_nil ?_
            refine inB_normal ?_
            refine then_normal ?_
            refine region_s ?_
            refine q_look (look_add rfl rfl rfl rfl (by have := hD.len; have := maxLen_is; unfold I64; omega)) ?_
            refine q_look (look_move rfl rfl) ?_
            refine q_nil ?_
            rintro _ rfl
            exact loop_end ((k + 1, v10, ol ++ [p.id])) (by simp only []; omega) ⟨rfl, rfl, rfl, rfl, rfl, rfl, rfl, trivial⟩ ⟨hX, hM2, hO, ne_hO_g2, by show k + 1 ≤ ps.length; omega, by show (ol ++ [_]).length ≤ k + 1; simp only [List.length_append, List.length_cons, List.length_nil]; omega, by rw [← hout, drop_get hp, misL, if_pos hin, ← List.append_assoc]⟩
          · have hin : ¬ ((k : Int) ∈ ND ps id ∧ (k : Int) ≠ first ∧ ¬ p.id ∈ dn) := fun hh => by rw [hm, decide_eq_true hh.1, decide_eq_false hh.2.1, decide_eq_false hh.2.2] at hc83; cases hc83
            refine wp_skip ?_
            refine inB_normal ?_
            refine then_normal ?_
            refine region_s ?_
            refine q_look (look_add rfl rfl rfl rfl (by have := hD.len; have := maxLen_is; unfold I64; omega)) ?_
            refine q_look (look_move rfl rfl) ?_
            refine q_nil ?_
            rintro _ rfl
            exact loop_end ((k + 1, ov, ol)) (by simp only []; omega) ⟨rfl, rfl, rfl, rfl, rfl, rfl, rfl, trivial⟩ ⟨hX, hM2, hO, ne_hO_g2, by show k + 1 ≤ ps.length; omega, by show ol.length ≤ k + 1; omega, by rw [← hout, drop_get hp, misL, if_neg hin]; rfl⟩
        · obtain rfl : k = ps.length := by have := nn_f hc65; omega
          rw [List.drop_length] at hout
          change ol ++ [] = _ at hout
          rw [List.append_nil] at hout
          refine wp_exit ?_
          refine then_exit ?_
          refine then_exit ?_
          refine inB_exit_same ?_
          refine then_normal ?_
          refine wp_seq ?_
          refine region_s ?_
          refine q_look (look_move rfl rfl) ?_
          refine q_look (look_assign rfl rfl) ?_
          refine q_nil ?_
          rintro _ rfl
          refine then_normal ?_
          refine wp_ret ?_
          exact res1 Try.results20 rfl ⟨_, rfl, hX, hO.as hout⟩

end Go.Proofs.Ytldgigjapifagaa
