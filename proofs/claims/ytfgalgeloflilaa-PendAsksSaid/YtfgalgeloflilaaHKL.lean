/- Mine. Chapter 30, by hand: the law's example (awake). -/
import Derived.Test.YtfgalgeloflilaaHIJ
namespace Go.Proofs.Ytfgalgeloflilaa.H
open Go Go.Proofs Go.RowKit Go.Lib Go.Proofs.Ytfgalgeloflilaa.P Go.Proofs.YtfgalgeloflilaaW.PrintWords Go.Proofs.YtfgalgeloflilaaW.PrintLast Go.Proofs.YtfgalgeloflilaaW.PrintMore
set_option linter.unusedVariables false
set_option linter.unusedSimpArgs false
def nd (clk : Int) (ps : List S51) (rid : Int) : ND := ⟨0, 0, clk, false, [], [], [], [], ps, [], [], rid, 0, 0⟩
def pd : S51 := ⟨1, 11, 3, 7, ⟨5, 2⟩, 11⟩
def m0 : S37 := ⟨11, 0, 0, false, 0, ⟨#[]⟩, ⟨#[]⟩, ⟨0, 0⟩, [], []⟩
def na0 : NA := ⟨none, none, none, none, none, none, none, 0, 0, 0, 0, 0, 0, 0⟩
def ma0 : MA := ⟨none, none, 0, 0⟩
/-- A node's value, its rows but the requests empty. -/
abbrev cv (s : NA) (clk : Int) (k : Nat) (rid : Int) : Value := .agg #[.int .u64 0, .int .u16 0, .int .i64 clk, .bool false, .slice s.A4 0 s.c4, .slice s.A5 0 s.c5, .slice s.A6 0 s.c6, .slice s.A7 0 s.c7, .slice s.A8 k s.c8, .slice s.A9 0 s.c9, .slice s.A10 0 s.c10, .int .u32 rid, .int .i64 0, .int .i64 0]
theorem sto_new {w V : World} {o : Obj} (h : Sto (w.alloc o) V w.heap.size) : Below w.heap.size w V := h.on (Nat.le_refl _) (below_alloc (Below.refl _ _) _)
theorem C_nil {α : Type} (d : Kd α) (w : World) : d.C w none 0 [] := ⟨rfl, by decide, fun h => absurd h (by decide)⟩
theorem nb_nd (clk : Int) (ps : List S51) (rid : Int) (h : ps.length ≤ 1) : NB (nd clk ps rid) := ⟨by show 0 * _ ≤ _; omega, by show 0 * _ ≤ _; omega, by show 0 * _ ≤ _; omega, by show 0 * _ ≤ _; omega, by show ps.length * _ ≤ _; omega, by show 0 * _ ≤ _; omega, by show 0 * _ ≤ _; omega⟩
theorem nc_clk {w : World} {clk clk' rid rid' : Int} {ps : List S51} {s : NA} (h : NC w (nd clk ps rid) s) : NC w (nd clk' ps rid') s := ⟨h.r4, h.q4, h.r5, h.q5, h.r6, h.q6, h.r7, h.q7, h.r8, h.q8, h.r9, h.q9, h.r10, h.q10⟩
theorem aw_ask : askN (nd 3 [] 0) 5 2 m0 3 7 = nd 3 [pd] 1 ∧ askO (nd 3 [] 0) 5 2 m0 = [⟨⟨5, 2⟩, { m0 with f1 := 1 }⟩] := ⟨by kernel_rfl, by kernel_rfl⟩
theorem aw_late : restL (nd 11 [pd] 1) = [pd] ∧ lateL (nd 11 [pd] 1) = [] ∧ restL (nd 12 [pd] 1) = [] ∧ lateL (nd 12 [pd] 1) = [pd] := ⟨by kernel_rfl, by kernel_rfl, by kernel_rfl, by kernel_rfl⟩
theorem aw_take : takeN (nd 12 [pd] 1) 0 = nd 12 [] 1 ∧ takeX (nd 12 [pd] 1) 0 = pd := ⟨by kernel_rfl, by kernel_rfl⟩
set_option maxHeartbeats 2000000 in
theorem a_ask (W : World) : Calls Try.prog 10 #[.agg #[.int .u64 0, .int .u16 0, .int .i64 3, .bool false, .slice none 0 0, .slice none 0 0, .slice none 0 0, .slice none 0 0, .slice none 0 0, .slice none 0 0, .slice none 0 0, .int .u32 0, .int .i64 0, .int .i64 0], .agg #[.int .u64 5, .int .u16 2], .agg #[.int .i64 11, .int .u32 0, .int .u8 0, .bool false, .int .u64 0, .string ⟨#[]⟩, .string ⟨#[]⟩, .int .u64 0, .int .u16 0, .slice none 0 0, .slice none 0 0], .int .i64 3, .int .i64 7] W fun e w' => ∃ s A c, e = .returned (.tuple #[cv s 3 1 1, .slice A 1 c]) ∧ NC w' (nd 3 [pd] 1) s ∧ 1 ≤ c ∧ Kd.C k63 w' A 1 [⟨⟨5, 2⟩, { m0 with f1 := 1 }⟩] ∧ Below W.heap.size W w' := by
  have h := ask_ok (nd 3 [] 0) na0 5 2 m0 ma0 3 7 W ⟨C_nil _ _, Nat.le_refl _, C_nil _ _, Nat.le_refl _, C_nil _ _, Nat.le_refl _, C_nil _ _, Nat.le_refl _, C_nil _ _, Nat.le_refl _, C_nil _ _, Nat.le_refl _, C_nil _ _, Nat.le_refl _⟩ (nb_nd _ _ _ (by decide)) ⟨C_nil _ _, Nat.le_refl _, C_nil _ _, Nat.le_refl _⟩ ⟨by decide, by decide⟩
  rw [aw_ask.1, aw_ask.2] at h
  exact h.mono fun e w' ⟨s, A, c, he, hN, hc, hC, hb⟩ => ⟨s, A, c, he, hN, hc, hC, hb⟩
set_option maxHeartbeats 2000000 in
theorem a_late11 (s : NA) (W : World) (h : NC W (nd 11 [pd] 1) s) : Calls Try.prog 16 #[cv s 11 1 1] W fun e w' => ∃ s A c, e = .returned (.tuple #[cv s 11 1 1, .slice A 0 c]) ∧ Below W.heap.size W w' := by
  have h := late_ok (nd 11 [pd] 1) s W h (nb_nd _ _ _ (by decide)) (by decide)
  rw [aw_late.1, aw_late.2.1] at h
  exact h.mono fun e w' ⟨s, A, c, he, hN, hc, hC, hb⟩ => ⟨s, A, c, he, hb⟩
set_option maxHeartbeats 2000000 in
theorem a_late12 (s : NA) (W : World) (h : NC W (nd 12 [pd] 1) s) : Calls Try.prog 16 #[cv s 12 1 1] W fun e w' => ∃ s A c, e = .returned (.tuple #[cv s 12 0 1, .slice A 1 c]) ∧ Below W.heap.size W w' := by
  have h := late_ok (nd 12 [pd] 1) s W h (nb_nd _ _ _ (by decide)) (by decide)
  rw [aw_late.2.2.1, aw_late.2.2.2] at h
  exact h.mono fun e w' ⟨s, A, c, he, hN, hc, hC, hb⟩ => ⟨s, A, c, he, hb⟩
set_option maxHeartbeats 2000000 in
theorem a_take (s : NA) (W : World) (h : NC W (nd 12 [pd] 1) s) : Calls Try.prog 14 #[cv s 12 1 1, .int .i64 0] W fun e w' => ∃ s, e = .returned (.tuple #[cv s 12 0 1, .agg #[.int .u32 1, .int .i64 11, .int .i64 3, .int .i64 7, .int .u64 5, .int .u16 2, .int .i64 11]]) ∧ Below W.heap.size W w' := by
  have h := take_ok (nd 12 [pd] 1) s 0 W h (nb_nd _ _ _ (by decide))
  rw [aw_take.1, aw_take.2] at h
  exact h.mono fun e w' ⟨s, he, hN, hb⟩ => ⟨s, he, hb⟩
set_option maxRecDepth 100000 in
set_option maxHeartbeats 8000000 in
theorem awake_ok (w : World) : Calls Try.prog 8 #[] w fun e w' => e = .returned (.bool true) ∧ Below w.heap.size w w' := by
  go_enter Try.func8, Try.ntmps8
  go_wp2_with fail
  refine (a_ask _).mono ?_
  rintro e w1 ⟨s1, A1, c1, rfl, hN1, hc1, hC1, hb1⟩
  have HN1 := Aside0.mk hN1
  have HC1 := Aside0.mk hC1
  have HB1 := Aside0.mk hb1
  clear hN1 hC1 hb1 hc1
  have HN1' : Aside0 (∀ V clk, Below w1.heap.size w1 V → NC V (nd clk [pd] 1) s1) := ⟨fun V clk hV => nc_clk (HN1.out.below hV)⟩
  go_wp2_with fail
  obtain ⟨g1, hg1⟩ : ∃ g, w1.heap.size = g := ⟨_, rfl⟩
  have hN11 := HN1'.out (w1.alloc (.cells #[.int .u64 0, .int .u16 0, .int .i64 11, .bool false, .slice s1.A4 0 s1.c4, .slice s1.A5 0 s1.c5, .slice s1.A6 0 s1.c6, .slice s1.A7 0 s1.c7, .slice s1.A8 1 s1.c8, .slice s1.A9 0 s1.c9, .slice s1.A10 0 s1.c10, .int .u32 1, .int .i64 0, .int .i64 0] 34)) 11 (below_alloc (Below.refl _ _) _)
  have hf1 := heap_alloc_new w1 (.cells #[.int .u64 0, .int .u16 0, .int .i64 11, .bool false, .slice s1.A4 0 s1.c4, .slice s1.A5 0 s1.c5, .slice s1.A6 0 s1.c6, .slice s1.A7 0 s1.c7, .slice s1.A8 1 s1.c8, .slice s1.A9 0 s1.c9, .slice s1.A10 0 s1.c10, .int .u32 1, .int .i64 0, .int .i64 0] 34)
  have hba1 : Below w1.heap.size w1 (w1.alloc (.cells #[.int .u64 0, .int .u16 0, .int .i64 11, .bool false, .slice s1.A4 0 s1.c4, .slice s1.A5 0 s1.c5, .slice s1.A6 0 s1.c6, .slice s1.A7 0 s1.c7, .slice s1.A8 1 s1.c8, .slice s1.A9 0 s1.c9, .slice s1.A10 0 s1.c10, .int .u32 1, .int .i64 0, .int .i64 0] 34)) := below_alloc (Below.refl _ _) _
  rw [hg1] at hf1 hba1 ⊢
  refine (a_late11 s1 _ hN11).mono ?_
  rintro e w2 ⟨s2, A2, c2, rfl, hb2⟩
  have hz2 := heap_alloc_new w2 (.cells #[.int .u64 0, .int .u16 0, .int .i64 0, .bool false, .slice none 0 0, .slice none 0 0, .slice none 0 0, .slice none 0 0, .slice none 0 0, .slice none 0 0, .slice none 0 0, .int .u32 0, .int .i64 0, .int .i64 0] 34)
  have f1w := (hb2.block g1 (blk_lt hf1)).trans hf1
  have hlt : g1 < w2.heap.size := blk_lt f1w
  have hb12 : Below g1 w1 w2 := hba1.trans (hb2.mono (by have := alloc_size w1 (.cells #[.int .u64 0, .int .u16 0, .int .i64 11, .bool false, .slice s1.A4 0 s1.c4, .slice s1.A5 0 s1.c5, .slice s1.A6 0 s1.c6, .slice s1.A7 0 s1.c7, .slice s1.A8 1 s1.c8, .slice s1.A9 0 s1.c9, .slice s1.A10 0 s1.c10, .int .u32 1, .int .i64 0, .int .i64 0] 34); omega))
  have F1 := Aside0.mk f1w
  have HLT := Aside0.mk hlt
  have HB12 := Aside0.mk hb12
  have HG1 := Aside0.mk hg1
  clear hlt hb12 hb2 hf1 hba1 hN11 hg1 f1w
  go_wp2_with (first
    | (refine store_box (.store 34 (.tmp 3) (.tmp 29)) 34 _ _ w2.heap.size 0 _ #[.int .u64 0, .int .u16 0, .int .i64 11, .bool false, .slice s2.A4 0 s2.c4, .slice s2.A5 0 s2.c5, .slice s2.A6 0 s2.c6, .slice s2.A7 0 s2.c7, .slice s2.A8 1 s2.c8, .slice s2.A9 0 s2.c9, .slice s2.A10 0 s2.c10, .int .u32 1, .int .i64 0, .int .i64 0] 34 _ [.int .u64 0, .int .u16 0, .int .i64 11, .bool false, .slice s2.A4 0 s2.c4, .slice s2.A5 0 s2.c5, .slice s2.A6 0 s2.c6, .slice s2.A7 0 s2.c7, .slice s2.A8 1 s2.c8, .slice s2.A9 0 s2.c9, .slice s2.A10 0 s2.c10, .int .u32 1, .int .i64 0, .int .i64 0] rfl rfl rfl rfl rfl rfl hz2 rfl (by kernel_rfl) (by simp) (by simp [Value.oneCell']) (by simp) ?_; intro V2 h3 hsV2; have H3 := Aside0.mk h3; have HBV2 := Aside0.mk (sto_new hsV2); have f1 := (HBV2.out.block g1 HLT.out).trans F1.out; clear hz2 hsV2 h3)
    | (refine store_box (.store 3 (.tmp 31) (.const (.int .i64 12))) 3 _ _ g1 2 _ #[.int .u64 0, .int .u16 0, .int .i64 12, .bool false, .slice s1.A4 0 s1.c4, .slice s1.A5 0 s1.c5, .slice s1.A6 0 s1.c6, .slice s1.A7 0 s1.c7, .slice s1.A8 1 s1.c8, .slice s1.A9 0 s1.c9, .slice s1.A10 0 s1.c10, .int .u32 1, .int .i64 0, .int .i64 0] 34 (.int .i64 12) [.int .i64 12] rfl rfl rfl rfl rfl rfl f1 rfl (by kernel_rfl) (by simp) (by simp [Value.oneCell']) (by simp) ?_; intro w3 e1 hs3; have HS3 := Aside0.mk hs3; clear hs3 f1)
    | (refine gate_ (.load 34 (.tmp 1)) rfl ?_; refine wpList_load_row rfl 34 _ rfl g1 rfl 34 _ (0, 0) _ e1 Try.underlying34 rfl (by kernel_rfl) ?_))
  have hb13 : Below g1 w1 w3 := HS3.out.on (Nat.le_refl _) (HB12.out.trans (HBV2.out.mono (by have := HLT.out; omega)))
  have hb13' : Below w1.heap.size w1 w3 := by rw [HG1.out]; exact hb13
  refine (a_late12 s1 w3 (HN1'.out w3 12 hb13')).mono ?_
  rintro e w4 ⟨s4, A4, c4, rfl, hb4⟩
  have hz4 := heap_alloc_new w4 (.cells #[.int .u64 0, .int .u16 0, .int .i64 0, .bool false, .slice none 0 0, .slice none 0 0, .slice none 0 0, .slice none 0 0, .slice none 0 0, .slice none 0 0, .slice none 0 0, .int .u32 0, .int .i64 0, .int .i64 0] 34)
  have e1w := (hb4.block g1 (blk_lt e1)).trans e1
  have h3' := HS3.out.blk (by have := HLT.out; omega) H3.out
  have H3w := Aside0.mk ((hb4.block _ (blk_lt h3')).trans h3')
  have E1w := Aside0.mk e1w
  have HB14w := Aside0.mk (below_then hb13' hb13'.size hb4)
  clear hb4 h3' hb13 hb13' e1 e1w
  go_wp2_with (first
    | (refine store_box (.store 34 (.tmp 5) (.tmp 35)) 34 _ _ w4.heap.size 0 _ #[.int .u64 0, .int .u16 0, .int .i64 12, .bool false, .slice s4.A4 0 s4.c4, .slice s4.A5 0 s4.c5, .slice s4.A6 0 s4.c6, .slice s4.A7 0 s4.c7, .slice s4.A8 0 s4.c8, .slice s4.A9 0 s4.c9, .slice s4.A10 0 s4.c10, .int .u32 1, .int .i64 0, .int .i64 0] 34 _ [.int .u64 0, .int .u16 0, .int .i64 12, .bool false, .slice s4.A4 0 s4.c4, .slice s4.A5 0 s4.c5, .slice s4.A6 0 s4.c6, .slice s4.A7 0 s4.c7, .slice s4.A8 0 s4.c8, .slice s4.A9 0 s4.c9, .slice s4.A10 0 s4.c10, .int .u32 1, .int .i64 0, .int .i64 0] rfl rfl rfl rfl rfl rfl hz4 rfl (by kernel_rfl) (by simp) (by simp [Value.oneCell']) (by simp) ?_; intro V4 h5 hsV4; have H5 := Aside0.mk h5; have HBV4 := Aside0.mk (sto_new hsV4); have e1' := (HBV4.out.block g1 (blk_lt E1w.out)).trans E1w.out; clear hz4 hsV4 h5)
    | (refine gate_ (.load 34 (.tmp 1)) rfl ?_; refine wpList_load_row rfl 34 _ rfl g1 rfl 34 _ (0, 0) _ e1' Try.underlying34 rfl (by kernel_rfl) ?_))
  have E1 := Aside0.mk e1'
  have H3' := Aside0.mk ((HBV4.out.block _ (blk_lt H3w.out)).trans H3w.out)
  have HB14 := Aside0.mk (below_then HB14w.out HB14w.out.size HBV4.out)
  refine (a_take s1 V4 (HN1'.out V4 12 HB14.out)).mono ?_
  rintro e w5 ⟨s5, rfl, hb5⟩
  have hsz5 := alloc_size w5 (.cells #[.int .u64 0, .int .u16 0, .int .i64 0, .bool false, .slice none 0 0, .slice none 0 0, .slice none 0 0, .slice none 0 0, .slice none 0 0, .slice none 0 0, .slice none 0 0, .int .u32 0, .int .i64 0, .int .i64 0] 34)
  have hz7 : ((w5.alloc (.cells #[.int .u64 0, .int .u16 0, .int .i64 0, .bool false, .slice none 0 0, .slice none 0 0, .slice none 0 0, .slice none 0 0, .slice none 0 0, .slice none 0 0, .slice none 0 0, .int .u32 0, .int .i64 0, .int .i64 0] 34)).alloc (.cells #[.int .u32 0, .int .i64 0, .int .i64 0, .int .i64 0, .int .u64 0, .int .u16 0, .int .i64 0] 51)).heap[w5.heap.size]? = some (.cells #[.int .u64 0, .int .u16 0, .int .i64 0, .bool false, .slice none 0 0, .slice none 0 0, .slice none 0 0, .slice none 0 0, .slice none 0 0, .slice none 0 0, .slice none 0 0, .int .u32 0, .int .i64 0, .int .i64 0] 34 (0, 0)) := (heap_alloc_old _ _ (by omega)).trans (heap_alloc_new w5 _)
  have hz8 : ((w5.alloc (.cells #[.int .u64 0, .int .u16 0, .int .i64 0, .bool false, .slice none 0 0, .slice none 0 0, .slice none 0 0, .slice none 0 0, .slice none 0 0, .slice none 0 0, .slice none 0 0, .int .u32 0, .int .i64 0, .int .i64 0] 34)).alloc (.cells #[.int .u32 0, .int .i64 0, .int .i64 0, .int .i64 0, .int .u64 0, .int .u16 0, .int .i64 0] 51)).heap[w5.heap.size + 1]? = some (.cells #[.int .u32 0, .int .i64 0, .int .i64 0, .int .i64 0, .int .u64 0, .int .u16 0, .int .i64 0] 51 (0, 0)) := by rw [← hsz5]; exact heap_alloc_new _ _
  have hb5b : Below w5.heap.size w5 ((w5.alloc (.cells #[.int .u64 0, .int .u16 0, .int .i64 0, .bool false, .slice none 0 0, .slice none 0 0, .slice none 0 0, .slice none 0 0, .slice none 0 0, .slice none 0 0, .slice none 0 0, .int .u32 0, .int .i64 0, .int .i64 0] 34)).alloc (.cells #[.int .u32 0, .int .i64 0, .int .i64 0, .int .i64 0, .int .u64 0, .int .u16 0, .int .i64 0] 51)) := (below_alloc (Below.refl _ _) _).alloc (by omega) _
  have HZ8 := Aside0.mk hz8
  have HB5B := Aside0.mk hb5b
  have HB5W := Aside0.mk hb5
  clear hsz5 hz8 hb5b hb5 e1'
  go_wp2_with (first
    | (refine store_box (.store 34 (.tmp 7) (.tmp 40)) 34 _ _ w5.heap.size 0 _ #[.int .u64 0, .int .u16 0, .int .i64 12, .bool false, .slice s5.A4 0 s5.c4, .slice s5.A5 0 s5.c5, .slice s5.A6 0 s5.c6, .slice s5.A7 0 s5.c7, .slice s5.A8 0 s5.c8, .slice s5.A9 0 s5.c9, .slice s5.A10 0 s5.c10, .int .u32 1, .int .i64 0, .int .i64 0] 34 _ [.int .u64 0, .int .u16 0, .int .i64 12, .bool false, .slice s5.A4 0 s5.c4, .slice s5.A5 0 s5.c5, .slice s5.A6 0 s5.c6, .slice s5.A7 0 s5.c7, .slice s5.A8 0 s5.c8, .slice s5.A9 0 s5.c9, .slice s5.A10 0 s5.c10, .int .u32 1, .int .i64 0, .int .i64 0] rfl rfl rfl rfl rfl rfl hz7 rfl (by kernel_rfl) (by simp) (by simp [Value.oneCell']) (by simp) ?_; intro V6 j7 hs7; have J7 := Aside0.mk j7; have HS7 := Aside0.mk hs7; have hz8 := HS7.out.blk (Nat.succ_ne_self _) HZ8.out; clear hz7 hs7 j7)
    | (refine store_box (.store 51 (.tmp 8) (.tmp 41)) 51 _ _ (w5.heap.size + 1) 0 _ #[.int .u32 1, .int .i64 11, .int .i64 3, .int .i64 7, .int .u64 5, .int .u16 2, .int .i64 11] 51 _ [.int .u32 1, .int .i64 11, .int .i64 3, .int .i64 7, .int .u64 5, .int .u16 2, .int .i64 11] rfl rfl rfl rfl rfl rfl hz8 rfl (by kernel_rfl) (by simp) (by simp [Value.oneCell']) (by simp) ?_; intro V5 j8 hs8; have J8 := Aside0.mk j8; have HS8 := Aside0.mk hs8; clear hz8 hs8 j8; refine hold_ ?_))
  intro _
  have hb5 := HB5W.out
  have hb55 : Below w5.heap.size w5 V5 := HS8.out.on (Nat.le_succ _) (HS7.out.on (Nat.le_refl _) HB5B.out)
  have j7 := HS8.out.blk (Nat.succ_ne_self _).symm J7.out
  have j8 := J8.out
  have hb45 := below_then hb5 hb5.size hb55
  have hb15 := below_then HB14.out HB14.out.size hb45
  have j1 := (hb45.block g1 (blk_lt E1.out)).trans E1.out
  have j3 := (hb45.block _ (blk_lt H3'.out)).trans H3'.out
  have j5 := (hb45.block _ (blk_lt H5.out)).trans H5.out
  have k1 : V5.cell? ⟨g1, 8, none⟩ = some (.slice s1.A8 1 s1.c8) := (blk_cell j1 8).trans rfl
  have k3 : V5.cell? ⟨w2.heap.size, 8, none⟩ = some (.slice s2.A8 1 s2.c8) := (blk_cell j3 8).trans rfl
  have k5 : V5.cell? ⟨w4.heap.size, 8, none⟩ = some (.slice s4.A8 0 s4.c8) := (blk_cell j5 8).trans rfl
  have k7 : V5.cell? ⟨w5.heap.size, 8, none⟩ = some (.slice s5.A8 0 s5.c8) := (blk_cell j7 8).trans rfl
  have k8 : V5.cell? ⟨w5.heap.size + 1, 0, none⟩ = some (.int .u32 1) := (blk_cell j8 0).trans rfl
  have hNV := (HN1'.out V5 12 hb15).r8
  obtain ⟨ad, ha8, x0, x1, x2, x3, x4, x5, x6⟩ := at_T51 hNV 0 (by decide) (by decide)
  have HNV := Aside0.mk hNV
  have HA8 := Aside0.mk ha8
  have hC63 := Kd.C_below HC1.out hb15
  obtain ⟨ad1, A11, c11, A12, c12, ha1, y0, y1, y2, y3, _⟩ := at_T63 hC63 0 (by decide) (by decide)
  subst ha1
  rw [ha8] at k1
  have e0 : ∀ a : Addr, a.add ((0 : Int).toNat * 7) = a := fun a => by simp [Addr.add]
  have e0' : ∀ a : Addr, a.add ((0 : Int).toNat * 13) = a := fun a => by simp [Addr.add]
  rw [e0] at x6
  rw [e0'] at y1 y3
  have x6' : V5.cell? ⟨ad.block, ad.off + 6, none⟩ = some (.int .i64 11) := x6
  have y1' : V5.cell? ⟨ad1.block, ad1.off + 1, none⟩ = some (.int .u16 2) := y1
  have y3' : V5.cell? ⟨ad1.block, ad1.off + 3, none⟩ = some (.int .u32 1) := y3
  have HF1 : Aside0 (∀ V, Below V5.heap.size V5 V → Calls Try.prog 19 #[.slice (some ad) 1 s1.c8, .int .u32 1] V fun e w' => e = .returned (.int .i64 0) ∧ Below V.heap.size V w') := ⟨fun V hV => by have h := find_ok s1.A8 s1.c8 [pd] 1 V (Kd.C_below HNV.out hV); rw [HA8.out] at h; exact h⟩
  have HF2 : Aside0 (∀ V, Below V5.heap.size V5 V → Calls Try.prog 21 #[.slice (some ad) 1 s1.c8, .int .i64 3, .int .u16 2] V fun e w' => e = .returned (.bool true) ∧ Below V.heap.size V w') := ⟨fun V hV => by have h := has_ok s1.A8 s1.c8 [pd] 3 2 V (Kd.C_below HNV.out hV); rw [HA8.out] at h; exact h⟩
  have HF3 : Aside0 (∀ V, Below V5.heap.size V5 V → Calls Try.prog 23 #[.slice (some ad) 1 s1.c8, .int .i64 7] V fun e w' => e = .returned (.bool true) ∧ Below V.heap.size V w') := ⟨fun V hV => by have h := works_ok s1.A8 s1.c8 [pd] 7 V (Kd.C_below HNV.out hV); rw [HA8.out] at h; exact h⟩
  have HB5 := Aside0.mk hb15
  have HK1 := Aside0.mk k1
  clear hb55 hb45 j1 j3 j5 j7 j8 hNV ha8 hC63 x0 x1 x2 x3 x4 x5 x6 y0 y1 y2 y3 hb15 hb5 e0 e0'
  go_wp2_with fail
  refine (HF1.out V5 (Below.refl _ _)).mono ?_
  rintro e w6 ⟨rfl, hb6⟩
  have HB6 := Aside0.mk hb6
  have k1' := pw_cell_below hb6 HK1.out
  clear hb6 k1 k3 k5 k7 k8 x6' y1' y3'
  go_wp2_with fail
  refine (HF2.out w6 HB6.out).mono ?_
  rintro e w7 ⟨rfl, hb7⟩
  have HB7 := Aside0.mk (below_then HB6.out HB6.out.size hb7)
  have k1 := pw_cell_below HB7.out HK1.out
  clear hb7 k1'
  go_wp2_with fail
  refine (HF3.out w7 HB7.out).mono ?_
  rintro e w8 ⟨rfl, hb8⟩
  have HB8 := Aside0.mk (below_then HB7.out HB7.out.size hb8)
  clear hb8 k1
  go_wp2_with fail
  go_ret
  exact ⟨rfl, below_then (below_then HB1.out HB1.out.size HB5.out) (Nat.le_trans HB1.out.size HB5.out.size) HB8.out⟩
-- axioms: awake_ok
section
open Go Go.Proofs Go.RowKit Go.Lib Go.Proofs.Ytfgalgeloflilaa.P Go.Proofs.YtfgalgeloflilaaW.PrintWords Go.Proofs.YtfgalgeloflilaaW.PrintLast Go.Proofs.YtfgalgeloflilaaW.PrintMore
theorem h73 : Kd.Heap k73 := ⟨fun _ h => h⟩
theorem h76 : Kd.Heap k76 := ⟨fun _ h => h⟩
theorem h48 : Kd.Heap k48 := ⟨fun _ h => h⟩
theorem h67 : Kd.Heap k67 := ⟨fun _ h => h⟩
theorem h70 : Kd.Heap k70 := ⟨fun _ h => h⟩
theorem vv {α : Type} {d : Kd α} {e base : Nat} {w : World} {A : Option Addr} {c : Nat} {l : List α} (hd : Kd.Heap d) (hl : l.length ≤ c) (h : d.C w A l.length l) : Kd.V d e w base (fun _ => True) (.slice A l.length c) l :=
  Kd.V_mk hl (fun W' hW => Kd.Heap.C hd (fun k hk => hW k trivial hk) h)
set_option maxHeartbeats 2000000 in
theorem rlate_ok (n : ND) (s : NA) (w : World) (h : NC w n s) (hl : n.l8.length ≤ 100000) : Calls Try.prog 17 #[nv n s] w (NodeLateP { n with l8 := restL n } (lateL n) w) := by
  refine (annuletref30_Late.calls (n.l8.length + 1) n.a0 n.a1 n.a2 n.a3 (fun _ => True) s.A4 s.c4 n.l4 (fun _ => True) s.A5 s.c5 n.l5 (fun _ => True) s.A6 s.c6 n.l6 (fun _ => True) s.A7 s.c7 n.l7 s.A8 s.c8 n.l8 (fun _ => True) s.A9 s.c9 n.l9 (fun _ => True) s.A10 s.c10 n.l10 n.a11 n.a12 n.a13 n.a0 n.a1 n.a2 n.a3 n.l4 n.l5 n.l6 n.l7 (restL n) n.l9 n.l10 n.a11 n.a12 n.a13 (lateL n) w (vv h73 h.q4 h.r4) (vv h73 h.q5 h.r5) (vv h76 h.q6 h.r6) (vv h48 h.q7 h.r7) h.r8 h.q8 (vv h67 h.q9 h.r9) (vv h70 h.q10 h.r10) (rlate_l0 n hl (n.l8.length + 1) 0 (by omega) (by omega))).mono ?_
  rintro e w' ⟨v4, v5, v6, v7, v8, v9, v10, v14, rfl, R4, R5, R6, R7, R8, R9, R10, R14, hB⟩
  obtain ⟨A4, c4, rfl⟩ := Kd.V_slice R4
  obtain ⟨A5, c5, rfl⟩ := Kd.V_slice R5
  obtain ⟨A6, c6, rfl⟩ := Kd.V_slice R6
  obtain ⟨A7, c7, rfl⟩ := Kd.V_slice R7
  obtain ⟨A9, c9, rfl⟩ := Kd.V_slice R9
  obtain ⟨A10, c10, rfl⟩ := Kd.V_slice R10
  obtain ⟨A8, c8, rfl, q8, r8⟩ := Kd.R_reads R8
  obtain ⟨A14, c14, rfl, q14, r14⟩ := Kd.R_reads R14
  exact ⟨⟨A4, A5, A6, A7, A8, A9, A10, c4, c5, c6, c7, c8, c9, c10⟩, A14, c14, rfl, ⟨(Kd.V_reads' R4).2.2, (Kd.V_reads' R4).2.1, (Kd.V_reads' R5).2.2, (Kd.V_reads' R5).2.1, (Kd.V_reads' R6).2.2, (Kd.V_reads' R6).2.1, (Kd.V_reads' R7).2.2, (Kd.V_reads' R7).2.1, r8, q8, (Kd.V_reads' R9).2.2, (Kd.V_reads' R9).2.1, (Kd.V_reads' R10).2.2, (Kd.V_reads' R10).2.1⟩, q14, r14, hB⟩
-- axioms: rlate_ok
end
end Go.Proofs.Ytfgalgeloflilaa.H
