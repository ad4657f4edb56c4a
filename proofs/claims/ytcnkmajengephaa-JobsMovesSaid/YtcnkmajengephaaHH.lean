/- Mine. Chapter 31, by hand: jobs.Set, jobs.Busy, the law's example. -/
import Derived.Test.YtcnkmajengephaaHG
namespace Go.Proofs.Ytcnkmajengephaa.H
open Go Go.Proofs Go.RowKit Go.Lib Go.Proofs.Ytcnkmajengephaa.P Go.Proofs.YtcnkmajengephaaW.PrintWords Go.Proofs.YtcnkmajengephaaW.PrintLast Go.Proofs.YtcnkmajengephaaW.PrintMore
set_option linter.unusedVariables false
set_option linter.unusedSimpArgs false
def setN (n : ND) (j : S36) : ND := if 0 ≤ fJob n.l9 j.f0 then { n with l9 := n.l9.set (fJob n.l9 j.f0).toNat j } else n
theorem set_f (n : ND) (j : S36) (hb : NB n) : jobs_Set.f n.a0 n.a1 n.a2 n.a3 n.l4 n.l5 n.l6 n.l7 n.l8 n.l9 n.l10 n.a11 n.a12 n.a13 j.f0 j.f1 j.f2 j.f3 j.f4 j.f5 j.f6.f0 j.f6.f1 j.f7.f0 j.f7.f1 j.f8 j.f9 j.f10 j.f11 = some ((setN n j).a0, (setN n j).a1, (setN n j).a2, (setN n j).a3, (setN n j).l4, (setN n j).l5, (setN n j).l6, (setN n j).l7, (setN n j).l8, (setN n j).l9, (setN n j).l10, (setN n j).a11, (setN n j).a12, (setN n j).a13) := by
  unfold jobs_Set.f
  rw [copy_f n hb, Option.bind_some]
  show (Option.bind (some (fJob n.l9 j.f0)) _) = _
  rw [Option.bind_some]
  unfold setN
  rcases find_cases n.l9 j.f0 with h | ⟨k, hk, h⟩
  · rw [h]
    rfl
  · rw [h, if_pos (by omega), if_pos (by omega), if_pos (by show (k : Int) < (n.l9.length : Int); omega), if_pos (by omega)]
set_option maxHeartbeats 2000000 in
theorem set_ok (n : ND) (s : NA) (j : S36) (w : World) (h : NC w n s) (hb : NB n) : Calls Try.prog 11 #[nv n s, jv j] w (NodeP (setN n j) w) := by
  refine (jobs_Set.calls n.a0 n.a1 n.a2 n.a3 s.A4 s.c4 n.l4 s.A5 s.c5 n.l5 s.A6 s.c6 n.l6 s.A7 s.c7 n.l7 s.A8 s.c8 n.l8 s.A9 s.c9 n.l9 s.A10 s.c10 n.l10 n.a11 n.a12 n.a13 j.f0 j.f1 j.f2 j.f3 j.f4 j.f5 j.f6.f0 j.f6.f1 j.f7.f0 j.f7.f1 j.f8 j.f9 j.f10 j.f11 (setN n j).a0 (setN n j).a1 (setN n j).a2 (setN n j).a3 (setN n j).l4 (setN n j).l5 (setN n j).l6 (setN n j).l7 (setN n j).l8 (setN n j).l9 (setN n j).l10 (setN n j).a11 (setN n j).a12 (setN n j).a13 w h.r4 h.q4 h.r5 h.q5 h.r6 h.q6 h.r7 h.q7 h.r8 h.q8 h.r9 h.q9 h.r10 h.q10 (set_f n j hb)).mono ?_
  rintro e w' ⟨v4, v5, v6, v7, v8, v9, v10, rfl, R4, R5, R6, R7, R8, R9, R10, hB⟩
  obtain ⟨A4, c4, rfl, _, _⟩ := Kd.R_reads R4
  obtain ⟨A5, c5, rfl, _, _⟩ := Kd.R_reads R5
  obtain ⟨A6, c6, rfl, _, _⟩ := Kd.R_reads R6
  obtain ⟨A7, c7, rfl, _, _⟩ := Kd.R_reads R7
  obtain ⟨A8, c8, rfl, _, _⟩ := Kd.R_reads R8
  obtain ⟨A9, c9, rfl, _, _⟩ := Kd.R_reads R9
  obtain ⟨A10, c10, rfl, _, _⟩ := Kd.R_reads R10
  exact ⟨⟨A4, A5, A6, A7, A8, A9, A10, c4, c5, c6, c7, c8, c9, c10⟩, rfl, ⟨Kd.R_mono R4 (fun _ _ => trivial), Kd.R_mono R5 (fun _ _ => trivial), Kd.R_mono R6 (fun _ _ => trivial), Kd.R_mono R7 (fun _ _ => trivial), Kd.R_mono R8 (fun _ _ => trivial), Kd.R_mono R9 (fun _ _ => trivial), Kd.R_mono R10 (fun _ _ => trivial)⟩, hB⟩
theorem busy_ok (A : Option Addr) (c : Nat) (l : List S36) (kind : Int) (w : World) (h : Kd.C k36 w A l.length l) (hc : l.length ≤ c) : Calls Try.prog 19 #[.slice A l.length c, .int .i64 kind] w fun e w' => e = .returned (.bool (l.any fun x => x.f1 == kind)) ∧ Below w.heap.size w w' :=
  jobs_Busy.calls A c l kind _ w h hc rfl
/-! #### awake -/
def nd (clk : Int) (js : List S36) (rs : List S51) (jid : Int) : ND := ⟨0, 0, clk, false, [], [], [], [], [], js, rs, 0, jid, 0⟩
def j0 : S36 := ⟨0, 2, 0, ⟨#[107]⟩, ⟨#[]⟩, 0, ⟨0, 0⟩, ⟨0, 0⟩, false, 0, 0, 0⟩
def jb (hops : Int) : S36 := ⟨1, 2, 0, ⟨#[107]⟩, ⟨#[]⟩, 0, ⟨0, 0⟩, ⟨0, 0⟩, false, hops, 0, 205⟩
def ra : S51 := ⟨1, 2, ⟨#[107]⟩, ⟨#[118]⟩, true, 0⟩
def rb : S51 := ⟨1, 2, ⟨#[107]⟩, ⟨#[]⟩, false, 18⟩
def na0 : NA := ⟨none, none, none, none, none, none, none, 0, 0, 0, 0, 0, 0, 0⟩
/-- A node's value, its rows but the jobs and results empty. -/
abbrev cv (s : NA) (clk : Int) (k r : Nat) (jid : Int) : Value := .agg #[.int .u64 0, .int .u16 0, .int .i64 clk, .bool false, .slice s.A4 0 s.c4, .slice s.A5 0 s.c5, .slice s.A6 0 s.c6, .slice s.A7 0 s.c7, .slice s.A8 0 s.c8, .slice s.A9 k s.c9, .slice s.A10 r s.c10, .int .u32 0, .int .i64 jid, .int .i64 0]
theorem C_nil {α : Type} (d : Kd α) (w : World) : d.C w none 0 [] := ⟨rfl, by decide, fun h => absurd h (by decide)⟩
theorem nb_nd (clk : Int) (js : List S36) (rs : List S51) (jid : Int) (h : js.length ≤ 1) (h2 : rs.length ≤ 1) : NB (nd clk js rs jid) := ⟨by show 0 * _ ≤ _; omega, by show 0 * _ ≤ _; omega, by show 0 * _ ≤ _; omega, by show 0 * _ ≤ _; omega, by show 0 * _ ≤ _; omega, by show js.length * _ ≤ _; omega, by show rs.length * _ ≤ _; omega⟩
theorem nc_clk {w : World} {clk clk' jid jid' : Int} {js : List S36} {rs : List S51} {s : NA} (h : NC w (nd clk js rs jid) s) : NC w (nd clk' js rs jid') s := ⟨h.r4, h.q4, h.r5, h.q5, h.r6, h.q6, h.r7, h.q7, h.r8, h.q8, h.r9, h.q9, h.r10, h.q10⟩
theorem aw_add : addN (nd 5 [] [] 0) j0 = nd 5 [jb 0] [] 1 ∧ addI (nd 5 [] [] 0) = 1 ∧ addE (nd 5 [] [] 0) = 0 := ⟨by kernel_rfl, by kernel_rfl, by kernel_rfl⟩
theorem aw_settle : settleN (nd 5 [jb 0] [] 1) 1 true ⟨#[118]⟩ 0 = nd 5 [] [ra] 1 := by kernel_rfl
theorem aw_late : lateN (nd 206 [jb 0] [] 1) = nd 206 [] [rb] 1 := by kernel_rfl
theorem aw_set : setN (nd 206 [jb 0] [] 1) (jb 4) = nd 206 [jb 4] [] 1 := by kernel_rfl
set_option maxHeartbeats 2000000 in
theorem a_add (W : World) : Calls Try.prog 8 #[.agg #[.int .u64 0, .int .u16 0, .int .i64 5, .bool false, .slice none 0 0, .slice none 0 0, .slice none 0 0, .slice none 0 0, .slice none 0 0, .slice none 0 0, .slice none 0 0, .int .u32 0, .int .i64 0, .int .i64 0], .agg #[.int .i64 0, .int .i64 2, .int .i64 0, .string ⟨#[107]⟩, .string ⟨#[]⟩, .int .u64 0, .int .u64 0, .int .u16 0, .int .u64 0, .int .u16 0, .bool false, .int .i64 0, .int .i64 0, .int .i64 0]] W fun e w' => ∃ s, e = .returned (.tuple #[cv s 5 1 0 1, .int .i64 1, .int .i64 0]) ∧ NC w' (nd 5 [jb 0] [] 1) s ∧ Below W.heap.size W w' := by
  have h := add_ok (nd 5 [] [] 0) na0 j0 W ⟨C_nil _ _, Nat.le_refl _, C_nil _ _, Nat.le_refl _, C_nil _ _, Nat.le_refl _, C_nil _ _, Nat.le_refl _, C_nil _ _, Nat.le_refl _, C_nil _ _, Nat.le_refl _, C_nil _ _, Nat.le_refl _⟩ (nb_nd _ _ _ _ (by decide) (by decide))
  rw [aw_add.1, aw_add.2.1, aw_add.2.2] at h
  exact h.mono fun e w' ⟨s, he, hN, hb⟩ => ⟨s, he, hN.reads, hb⟩
set_option maxHeartbeats 2000000 in
theorem a_settle (s : NA) (W : World) (h : NC W (nd 5 [jb 0] [] 1) s) : Calls Try.prog 15 #[cv s 5 1 0 1, .int .i64 1, .bool true, .string ⟨#[118]⟩, .int .i64 0] W fun e w' => ∃ s, e = .returned (cv s 5 0 1 1) ∧ NR w' W.heap.size (nd 5 [] [ra] 1) s ∧ Below W.heap.size W w' := by
  have h := settle_ok (nd 5 [jb 0] [] 1) s 1 true ⟨#[118]⟩ 0 W h (nb_nd _ _ _ _ (by decide) (by decide)) (by decide) (by decide)
  rw [aw_settle] at h
  exact h.mono fun e w' ⟨s, he, hN, hb⟩ => ⟨s, he, hN, hb⟩
set_option maxHeartbeats 2000000 in
theorem a_late (s : NA) (W : World) (h : NC W (nd 206 [jb 0] [] 1) s) : Calls Try.prog 13 #[cv s 206 1 0 1] W fun e w' => ∃ s, e = .returned (cv s 206 0 1 1) ∧ NR w' W.heap.size (nd 206 [] [rb] 1) s ∧ Below W.heap.size W w' := by
  have h := late_ok (nd 206 [jb 0] [] 1) s W h (nb_nd _ _ _ _ (by decide) (by decide)) (by decide) (by decide)
  rw [aw_late] at h
  exact h.mono fun e w' ⟨s, he, hN, hb⟩ => ⟨s, he, hN, hb⟩
set_option maxHeartbeats 2000000 in
theorem a_set (s : NA) (W : World) (h : NC W (nd 206 [jb 0] [] 1) s) : Calls Try.prog 11 #[cv s 206 1 0 1, .agg #[.int .i64 1, .int .i64 2, .int .i64 0, .string ⟨#[107]⟩, .string ⟨#[]⟩, .int .u64 0, .int .u64 0, .int .u16 0, .int .u64 0, .int .u16 0, .bool false, .int .i64 4, .int .i64 0, .int .i64 205]] W fun e w' => ∃ s, e = .returned (cv s 206 1 0 1) ∧ NR w' W.heap.size (nd 206 [jb 4] [] 1) s ∧ Below W.heap.size W w' := by
  have h := set_ok (nd 206 [jb 0] [] 1) s (jb 4) W h (nb_nd _ _ _ _ (by decide) (by decide))
  rw [aw_set] at h
  exact h.mono fun e w' ⟨s, he, hN, hb⟩ => ⟨s, he, hN, hb⟩
set_option maxRecDepth 100000 in
set_option maxHeartbeats 8000000 in
theorem awake_ok (w : World) : Calls Try.prog 7 #[] w fun e w' => e = .returned (.bool true) ∧ Below w.heap.size w w' := by
  go_enter Try.func7, Try.ntmps7
  go_wp2_with fail
  refine (a_add _).mono ?_
  rintro e w1 ⟨s1, rfl, hN1, hb1⟩
  have HN1 : Aside0 (∀ V clk, Below w1.heap.size w1 V → NC V (nd clk [jb 0] [] 1) s1) := ⟨fun V clk hV => nc_clk (hN1.below hV)⟩
  have HB1 := Aside0.mk hb1
  have hz := heap_alloc_new w1 (.cells #[.int .u64 0, .int .u16 0, .int .i64 0, .bool false, .slice none 0 0, .slice none 0 0, .slice none 0 0, .slice none 0 0, .slice none 0 0, .slice none 0 0, .slice none 0 0, .int .u32 0, .int .i64 0, .int .i64 0] 34)
  clear hN1 hb1
  go_wp2_with (first | (refine gate_ (.load 34 (.tmp 1)) rfl ?_; refine wpList_load_row rfl 34 _ rfl (w1.heap.size) rfl 34 _ (0, 0) _ e1 Try.underlying34 rfl (by kernel_rfl) ?_) | (refine store_box (.store 34 (.tmp 1) (.tmp 12)) 34 _ _ (w1.heap.size) 0 _ #[.int .u64 0, .int .u16 0, .int .i64 5, .bool false, .slice s1.A4 0 s1.c4, .slice s1.A5 0 s1.c5, .slice s1.A6 0 s1.c6, .slice s1.A7 0 s1.c7, .slice s1.A8 0 s1.c8, .slice s1.A9 1 s1.c9, .slice s1.A10 0 s1.c10, .int .u32 0, .int .i64 1, .int .i64 0] 34 _ [.int .u64 0, .int .u16 0, .int .i64 5, .bool false, .slice s1.A4 0 s1.c4, .slice s1.A5 0 s1.c5, .slice s1.A6 0 s1.c6, .slice s1.A7 0 s1.c7, .slice s1.A8 0 s1.c8, .slice s1.A9 1 s1.c9, .slice s1.A10 0 s1.c10, .int .u32 0, .int .i64 1, .int .i64 0] rfl rfl rfl rfl rfl rfl hz rfl (by kernel_rfl) (by simp) (by simp [Value.oneCell']) (by simp) ?_; intro v1 e1 hs1; have HS1 := Aside0.mk hs1; have c9_1 : v1.cell? ⟨w1.heap.size, 9, none⟩ = some (.slice s1.A9 1 s1.c9) := (blk_cell e1 9).trans rfl; clear hs1 hz))
  have HBV1 := Aside0.mk (sto_new HS1.out)
  have E1 := Aside0.mk e1
  refine (a_settle s1 v1 (HN1.out v1 5 HBV1.out)).mono ?_
  rintro e w2 ⟨s2, rfl, hN2, hb2⟩
  have HN2 := Aside0.mk hN2
  have HSZ2 : Aside0 (w1.heap.size < v1.heap.size ∧ v1.heap.size ≤ w2.heap.size) := ⟨⟨blk_lt e1, hb2.size⟩⟩
  have HB2 := Aside0.mk (below_then HBV1.out HBV1.out.size hb2)
  have E1w := Aside0.mk ((hb2.block _ (blk_lt e1)).trans e1)
  have hz := heap_alloc_new w2 (.cells #[.int .u64 0, .int .u16 0, .int .i64 0, .bool false, .slice none 0 0, .slice none 0 0, .slice none 0 0, .slice none 0 0, .slice none 0 0, .slice none 0 0, .slice none 0 0, .int .u32 0, .int .i64 0, .int .i64 0] 34)
  clear hN2 hb2 e1 c9_1
  go_wp2_with (first | (refine gate_ (.load 34 (.tmp 1)) rfl ?_; refine wpList_load_row rfl 34 _ rfl (w1.heap.size) rfl 34 _ (0, 0) _ e1b Try.underlying34 rfl (by kernel_rfl) ?_) | (refine store_box (.store 34 (.tmp 4) (.tmp 25)) 34 _ _ (w2.heap.size) 0 _ #[.int .u64 0, .int .u16 0, .int .i64 5, .bool false, .slice s2.A4 0 s2.c4, .slice s2.A5 0 s2.c5, .slice s2.A6 0 s2.c6, .slice s2.A7 0 s2.c7, .slice s2.A8 0 s2.c8, .slice s2.A9 0 s2.c9, .slice s2.A10 1 s2.c10, .int .u32 0, .int .i64 1, .int .i64 0] 34 _ [.int .u64 0, .int .u16 0, .int .i64 5, .bool false, .slice s2.A4 0 s2.c4, .slice s2.A5 0 s2.c5, .slice s2.A6 0 s2.c6, .slice s2.A7 0 s2.c7, .slice s2.A8 0 s2.c8, .slice s2.A9 0 s2.c9, .slice s2.A10 1 s2.c10, .int .u32 0, .int .i64 1, .int .i64 0] rfl rfl rfl rfl rfl rfl hz rfl (by kernel_rfl) (by simp) (by simp [Value.oneCell']) (by simp) ?_; intro v2 e4 hs2; have HS2 := Aside0.mk hs2; have HBV2 := Aside0.mk (sto_new hs2); have E4 := Aside0.mk e4; have e1 := (HBV2.out.block _ (blk_lt E1w.out)).trans E1w.out; clear hs2 hz e4) | (refine store_box (.store 3 (.tmp 26) (.const (.int .i64 206))) 3 _ _ (w1.heap.size) 2 _ #[.int .u64 0, .int .u16 0, .int .i64 206, .bool false, .slice s1.A4 0 s1.c4, .slice s1.A5 0 s1.c5, .slice s1.A6 0 s1.c6, .slice s1.A7 0 s1.c7, .slice s1.A8 0 s1.c8, .slice s1.A9 1 s1.c9, .slice s1.A10 0 s1.c10, .int .u32 0, .int .i64 1, .int .i64 0] 34 (.int .i64 206) [.int .i64 206] rfl rfl rfl rfl rfl rfl e1 rfl (by kernel_rfl) (by simp) (by simp [Value.oneCell']) (by simp) ?_; intro v3 e1b hs3; have HS3 := Aside0.mk hs3; clear hs3 e1))
  have hw2 : Below w1.heap.size w1 v2 := below_then HB2.out HB2.out.size HBV2.out
  have hw3 : Below w1.heap.size w1 v3 := HS3.out.on (Nat.le_refl _) hw2
  have HB3 := Aside0.mk hw3
  have E4b := Aside0.mk (HS3.out.blk (by have := HB2.out.size; have := blk_lt E1w.out; omega) E4.out)
  refine (a_late s1 v3 (HN1.out v3 206 hw3)).mono ?_
  rintro e w4 ⟨s4, rfl, hN4, hb4⟩
  have HN4 := Aside0.mk hN4
  have HB4 := Aside0.mk (below_then hw3 hw3.size hb4)
  have E1w := Aside0.mk ((hb4.block _ (blk_lt e1b)).trans e1b)
  have E4w := Aside0.mk ((hb4.block _ (blk_lt E4b.out)).trans E4b.out)
  have HB34 := Aside0.mk hb4
  have hz := heap_alloc_new w4 (.cells #[.int .u64 0, .int .u16 0, .int .i64 0, .bool false, .slice none 0 0, .slice none 0 0, .slice none 0 0, .slice none 0 0, .slice none 0 0, .slice none 0 0, .slice none 0 0, .int .u32 0, .int .i64 0, .int .i64 0] 34)
  clear hN4 hb4 hw2 hw3 e1b
  go_wp2_with ((refine store_box (.store 34 (.tmp 5) (.tmp 28)) 34 _ _ (w4.heap.size) 0 _ #[.int .u64 0, .int .u16 0, .int .i64 206, .bool false, .slice s4.A4 0 s4.c4, .slice s4.A5 0 s4.c5, .slice s4.A6 0 s4.c6, .slice s4.A7 0 s4.c7, .slice s4.A8 0 s4.c8, .slice s4.A9 0 s4.c9, .slice s4.A10 1 s4.c10, .int .u32 0, .int .i64 1, .int .i64 0] 34 _ [.int .u64 0, .int .u16 0, .int .i64 206, .bool false, .slice s4.A4 0 s4.c4, .slice s4.A5 0 s4.c5, .slice s4.A6 0 s4.c6, .slice s4.A7 0 s4.c7, .slice s4.A8 0 s4.c8, .slice s4.A9 0 s4.c9, .slice s4.A10 1 s4.c10, .int .u32 0, .int .i64 1, .int .i64 0] rfl rfl rfl rfl rfl rfl hz rfl (by kernel_rfl) (by simp) (by simp [Value.oneCell']) (by simp) ?_; intro v4 e5 hs4; have HS4 := Aside0.mk hs4; clear hs4 hz; refine hold_ ?_))
  intro _
  have HBV4 := Aside0.mk (sto_new HS4.out)
  have e1 := (HBV4.out.block _ (blk_lt E1w.out)).trans E1w.out
  have E1 := Aside0.mk e1
  have E5 := Aside0.mk e5
  have E4 := Aside0.mk ((HBV4.out.block _ (blk_lt E4w.out)).trans E4w.out)
  have HB5 := Aside0.mk (below_then HB4.out HB4.out.size HBV4.out)
  have hNj := HN1.out v4 206 HB5.out
  obtain ⟨ad, had, x0, x1, x2, x3, x4, x5, x6, x7, x8, x9, x10, x11, x12, x13⟩ := at_T36 hNj.r9 0 (by decide) (by decide)
  have HAD := Aside0.mk had
  have hz0 : ad.add ((0 : Int).toNat * 14) = ad := by simp [Addr.add]
  rw [hz0] at x0 x1 x2 x3 x4 x5 x6 x7 x8 x9 x10 x11 x12 x13
  have c9 : v4.cell? ⟨w1.heap.size, 9, none⟩ = some (.slice (some ad) 1 s1.c9) := by rw [← had]; exact (blk_cell e1 9).trans rfl
  have z0 : v4.cell? ad = some (.int .i64 1) := x0
  have z1 : v4.cell? ⟨ad.block, ad.off + 1, none⟩ = some (.int .i64 2) := x1
  have z2 : v4.cell? ⟨ad.block, ad.off + 2, none⟩ = some (.int .i64 0) := x2
  have z3 : v4.cell? ⟨ad.block, ad.off + 3, none⟩ = some (.string ⟨#[107]⟩) := x3
  have z4 : v4.cell? ⟨ad.block, ad.off + 4, none⟩ = some (.string ⟨#[]⟩) := x4
  have z5 : v4.cell? ⟨ad.block, ad.off + 5, none⟩ = some (.int .u64 0) := x5
  have z6 : v4.cell? ⟨ad.block, ad.off + 6, none⟩ = some (.int .u64 0) := x6
  have z7 : v4.cell? ⟨ad.block, ad.off + 7, none⟩ = some (.int .u16 0) := x7
  have z8 : v4.cell? ⟨ad.block, ad.off + 8, none⟩ = some (.int .u64 0) := x8
  have z9 : v4.cell? ⟨ad.block, ad.off + 9, none⟩ = some (.int .u16 0) := x9
  have z10 : v4.cell? ⟨ad.block, ad.off + 10, none⟩ = some (.bool false) := x10
  have z11 : v4.cell? ⟨ad.block, ad.off + 11, none⟩ = some (.int .i64 0) := x11
  have z12 : v4.cell? ⟨ad.block, ad.off + 12, none⟩ = some (.int .i64 0) := x12
  have z13 : v4.cell? ⟨ad.block, ad.off + 13, none⟩ = some (.int .i64 205) := x13
  have hz := heap_alloc_new v4 (.cells #[.int .i64 0, .int .i64 0, .int .i64 0, .string ⟨#[]⟩, .string ⟨#[]⟩, .int .u64 0, .int .u64 0, .int .u16 0, .int .u64 0, .int .u16 0, .bool false, .int .i64 0, .int .i64 0, .int .i64 0] 36)
  clear hNj had hz0 x0 x1 x2 x3 x4 x5 x6 x7 x8 x9 x10 x11 x12 x13 e5 e1
  go_wp2_with ((refine store_box (.store 36 (.tmp 6) (.tmp 32)) 36 _ _ (v4.heap.size) 0 _ #[.int .i64 1, .int .i64 2, .int .i64 0, .string ⟨#[107]⟩, .string ⟨#[]⟩, .int .u64 0, .int .u64 0, .int .u16 0, .int .u64 0, .int .u16 0, .bool false, .int .i64 0, .int .i64 0, .int .i64 205] 36 _ [.int .i64 1, .int .i64 2, .int .i64 0, .string ⟨#[107]⟩, .string ⟨#[]⟩, .int .u64 0, .int .u64 0, .int .u16 0, .int .u64 0, .int .u16 0, .bool false, .int .i64 0, .int .i64 0, .int .i64 205] rfl rfl rfl rfl rfl rfl hz rfl (by kernel_rfl) (by simp) (by simp [Value.oneCell']) (by simp) ?_; intro v5 e6 hs5; have HS5 := Aside0.mk hs5; clear hs5 hz; refine hold_ ?_))
  intro _
  have HBV5 := Aside0.mk (sto_new HS5.out)
  have HBW5 := Aside0.mk (below_then HB5.out HB5.out.size HBV5.out)
  clear c9 z0 z1 z2 z3 z4 z5 z6 z7 z8 z9 z10 z11 z12 z13
  go_wp2_with ((refine store_box (.store 3 (.tmp 33) (.const (.int .i64 4))) 3 _ _ (v4.heap.size) 11 _ #[.int .i64 1, .int .i64 2, .int .i64 0, .string ⟨#[107]⟩, .string ⟨#[]⟩, .int .u64 0, .int .u64 0, .int .u16 0, .int .u64 0, .int .u16 0, .bool false, .int .i64 4, .int .i64 0, .int .i64 205] 36 (.int .i64 4) [.int .i64 4] rfl rfl rfl rfl rfl rfl e6 rfl (by kernel_rfl) (by simp) (by simp [Value.oneCell']) (by simp) ?_; intro v6 e6b hs6; have HS6 := Aside0.mk hs6; clear hs6 e6; refine hold_ ?_))
  intro _
  have hlt6 : w1.heap.size < v4.heap.size := blk_lt E1.out
  have e1 := HS6.out.blk (by omega) ((HBV5.out.block _ (blk_lt E1.out)).trans E1.out)
  have E1b := Aside0.mk e1
  have HB6 := Aside0.mk (HS6.out.on (by omega) HBW5.out)
  have E4b := Aside0.mk (HS6.out.blk (by have := blk_lt E4.out; omega) ((HBV5.out.block _ (blk_lt E4.out)).trans E4.out))
  have E5b := Aside0.mk (HS6.out.blk (by have := blk_lt E5.out; omega) ((HBV5.out.block _ (blk_lt E5.out)).trans E5.out))
  have HB46 := Aside0.mk (HS6.out.on (Nat.le_refl _) HBV5.out)
  clear hlt6
  go_wp2_with (first | (refine gate_ (.load 34 (.tmp 1)) rfl ?_; refine wpList_load_row rfl 34 _ rfl (w1.heap.size) rfl 34 _ (0, 0) _ e1 Try.underlying34 rfl (by kernel_rfl) ?_) | (refine gate_ (.load 36 (.tmp 6)) rfl ?_; refine wpList_load_row rfl 36 _ rfl (v4.heap.size) rfl 36 _ (0, 0) _ e6b Try.underlying36 rfl (by kernel_rfl) ?_))
  refine (a_set s1 v6 (HN1.out v6 206 HB6.out)).mono ?_
  rintro e w7 ⟨s7, rfl, hN7, hb7⟩
  have HN7 := Aside0.mk hN7
  have HB7 := Aside0.mk hb7
  have hz := heap_alloc_new w7 (.cells #[.int .u64 0, .int .u16 0, .int .i64 0, .bool false, .slice none 0 0, .slice none 0 0, .slice none 0 0, .slice none 0 0, .slice none 0 0, .slice none 0 0, .slice none 0 0, .int .u32 0, .int .i64 0, .int .i64 0] 34)
  clear hN7 hb7 e1 e6b
  go_wp2_with ((refine store_box (.store 34 (.tmp 7) (.tmp 36)) 34 _ _ (w7.heap.size) 0 _ #[.int .u64 0, .int .u16 0, .int .i64 206, .bool false, .slice s7.A4 0 s7.c4, .slice s7.A5 0 s7.c5, .slice s7.A6 0 s7.c6, .slice s7.A7 0 s7.c7, .slice s7.A8 0 s7.c8, .slice s7.A9 1 s7.c9, .slice s7.A10 0 s7.c10, .int .u32 0, .int .i64 1, .int .i64 0] 34 _ [.int .u64 0, .int .u16 0, .int .i64 206, .bool false, .slice s7.A4 0 s7.c4, .slice s7.A5 0 s7.c5, .slice s7.A6 0 s7.c6, .slice s7.A7 0 s7.c7, .slice s7.A8 0 s7.c8, .slice s7.A9 1 s7.c9, .slice s7.A10 0 s7.c10, .int .u32 0, .int .i64 1, .int .i64 0] rfl rfl rfl rfl rfl rfl hz rfl (by kernel_rfl) (by simp) (by simp [Value.oneCell']) (by simp) ?_; intro v7 e7 hs7; have HS7 := Aside0.mk hs7; clear hs7 hz; refine hold_ ?_))
  intro _
  have HBV7 := Aside0.mk (sto_new HS7.out)
  have h67 : Below v6.heap.size v6 v7 := below_then HB7.out HB7.out.size HBV7.out
  have h47 : Below v4.heap.size v4 v7 := below_then HB46.out HB46.out.size h67
  have h17 : Below w1.heap.size w1 v7 := below_then HB6.out HB6.out.size h67
  have j1 := (h67.block _ (blk_lt E1b.out)).trans E1b.out
  have j4 := (h67.block _ (blk_lt E4b.out)).trans E4b.out
  have j5 := (h67.block _ (blk_lt E5b.out)).trans E5b.out
  have n1 := HN1.out v7 206 h17
  have hsz1 := HSZ2.out
  have hsz2 := HBV2.out.size
  have hsz3 := HS3.out.size
  have hsz4 := HB34.out.size
  have hsz5 := HBV4.out.size
  have hsz6 := HBV5.out.size
  have hsz7 := HS6.out.size
  have n2 := HN2.out.step (w1 := v7) (fun k h1 h2 => (h67.block k (by omega)).trans ((HS6.out.far k (by omega)).trans ((HBV5.out.block k (by omega)).trans ((HBV4.out.block k (by omega)).trans ((HB34.out.block k (by omega)).trans ((HS3.out.far k (by omega)).trans (HBV2.out.block k h2)))))))
  have n4 := HN4.out.step (w1 := v7) (fun k h1 h2 => (h67.block k (by omega)).trans ((HS6.out.far k (by omega)).trans ((HBV5.out.block k (by omega)).trans (HBV4.out.block k h2))))
  have n7 := HN7.out.below HBV7.out
  obtain ⟨ad1, had1, q0, q1, q2, q3, q4, q5, q6, q7, q8, q9, q10, q11, q12, q13⟩ := at_T36 n1.r9 0 (by decide) (by decide)
  obtain ⟨ad2, had2, r0, r1, r2, r3, r4, r5⟩ := at_T51 n2.reads.r10 0 (by decide) (by decide)
  obtain ⟨ad4, had4, u0, u1, u2, u3, u4, u5⟩ := at_T51 n4.reads.r10 0 (by decide) (by decide)
  obtain ⟨ad7, had7, t0, t1, t2, t3, t4, t5, t6, t7, t8, t9, t10, t11, t12, t13⟩ := at_T36 n7.reads.r9 0 (by decide) (by decide)
  have HN7r := Aside0.mk n7.reads.r9
  have HAD7 := Aside0.mk had7
  have z36 : ∀ a : Addr, a.add ((0 : Int).toNat * 14) = a := fun a => by simp [Addr.add]
  have z51 : ∀ a : Addr, a.add ((0 : Int).toNat * 6) = a := fun a => by simp [Addr.add]
  rw [z36] at q13 t11
  rw [z51] at r0 r1 r2 r3 r4 r5 u5
  have c1 : v7.cell? ⟨w1.heap.size, 9, none⟩ = some (.slice (some ad1) 1 s1.c9) := by rw [← had1]; exact (blk_cell j1 9).trans rfl
  have c2 : v7.cell? ⟨w2.heap.size, 9, none⟩ = some (.slice s2.A9 0 s2.c9) := (blk_cell j4 9).trans rfl
  have c3 : v7.cell? ⟨w2.heap.size, 10, none⟩ = some (.slice (some ad2) 1 s2.c10) := by rw [← had2]; exact (blk_cell j4 10).trans rfl
  have c4 : v7.cell? ⟨w4.heap.size, 9, none⟩ = some (.slice s4.A9 0 s4.c9) := (blk_cell j5 9).trans rfl
  have c5 : v7.cell? ⟨w4.heap.size, 10, none⟩ = some (.slice (some ad4) 1 s4.c10) := by rw [← had4]; exact (blk_cell j5 10).trans rfl
  have c6 : v7.cell? ⟨w7.heap.size, 9, none⟩ = some (.slice (some ad7) 1 s7.c9) := by rw [← had7]; exact (blk_cell e7 9).trans rfl
  have k1 : v7.cell? ⟨ad1.block, ad1.off + 13, none⟩ = some (.int .i64 205) := q13
  have k2 : v7.cell? ad2 = some (.int .i64 1) := r0
  have k3 : v7.cell? ⟨ad2.block, ad2.off + 1, none⟩ = some (.int .i64 2) := r1
  have k4 : v7.cell? ⟨ad2.block, ad2.off + 2, none⟩ = some (.string ⟨#[107]⟩) := r2
  have k5 : v7.cell? ⟨ad2.block, ad2.off + 3, none⟩ = some (.string ⟨#[118]⟩) := r3
  have k6 : v7.cell? ⟨ad2.block, ad2.off + 4, none⟩ = some (.bool true) := r4
  have k7 : v7.cell? ⟨ad2.block, ad2.off + 5, none⟩ = some (.int .i64 0) := r5
  have k8 : v7.cell? ⟨ad4.block, ad4.off + 5, none⟩ = some (.int .i64 18) := u5
  have k9 : v7.cell? ⟨ad7.block, ad7.off + 11, none⟩ = some (.int .i64 4) := t11
  have HFB : Aside0 (Below w.heap.size w v7) := ⟨below_then HB1.out HB1.out.size h17⟩
  have HBU : Aside0 (∀ V, Below v7.heap.size v7 V → Calls Try.prog 19 #[.slice (some ad7) 1 s7.c9, .int .i64 2] V fun e w' => e = .returned (.bool true) ∧ Below V.heap.size V w') := ⟨fun V hV => by have h := busy_ok s7.A9 s7.c9 [jb 4] 2 V (Kd.C_below HN7r.out hV) n7.reads.q9; rw [HAD7.out] at h; exact h⟩
  have HFD : Aside0 (∀ V, Below v7.heap.size v7 V → Calls Try.prog 17 #[.slice (some ad7) 1 s7.c9, .int .i64 2] V fun e w' => e = .returned (.int .i64 (-1)) ∧ Below V.heap.size V w') := ⟨fun V hV => by have h := find_ok s7.A9 s7.c9 [jb 4] 2 V (Kd.C_below HN7r.out hV) n7.reads.q9; rw [HAD7.out] at h; exact h⟩
  clear n1 n2 n4 n7 had1 had2 had4 had7 z36 z51 q0 q1 q2 q3 q4 q5 q6 q7 q8 q9 q10 q11 q12 t0 t1 t2 t3 t4 t5 t6 t7 t8 t9 t10 t12 t13 u0 u1 u2 u3 u4 q13 t11 r0 r1 r2 r3 r4 r5 u5 h67 h47 h17 j1 j4 j5 e7 hsz1 hsz2 hsz3 hsz4 hsz5 hsz6 hsz7
  go_wp2_with fail
  have C6 := Aside0.mk c6
  refine (HBU.out v7 (Below.refl _ _)).mono ?_
  rintro e y1 ⟨rfl, hy1⟩
  have HY1 := Aside0.mk hy1
  have c6b : y1.cell? ⟨w7.heap.size, 9, none⟩ = some (.slice (some ad7) 1 s7.c9) := (hy1.cell (p := ⟨w7.heap.size, 9, none⟩) (World.block_lt_of_cell? _ _ C6.out)).trans C6.out
  clear hy1 c1 c2 c3 c4 c5 c6 k1 k2 k3 k4 k5 k6 k7 k8 k9
  go_wp2_with fail
  refine (HFD.out y1 HY1.out).mono ?_
  rintro e y2 ⟨rfl, hy2⟩
  have HY2 := Aside0.mk hy2
  clear hy2 c6b
  go_wp2_with fail
  go_ret
  exact ⟨rfl, below_then (below_then HFB.out HFB.out.size HY1.out) (Nat.le_trans HFB.out.size HY1.out.size) HY2.out⟩
#print axioms awake_ok
end Go.Proofs.Ytcnkmajengephaa.H
