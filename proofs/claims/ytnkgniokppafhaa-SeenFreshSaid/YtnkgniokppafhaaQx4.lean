-- Printed by fprint.py (a program of this session's, over the kit's print), for this claim.
import Derived.Test.YtnkgniokppafhaaQx0
import Derived.Test.YtnkgniokppafhaaQx1
import Derived.Test.YtnkgniokppafhaaQx2
import Derived.Test.YtnkgniokppafhaaQx3
namespace Go.Proofs.Ytnkgniokppafhaa.Q
open Go.RowKit Go.Proofs.YtnkgniokppafhaaW.PrintWords Go.Proofs.YtnkgniokppafhaaW.PrintLast Go.Proofs.YtnkgniokppafhaaW.PrintMore
attribute [local go_sem] max2_int min2_int max_two min_two max_three min_three max_four min_four   -- for this text's walks alone
set_option linter.unusedVariables false
set_option linter.unusedSimpArgs false

attribute [local go_sem high] eqA25
/-! ### annuletlaw20_SeenFresh: function 3 -/
def annuletlaw20_SeenFresh.j0 : Nat → Int → Int → Bool → Bool → Int → Int → Int → Option (Bool)
 | 0, _, _, _, _, _, _, _ => none
 | k + 1, x1, x2, x29, x121000, x121001, x121002, x121003 => if x29 = true then (none) else ((seen_Mark.f x121000 x121001 x121002 x121003 x1 x2).bind fun bt125 => ((annuletref20_Mark.f k x121000 x121001 x121002 x121003 x1 x2).bind fun bt129 => (if (bt125.1 == bt129.1 && (bt125.2.1 == bt129.2.1 && (bt125.2.2.1 == bt129.2.2.1 && (bt125.2.2.2 == bt129.2.2.2)))) = true then (if (bt125.1 == bt129.1) = true then (if bt125.2.1 = bt129.2.1 then (if bt125.2.2.1 = bt129.2.2.1 then ((annuletlaw20_awake.f).bind fun t135 => (some t135)) else (none)) else (none)) else (none)) else (if x121000 = true then (if x121002 < 64 then (if (bt125.1 == bt129.1) = true then (if bt125.2.1 = bt129.2.1 then (if bt125.2.2.1 = bt129.2.2.1 then ((annuletlaw20_awake.f).bind fun t136 => (some t136)) else (none)) else (none)) else (none)) else (none)) else (none)))))
def annuletlaw20_SeenFresh.f (k : Nat) (a0_0 : Bool) (a0_1 : Int) (a0_2 : Int) (a0_3 : Int) (a1 : Int) (a2 : Int) : Option (Bool) := (seen_Fresh.f a0_0 a0_1 a0_2 a0_3 a1 a2).bind fun t121 => ((annuletref20_Fresh.f k a0_0 a0_1 a0_2 a0_3 a1 a2).bind fun t122 => (if t121 = t122 then ((seen_Has.f a0_0 a0_1 a0_2 a0_3 a1 a2).bind fun t123 => ((annuletref20_Fresh.f k a0_0 a0_1 a0_2 a0_3 a1 a2).bind fun t124 => (annuletlaw20_SeenFresh.j0 k a1 a2 (t123 != (t124 == 12)) a0_0 a0_1 a0_2 a0_3))) else (annuletlaw20_SeenFresh.j0 k a1 a2 true a0_0 a0_1 a0_2 a0_3)))
theorem annuletlaw20_SeenFresh.mono_l : ∀ k, (∀ y0 y1 y2 y3 y4 y5 y6, LeO (annuletlaw20_SeenFresh.j0 k y0 y1 y2 y3 y4 y5 y6) (annuletlaw20_SeenFresh.j0 (k + 1) y0 y1 y2 y3 y4 y5 y6))
 | 0 => fun _ _ _ _ _ _ _ r h => by simp [annuletlaw20_SeenFresh.j0] at h
 | k + 1 => by
  have ih0 := annuletlaw20_SeenFresh.mono_l k
  ·intro y0 y1 y2 y3 y4 y5 y6
   unfold annuletlaw20_SeenFresh.j0
   repeat' first
   | (with_reducible exact ih0 _ _ _ _ _ _ _)
   | (with_reducible exact annuletref20_Fresh.mono _ _ _ _ _ _ _)
   | (with_reducible exact annuletref20_Mark.mono _ _ _ _ _ _ _)
   | (with_reducible exact LeO.refl _)
   | (with_reducible exact LeO.none _)
   | (with_reducible refine LeO.ite ?_ ?_)
   | (with_reducible refine LeO.bind ?_ (fun _ => ?_))
   | exact ih0 _ _ _ _ _ _ _
   | exact annuletref20_Fresh.mono _ _ _ _ _ _ _
   | exact annuletref20_Mark.mono _ _ _ _ _ _ _
   | exact LeO.none _
   | refine LeO.ite ?_ ?_
   | refine LeO.bind ?_ (fun _ => ?_)
theorem annuletlaw20_SeenFresh.mono : ∀ a0 a1 a2 a3 a4 a5 k, LeO (annuletlaw20_SeenFresh.f k a0 a1 a2 a3 a4 a5) (annuletlaw20_SeenFresh.f (k + 1) a0 a1 a2 a3 a4 a5) := by
 intro a0 a1 a2 a3 a4 a5 k
 have ih0 := annuletlaw20_SeenFresh.mono_l k
 unfold annuletlaw20_SeenFresh.f
 repeat' first
   | (with_reducible exact ih0 _ _ _ _ _ _ _)
   | (with_reducible exact annuletref20_Fresh.mono _ _ _ _ _ _ _)
   | (with_reducible exact annuletref20_Mark.mono _ _ _ _ _ _ _)
   | (with_reducible exact LeO.refl _)
   | (with_reducible exact LeO.none _)
   | (with_reducible refine LeO.ite ?_ ?_)
   | (with_reducible refine LeO.bind ?_ (fun _ => ?_))
   | exact ih0 _ _ _ _ _ _ _
   | exact annuletref20_Fresh.mono _ _ _ _ _ _ _
   | exact annuletref20_Mark.mono _ _ _ _ _ _ _
   | exact LeO.none _
   | refine LeO.ite ?_ ?_
   | refine LeO.bind ?_ (fun _ => ?_)
def annuletlaw20_SeenFresh.T1 : Bool × List (List Nat × List Nat) := (true, [([], []), ([], []), ([], []), ([0, 1, 2], [0, 1, 2]), ([], []), ([], []), ([], []), ([4, 5, 6, 3], [4, 5, 6]), ([3, 7], [3, 7]), ([8, 7], [8]), ([9], [9]), ([9], [9]), ([9], [9]), ([10, 11, 12, 9, 9], [9, 10, 11, 12]), ([9], [9]), ([9], [9]), ([9], [9]), ([14, 15, 16, 13, 9], [9, 14, 15, 16]), ([17, 9], [9, 17]), ([13, 18, 9], [9, 13, 18]), ([9, 19], [9, 19])])
def annuletlaw20_SeenFresh.B1 : List Nat := [0, 0, 0, 7, 0, 0, 0, 127, 255, 511, 1023, 1023, 1023, 8191, 1023, 1023, 1023, 131071, 262143, 524287, 1048575]
theorem annuletlaw20_SeenFresh.tab1 : rtab .any (opsOf Try.f3 1) = annuletlaw20_SeenFresh.T1 := by kernel_rfl
theorem annuletlaw20_SeenFresh.bits1 : waitsOk annuletlaw20_SeenFresh.T1.2 annuletlaw20_SeenFresh.B1 = true := by kernel_rfl
def annuletlaw20_SeenFresh.T3 : Bool × List (List Nat × List Nat) := (true, [([], []), ([], []), ([], []), ([0, 1, 2], [0, 1, 2]), ([], []), ([], []), ([], []), ([4, 5, 6, 3], [4, 5, 6]), ([], []), ([], []), ([8, 3, 7, 0, 1, 2, 3, 8, 9], [3, 8]), ([9, 7, 10, 0, 1, 2, 3, 4, 5, 6, 7, 8, 9, 10], [7, 9])])
def annuletlaw20_SeenFresh.B3 : List Nat := [0, 0, 0, 7, 0, 0, 0, 127, 0, 0, 1023, 2047]
theorem annuletlaw20_SeenFresh.tab3 : rtab .any (opsOf Try.f3 3) = annuletlaw20_SeenFresh.T3 := by kernel_rfl
theorem annuletlaw20_SeenFresh.bits3 : waitsOk annuletlaw20_SeenFresh.T3.2 annuletlaw20_SeenFresh.B3 = true := by kernel_rfl
set_option maxHeartbeats 8000000 in
set_option maxRecDepth 100000 in
theorem annuletlaw20_SeenFresh.calls (k : Nat) (a0_0 : Bool) (a0_1 : Int) (a0_2 : Int) (a0_3 : Int) (a1 : Int) (a2 : Int) (r : Bool) (w : World) (h : annuletlaw20_SeenFresh.f k a0_0 a0_1 a0_2 a0_3 a1 a2 = some r) :
  Calls Try.prog 3 #[.agg #[.bool a0_0, .int .u32 a0_1, .int .u32 a0_2, .int .u64 a0_3], .int .u32 a1, .int .u32 a2] w fun e w' => e = .returned (.bool r) ∧ Below w.heap.size w w' := by
 have hu25 := Try.underlying25
 have HB := Aside0.mk (Below.refl w.heap.size w)
 have H : ((seen_Fresh.f a0_0 a0_1 a0_2 a0_3 a1 a2).bind fun t121 => ((annuletref20_Fresh.f k a0_0 a0_1 a0_2 a0_3 a1 a2).bind fun t122 => (if t121 = t122 then ((seen_Has.f a0_0 a0_1 a0_2 a0_3 a1 a2).bind fun t123 => ((annuletref20_Fresh.f k a0_0 a0_1 a0_2 a0_3 a1 a2).bind fun t124 => (annuletlaw20_SeenFresh.j0 k a1 a2 (t123 != (t124 == 12)) a0_0 a0_1 a0_2 a0_3))) else (annuletlaw20_SeenFresh.j0 k a1 a2 true a0_0 a0_1 a0_2 a0_3)))) = some r := h
 clear h
 have HC4 := Aside0.mk H
 clear H
 go_enter Try.func3, Try.ntmps3
 go_upto_region 1 with (first | ((with_reducible refine gate_dst (N := 3) rfl ?_); refine box_event ?hg (N := 3) ?hd (cs := #[.bool a0_0, .int .u32 a0_1, .int .u32 a0_2, .int .u64 a0_3]) (t := 25) ?hr ?_; (case hd => rfl); (case hg => rfl); (case hr => first | (go_simp; done) | (go_simp; rfl)); intro gb120 hg w5 hbox hb; have n0_ := Aside0.mk (below_step (by repeat (first | (with_reducible first | exact HB.out | apply below_alloc | apply pw_below_drewN | apply below_drew1) | exact HB.out)) hb); have n1_ := Aside0.mk (hbox); have n2_ := Aside0.mk ((by rw [hg]; exact (below_size (by repeat (first | (with_reducible first | exact HB.out | apply below_alloc | apply pw_below_drewN | apply below_drew1) | exact HB.out))) : w.heap.size ≤ gb120)); have n3_ := Aside0.mk ((by rw [hg]; exact (below_size (by repeat (first | (with_reducible first | exact HB.out | apply below_alloc | apply pw_below_drewN | apply below_drew1) | exact HB.out))) : w.heap.size ≤ gb120)); clear HB; have HB := n0_; have BK120 := n1_; have GW120 := n2_; have GE120 := n3_; clear n0_ n1_ n2_ n3_; clear hb hbox hg))
 (try simp only [Act.put, List.setIfInBounds_toArray, List.set_cons_zero, List.set_cons_succ])
 go_cut [29] (fun v29 wc => ∃ (kq : Nat) (x29_3 : Bool), v29 = .bool x29_3 ∧ Aside0 (annuletlaw20_SeenFresh.j0 kq a1 a2 x29_3 a0_0 a0_1 a0_2 a0_3 = some r) ∧ Aside0 (kq ≤ k) ∧ Aside0 (wc.heap[gb120]? = some (.cells #[.bool a0_0, .int .u32 a0_1, .int .u32 a0_2, .int .u64 a0_3] 25 (0, 0))) ∧ Aside0 (Below w.heap.size w wc))
 case first =>
  have H := HC4.out
  clear HC4
  replace H := Option.bind_eq_some_iff.mp H
  obtain ⟨t121, A60, H⟩ := H
  replace H : ((annuletref20_Fresh.f k a0_0 a0_1 a0_2 a0_3 a1 a2).bind fun t122 => (if t121 = t122 then ((seen_Has.f a0_0 a0_1 a0_2 a0_3 a1 a2).bind fun t123 => ((annuletref20_Fresh.f k a0_0 a0_1 a0_2 a0_3 a1 a2).bind fun t124 => (annuletlaw20_SeenFresh.j0 k a1 a2 (t123 != (t124 == 12)) a0_0 a0_1 a0_2 a0_3))) else (annuletlaw20_SeenFresh.j0 k a1 a2 true a0_0 a0_1 a0_2 a0_3))) = some r := H
  have A6 := Aside0.mk A60
  clear A60
  replace H := Option.bind_eq_some_iff.mp H
  obtain ⟨t122, A70, H⟩ := H
  replace H : (if t121 = t122 then ((seen_Has.f a0_0 a0_1 a0_2 a0_3 a1 a2).bind fun t123 => ((annuletref20_Fresh.f k a0_0 a0_1 a0_2 a0_3 a1 a2).bind fun t124 => (annuletlaw20_SeenFresh.j0 k a1 a2 (t123 != (t124 == 12)) a0_0 a0_1 a0_2 a0_3))) else (annuletlaw20_SeenFresh.j0 k a1 a2 true a0_0 a0_1 a0_2 a0_3)) = some r := H
  have A7 := Aside0.mk A70
  clear A70
  by_cases c8 : t121 = t122
  ·rw [if_pos c8] at H
   have c8b0 : (t121 == t122) = true := beq_iff_eq.mpr c8
   have c8b1 : (t121 != t122) = false := bne_eq_false_iff_eq.mpr c8
   clear c8
   (first | rw [c8b0] | (simp only [i64_w, i32_w]; rw [c8b0]) | skip)
   replace H := Option.bind_eq_some_iff.mp H
   obtain ⟨t123, A90, H⟩ := H
   replace H : ((annuletref20_Fresh.f k a0_0 a0_1 a0_2 a0_3 a1 a2).bind fun t124 => (annuletlaw20_SeenFresh.j0 k a1 a2 (t123 != (t124 == 12)) a0_0 a0_1 a0_2 a0_3)) = some r := H
   have A9 := Aside0.mk A90
   clear A90
   replace H := Option.bind_eq_some_iff.mp H
   obtain ⟨t124, A100, H⟩ := H
   replace H : (annuletlaw20_SeenFresh.j0 k a1 a2 (t123 != (t124 == 12)) a0_0 a0_1 a0_2 a0_3) = some r := H
   have A10 := Aside0.mk A100
   clear A100
   have H' := Aside0.mk H
   clear H
   try go_wp2
   have n0_ := Aside0.mk (blk_drew BK120.out)
   have n1_ := Aside0.mk (below_drew1 HB.out)
   clear BK120
   clear HB
   have BK120 := n0_
   have HB := n1_
   clear n0_ n1_
   refine start_ (n := 21) (S := fun w' => w'.cell? ⟨gb120, 0, none⟩ = some (.bool a0_0) ∧ w'.cell? ⟨gb120, 1, none⟩ = some (.int .u32 a0_1) ∧ w'.cell? ⟨gb120, 2, none⟩ = some (.int .u32 a0_2) ∧ w'.cell? ⟨gb120, 3, none⟩ = some (.int .u64 a0_3)) (ds := []) #[false, false, false, false, false, false, false, false, false, false, false, false, false, false, false, false, false, false, false, false, false] (by kernel_rfl) rfl rfl ⟨(blk_cell BK120.out 0).trans rfl, (blk_cell BK120.out 1).trans rfl, (blk_cell BK120.out 2).trans rfl, (blk_cell BK120.out 3).trans rfl⟩ (fun hHeld => ?_); refine with_tabW annuletlaw20_SeenFresh.tab1 annuletlaw20_SeenFresh.bits1 (fun HT_ HW_ => ?_)
   generalize w5.drew = w11 at BK120 HB hHeld ⊢
   refine pure_ (i := 1) (N := some 10) (v := ?_) (a' := ?_) #[false, true, false, false, false, false, false, false, false, false, false, false, false, false, false, false, false, false, false, false, false] rfl rfl (any_of HT_.out (by kernel_rfl)) (fun _ _ _ h => h) (Or.inl ⟨by rfl, ?_⟩) ?_ ?_
   rotate_left
   ·intro w'
    go_simp
    with_reducible rfl
   rotate_left
   ·simp only [Act.put, List.setIfInBounds_toArray, List.set_cons_zero, List.set_cons_succ, i64_w, i32_w]
    rfl
   refine pure_ (i := 2) (N := some 11) (v := ?_) (a' := ?_) #[false, true, true, false, false, false, false, false, false, false, false, false, false, false, false, false, false, false, false, false, false] rfl rfl (any_of HT_.out (by kernel_rfl)) (fun _ _ _ h => h) (Or.inl ⟨by rfl, ?_⟩) ?_ ?_
   rotate_left
   ·intro w'
    go_simp
    with_reducible rfl
   rotate_left
   ·simp only [Act.put, List.setIfInBounds_toArray, List.set_cons_zero, List.set_cons_succ, i64_w, i32_w]
    rfl
   refine pure_ (i := 5) (N := some 14) (v := ?_) (a' := ?_) #[false, true, true, false, false, true, false, false, false, false, false, false, false, false, false, false, false, false, false, false, false] rfl rfl (any_of HT_.out (by kernel_rfl)) (fun _ _ _ h => h) (Or.inl ⟨by rfl, ?_⟩) ?_ ?_
   rotate_left
   ·intro w'
    go_simp
    with_reducible rfl
   rotate_left
   ·simp only [Act.put, List.setIfInBounds_toArray, List.set_cons_zero, List.set_cons_succ, i64_w, i32_w]
    rfl
   refine pure_ (i := 6) (N := some 15) (v := ?_) (a' := ?_) #[false, true, true, false, false, true, true, false, false, false, false, false, false, false, false, false, false, false, false, false, false] rfl rfl (any_of HT_.out (by kernel_rfl)) (fun _ _ _ h => h) (Or.inl ⟨by rfl, ?_⟩) ?_ ?_
   rotate_left
   ·intro w'
    go_simp
    with_reducible rfl
   rotate_left
   ·simp only [Act.put, List.setIfInBounds_toArray, List.set_cons_zero, List.set_cons_succ, i64_w, i32_w]
    rfl
   refine take_ (i := 0) (N := some 9) (v := ?_) (a' := ?_) #[true, true, true, false, false, true, true, false, false, false, false, false, false, false, false, false, false, false, false, false, false] rfl rfl (take_ofW HT_.out HW_.out (by kernel_rfl)) (fun _ _ _ h => h) (Or.inl ⟨by rfl, ?_⟩) hHeld ?_ ?_
   rotate_left
   ·rintro w' ⟨s0, s1, s2, s3⟩
    go_simp
    with_reducible rfl
   rotate_left
   ·simp only [Act.put, List.setIfInBounds_toArray, List.set_cons_zero, List.set_cons_succ, i64_w, i32_w]
    rfl
   refine take_ (i := 4) (N := some 13) (v := ?_) (a' := ?_) #[true, true, true, false, true, true, true, false, false, false, false, false, false, false, false, false, false, false, false, false, false] rfl rfl (take_ofW HT_.out HW_.out (by kernel_rfl)) (fun _ _ _ h => h) (Or.inl ⟨by rfl, ?_⟩) hHeld ?_ ?_
   rotate_left
   ·rintro w' ⟨s0, s1, s2, s3⟩
    go_simp
    with_reducible rfl
   rotate_left
   ·simp only [Act.put, List.setIfInBounds_toArray, List.set_cons_zero, List.set_cons_succ, i64_w, i32_w]
    rfl
   refine one_ (i := 3) (N := some 12) #[true, true, true, true, true, true, true, false, false, false, false, false, false, false, false, false, false, false, false, false, false] rfl rfl (one_of HT_.out (by kernel_rfl)) (by decide) (fun K hK => ?_)
   refine goes_ Try.func6 (by kernel_rfl) rfl #[.agg #[.bool a0_0, .int .u32 a0_1, .int .u32 a0_2, .int .u64 a0_3], .int .u32 a1, .int .u32 a2] (by rfl) rfl rfl (by (try simp only [List.map_toArray, List.map_cons, List.map_nil]); first | done | rfl | (simp only [List.length_drop, List.length_take]; rfl)) ?_
   with_reducible refine (seen_Fresh.calls a0_0 a0_1 a0_2 a0_3 a1 a2 t121 _ A6.out).mono ?_
   rintro e w12 ⟨rfl, hb⟩
   refine ⟨_, rfl, ?_⟩
   have n0_ := Aside0.mk (blk_below (g := gb120) (o := .cells #[.bool a0_0, .int .u32 a0_1, .int .u32 a0_2, .int .u64 a0_3] 25 (0, 0)) (by (with_reducible repeat (first | refine blk_drewN ?_ _ | refine blk_drew ?_ | refine blk_alloc ?_ _)); exact BK120.out) hb)
   have n1_ := Aside0.mk (below_step (by repeat (first | (with_reducible first | exact HB.out | apply below_alloc | apply pw_below_drewN | apply below_drew1 | refine below_set ?_ GE120.out) | exact HB.out)) hb)
   clear BK120
   clear HB
   have BK120 := n0_
   have HB := n1_
   clear n0_ n1_
   (try clear hb)
   (try clear hb2)
   (try clear hk)
   (try clear hi)
   refine hK.out _ _ ⟨(blk_cell BK120.out 0).trans rfl, (blk_cell BK120.out 1).trans rfl, (blk_cell BK120.out 2).trans rfl, (blk_cell BK120.out 3).trans rfl⟩ (fun hHeld => ?_)
   clear hK K
   refine norm_ (a' := ?_) ?_ ?_
   rotate_left
   ·show Act.put _ (some 12) _ = _
    simp only [Act.put, List.setIfInBounds_toArray, List.set_cons_zero, List.set_cons_succ, i64_w, i32_w]
    rfl
   refine one_ (i := 7) (N := some 16) #[true, true, true, true, true, true, true, true, false, false, false, false, false, false, false, false, false, false, false, false, false] rfl rfl (one_of HT_.out (by kernel_rfl)) (by decide) (fun K hK => ?_)
   refine goes_ Try.func7 (by kernel_rfl) rfl #[.agg #[.bool a0_0, .int .u32 a0_1, .int .u32 a0_2, .int .u64 a0_3], .int .u32 a1, .int .u32 a2] (by rfl) rfl rfl (by (try simp only [List.map_toArray, List.map_cons, List.map_nil]); first | done | rfl | (simp only [List.length_drop, List.length_take]; rfl)) ?_
   with_reducible refine (annuletref20_Fresh.calls k a0_0 a0_1 a0_2 a0_3 a1 a2 t122 _ A7.out).mono ?_
   rintro e w13 ⟨rfl, hb⟩
   refine ⟨_, rfl, ?_⟩
   have n0_ := Aside0.mk (blk_below (g := gb120) (o := .cells #[.bool a0_0, .int .u32 a0_1, .int .u32 a0_2, .int .u64 a0_3] 25 (0, 0)) (by (with_reducible repeat (first | refine blk_drewN ?_ _ | refine blk_drew ?_ | refine blk_alloc ?_ _)); exact BK120.out) hb)
   have n1_ := Aside0.mk (below_step (by repeat (first | (with_reducible first | exact HB.out | apply below_alloc | apply pw_below_drewN | apply below_drew1 | refine below_set ?_ GE120.out) | exact HB.out)) hb)
   clear BK120
   clear HB
   have BK120 := n0_
   have HB := n1_
   clear n0_ n1_
   (try clear hb)
   (try clear hb2)
   (try clear hk)
   (try clear hi)
   refine hK.out _ _ ⟨(blk_cell BK120.out 0).trans rfl, (blk_cell BK120.out 1).trans rfl, (blk_cell BK120.out 2).trans rfl, (blk_cell BK120.out 3).trans rfl⟩ (fun hHeld => ?_)
   clear hK K
   refine norm_ (a' := ?_) ?_ ?_
   rotate_left
   ·show Act.put _ (some 16) _ = _
    simp only [Act.put, List.setIfInBounds_toArray, List.set_cons_zero, List.set_cons_succ, i64_w, i32_w]
    rfl
   refine pure_ (i := 8) (N := some 17) (v := ?_) (a' := ?_) #[true, true, true, true, true, true, true, true, true, false, false, false, false, false, false, false, false, false, false, false, false] rfl rfl (any_of HT_.out (by kernel_rfl)) (fun _ _ _ h => h) (Or.inl ⟨by rfl, ?_⟩) ?_ ?_
   rotate_left
   ·intro w'
    go_simp
    with_reducible rfl
   rotate_left
   ·simp only [Act.put, List.setIfInBounds_toArray, List.set_cons_zero, List.set_cons_succ, i64_w, i32_w]
    rfl
   refine pure_ (i := 9) (N := some 18) (v := ?_) (a' := ?_) #[true, true, true, true, true, true, true, true, true, true, false, false, false, false, false, false, false, false, false, false, false] rfl rfl (any_of HT_.out (by kernel_rfl)) (fun _ _ _ h => h) (Or.inl ⟨by rfl, ?_⟩) ?_ ?_
   rotate_left
   ·intro w'
    go_simp
    with_reducible rfl
   rotate_left
   ·simp only [Act.put, List.setIfInBounds_toArray, List.set_cons_zero, List.set_cons_succ, i64_w, i32_w]
    rfl
   refine pure_ (i := 11) (N := some 20) (v := ?_) (a' := ?_) #[true, true, true, true, true, true, true, true, true, true, false, true, false, false, false, false, false, false, false, false, false] rfl rfl (any_of HT_.out (by kernel_rfl)) (fun _ _ _ h => h) (Or.inl ⟨by rfl, ?_⟩) ?_ ?_
   rotate_left
   ·intro w'
    go_simp
    with_reducible rfl
   rotate_left
   ·simp only [Act.put, List.setIfInBounds_toArray, List.set_cons_zero, List.set_cons_succ, i64_w, i32_w]
    rfl
   refine pure_ (i := 12) (N := some 21) (v := ?_) (a' := ?_) #[true, true, true, true, true, true, true, true, true, true, false, true, true, false, false, false, false, false, false, false, false] rfl rfl (any_of HT_.out (by kernel_rfl)) (fun _ _ _ h => h) (Or.inl ⟨by rfl, ?_⟩) ?_ ?_
   rotate_left
   ·intro w'
    go_simp
    with_reducible rfl
   rotate_left
   ·simp only [Act.put, List.setIfInBounds_toArray, List.set_cons_zero, List.set_cons_succ, i64_w, i32_w]
    rfl
   refine pure_ (i := 15) (N := some 24) (v := ?_) (a' := ?_) #[true, true, true, true, true, true, true, true, true, true, false, true, true, false, false, true, false, false, false, false, false] rfl rfl (any_of HT_.out (by kernel_rfl)) (fun _ _ _ h => h) (Or.inl ⟨by rfl, ?_⟩) ?_ ?_
   rotate_left
   ·intro w'
    go_simp
    with_reducible rfl
   rotate_left
   ·simp only [Act.put, List.setIfInBounds_toArray, List.set_cons_zero, List.set_cons_succ, i64_w, i32_w]
    rfl
   refine pure_ (i := 16) (N := some 25) (v := ?_) (a' := ?_) #[true, true, true, true, true, true, true, true, true, true, false, true, true, false, false, true, true, false, false, false, false] rfl rfl (any_of HT_.out (by kernel_rfl)) (fun _ _ _ h => h) (Or.inl ⟨by rfl, ?_⟩) ?_ ?_
   rotate_left
   ·intro w'
    go_simp
    with_reducible rfl
   rotate_left
   ·simp only [Act.put, List.setIfInBounds_toArray, List.set_cons_zero, List.set_cons_succ, i64_w, i32_w]
    rfl
   refine take_ (i := 10) (N := some 19) (v := ?_) (a' := ?_) #[true, true, true, true, true, true, true, true, true, true, true, true, true, false, false, true, true, false, false, false, false] rfl rfl (take_ofW HT_.out HW_.out (by kernel_rfl)) (fun _ _ _ h => h) (Or.inl ⟨by rfl, ?_⟩) hHeld ?_ ?_
   rotate_left
   ·rintro w' ⟨s0, s1, s2, s3⟩
    go_simp
    with_reducible rfl
   rotate_left
   ·simp only [Act.put, List.setIfInBounds_toArray, List.set_cons_zero, List.set_cons_succ, i64_w, i32_w]
    rfl
   refine take_ (i := 14) (N := some 23) (v := ?_) (a' := ?_) #[true, true, true, true, true, true, true, true, true, true, true, true, true, false, true, true, true, false, false, false, false] rfl rfl (take_ofW HT_.out HW_.out (by kernel_rfl)) (fun _ _ _ h => h) (Or.inl ⟨by rfl, ?_⟩) hHeld ?_ ?_
   rotate_left
   ·rintro w' ⟨s0, s1, s2, s3⟩
    go_simp
    with_reducible rfl
   rotate_left
   ·simp only [Act.put, List.setIfInBounds_toArray, List.set_cons_zero, List.set_cons_succ, i64_w, i32_w]
    rfl
   refine one_ (i := 13) (N := some 22) #[true, true, true, true, true, true, true, true, true, true, true, true, true, true, true, true, true, false, false, false, false] rfl rfl (one_of HT_.out (by kernel_rfl)) (by decide) (fun K hK => ?_)
   refine goes_ Try.func8 (by kernel_rfl) rfl #[.agg #[.bool a0_0, .int .u32 a0_1, .int .u32 a0_2, .int .u64 a0_3], .int .u32 a1, .int .u32 a2] (by rfl) rfl rfl (by (try simp only [List.map_toArray, List.map_cons, List.map_nil]); first | done | rfl | (simp only [List.length_drop, List.length_take]; rfl)) ?_
   with_reducible refine (seen_Has.calls a0_0 a0_1 a0_2 a0_3 a1 a2 t123 _ A9.out).mono ?_
   rintro e w14 ⟨rfl, hb⟩
   refine ⟨_, rfl, ?_⟩
   have n0_ := Aside0.mk (blk_below (g := gb120) (o := .cells #[.bool a0_0, .int .u32 a0_1, .int .u32 a0_2, .int .u64 a0_3] 25 (0, 0)) (by (with_reducible repeat (first | refine blk_drewN ?_ _ | refine blk_drew ?_ | refine blk_alloc ?_ _)); exact BK120.out) hb)
   have n1_ := Aside0.mk (below_step (by repeat (first | (with_reducible first | exact HB.out | apply below_alloc | apply pw_below_drewN | apply below_drew1 | refine below_set ?_ GE120.out) | exact HB.out)) hb)
   clear BK120
   clear HB
   have BK120 := n0_
   have HB := n1_
   clear n0_ n1_
   (try clear hb)
   (try clear hb2)
   (try clear hk)
   (try clear hi)
   refine hK.out _ _ ⟨(blk_cell BK120.out 0).trans rfl, (blk_cell BK120.out 1).trans rfl, (blk_cell BK120.out 2).trans rfl, (blk_cell BK120.out 3).trans rfl⟩ (fun hHeld => ?_)
   clear hK K
   refine norm_ (a' := ?_) ?_ ?_
   rotate_left
   ·show Act.put _ (some 22) _ = _
    simp only [Act.put, List.setIfInBounds_toArray, List.set_cons_zero, List.set_cons_succ, i64_w, i32_w]
    rfl
   refine one_ (i := 17) (N := some 26) #[true, true, true, true, true, true, true, true, true, true, true, true, true, true, true, true, true, true, false, false, false] rfl rfl (one_of HT_.out (by kernel_rfl)) (by decide) (fun K hK => ?_)
   refine goes_ Try.func7 (by kernel_rfl) rfl #[.agg #[.bool a0_0, .int .u32 a0_1, .int .u32 a0_2, .int .u64 a0_3], .int .u32 a1, .int .u32 a2] (by rfl) rfl rfl (by (try simp only [List.map_toArray, List.map_cons, List.map_nil]); first | done | rfl | (simp only [List.length_drop, List.length_take]; rfl)) ?_
   with_reducible refine (annuletref20_Fresh.calls k a0_0 a0_1 a0_2 a0_3 a1 a2 t124 _ A10.out).mono ?_
   rintro e w15 ⟨rfl, hb⟩
   refine ⟨_, rfl, ?_⟩
   have n0_ := Aside0.mk (blk_below (g := gb120) (o := .cells #[.bool a0_0, .int .u32 a0_1, .int .u32 a0_2, .int .u64 a0_3] 25 (0, 0)) (by (with_reducible repeat (first | refine blk_drewN ?_ _ | refine blk_drew ?_ | refine blk_alloc ?_ _)); exact BK120.out) hb)
   have n1_ := Aside0.mk (below_step (by repeat (first | (with_reducible first | exact HB.out | apply below_alloc | apply pw_below_drewN | apply below_drew1 | refine below_set ?_ GE120.out) | exact HB.out)) hb)
   clear BK120
   clear HB
   have BK120 := n0_
   have HB := n1_
   clear n0_ n1_
   (try clear hb)
   (try clear hb2)
   (try clear hk)
   (try clear hi)
   refine hK.out _ _ ⟨(blk_cell BK120.out 0).trans rfl, (blk_cell BK120.out 1).trans rfl, (blk_cell BK120.out 2).trans rfl, (blk_cell BK120.out 3).trans rfl⟩ (fun hHeld => ?_)
   clear hK K
   refine norm_ (a' := ?_) ?_ ?_
   rotate_left
   ·show Act.put _ (some 26) _ = _
    simp only [Act.put, List.setIfInBounds_toArray, List.set_cons_zero, List.set_cons_succ, i64_w, i32_w]
    rfl
   refine pure_ (i := 18) (N := some 27) (v := ?_) (a' := ?_) #[true, true, true, true, true, true, true, true, true, true, true, true, true, true, true, true, true, true, true, false, false] rfl rfl (any_of HT_.out (by kernel_rfl)) (fun _ _ _ h => h) (Or.inl ⟨by rfl, ?_⟩) ?_ ?_
   rotate_left
   ·intro w'
    go_simp
    with_reducible rfl
   rotate_left
   ·simp only [Act.put, List.setIfInBounds_toArray, List.set_cons_zero, List.set_cons_succ, i64_w, i32_w]
    rfl
   refine pure_ (i := 19) (N := some 28) (v := ?_) (a' := ?_) #[true, true, true, true, true, true, true, true, true, true, true, true, true, true, true, true, true, true, true, true, false] rfl rfl (any_of HT_.out (by kernel_rfl)) (fun _ _ _ h => h) (Or.inl ⟨by rfl, ?_⟩) ?_ ?_
   rotate_left
   ·intro w'
    go_simp
    with_reducible rfl
   rotate_left
   ·simp only [Act.put, List.setIfInBounds_toArray, List.set_cons_zero, List.set_cons_succ, i64_w, i32_w]
    rfl
   refine pure_ (i := 20) (N := some 29) (v := ?_) (a' := ?_) #[true, true, true, true, true, true, true, true, true, true, true, true, true, true, true, true, true, true, true, true, true] rfl rfl (any_of HT_.out (by kernel_rfl)) (fun _ _ _ h => h) (Or.inl ⟨by rfl, ?_⟩) ?_ ?_
   rotate_left
   ·intro w'
    go_simp
    with_reducible rfl
   rotate_left
   ·simp only [Act.put, List.setIfInBounds_toArray, List.set_cons_zero, List.set_cons_succ, i64_w, i32_w]
    rfl
   refine done_ (done_of HT_.out (by kernel_rfl)) ?_
   try go_wp2
   go_meet
   case rel => exact ⟨_, ((t123 != (t124 == 12))), (by first | rfl | (simp; done) | (simp [*]; done)), H', ⟨by first | omega | exact Nat.le_refl _⟩, ⟨by (with_reducible repeat (first | refine blk_drewN ?_ _ | refine blk_drew ?_ | refine blk_alloc ?_ _)); exact BK120.out⟩, ⟨by repeat (first | (with_reducible first | exact HB.out | apply below_alloc | apply pw_below_drewN | apply below_drew1 | refine below_set ?_ GE120.out) | exact HB.out)⟩⟩
  ·rw [if_neg c8] at H
   have c8b0 : (t121 == t122) = false := beq_eq_false_iff_ne.mpr c8
   have c8b1 : (t121 != t122) = true := bne_iff_ne.mpr c8
   (first | rw [c8b0] | (simp only [i64_w, i32_w]; rw [c8b0]) | skip)
   have H' := Aside0.mk H
   clear H
   try go_wp2
   have n0_ := Aside0.mk (blk_drew BK120.out)
   have n1_ := Aside0.mk (below_drew1 HB.out)
   clear BK120
   clear HB
   have BK120 := n0_
   have HB := n1_
   clear n0_ n1_
   refine start_ (n := 21) (S := fun w' => w'.cell? ⟨gb120, 0, none⟩ = some (.bool a0_0) ∧ w'.cell? ⟨gb120, 1, none⟩ = some (.int .u32 a0_1) ∧ w'.cell? ⟨gb120, 2, none⟩ = some (.int .u32 a0_2) ∧ w'.cell? ⟨gb120, 3, none⟩ = some (.int .u64 a0_3)) (ds := []) #[false, false, false, false, false, false, false, false, false, false, false, false, false, false, false, false, false, false, false, false, false] (by kernel_rfl) rfl rfl ⟨(blk_cell BK120.out 0).trans rfl, (blk_cell BK120.out 1).trans rfl, (blk_cell BK120.out 2).trans rfl, (blk_cell BK120.out 3).trans rfl⟩ (fun hHeld => ?_); refine with_tabW annuletlaw20_SeenFresh.tab1 annuletlaw20_SeenFresh.bits1 (fun HT_ HW_ => ?_)
   generalize w5.drew = w16 at BK120 HB hHeld ⊢
   refine pure_ (i := 1) (N := some 10) (v := ?_) (a' := ?_) #[false, true, false, false, false, false, false, false, false, false, false, false, false, false, false, false, false, false, false, false, false] rfl rfl (any_of HT_.out (by kernel_rfl)) (fun _ _ _ h => h) (Or.inl ⟨by rfl, ?_⟩) ?_ ?_
   rotate_left
   ·intro w'
    go_simp
    with_reducible rfl
   rotate_left
   ·simp only [Act.put, List.setIfInBounds_toArray, List.set_cons_zero, List.set_cons_succ, i64_w, i32_w]
    rfl
   refine pure_ (i := 2) (N := some 11) (v := ?_) (a' := ?_) #[false, true, true, false, false, false, false, false, false, false, false, false, false, false, false, false, false, false, false, false, false] rfl rfl (any_of HT_.out (by kernel_rfl)) (fun _ _ _ h => h) (Or.inl ⟨by rfl, ?_⟩) ?_ ?_
   rotate_left
   ·intro w'
    go_simp
    with_reducible rfl
   rotate_left
   ·simp only [Act.put, List.setIfInBounds_toArray, List.set_cons_zero, List.set_cons_succ, i64_w, i32_w]
    rfl
   refine pure_ (i := 5) (N := some 14) (v := ?_) (a' := ?_) #[false, true, true, false, false, true, false, false, false, false, false, false, false, false, false, false, false, false, false, false, false] rfl rfl (any_of HT_.out (by kernel_rfl)) (fun _ _ _ h => h) (Or.inl ⟨by rfl, ?_⟩) ?_ ?_
   rotate_left
   ·intro w'
    go_simp
    with_reducible rfl
   rotate_left
   ·simp only [Act.put, List.setIfInBounds_toArray, List.set_cons_zero, List.set_cons_succ, i64_w, i32_w]
    rfl
   refine pure_ (i := 6) (N := some 15) (v := ?_) (a' := ?_) #[false, true, true, false, false, true, true, false, false, false, false, false, false, false, false, false, false, false, false, false, false] rfl rfl (any_of HT_.out (by kernel_rfl)) (fun _ _ _ h => h) (Or.inl ⟨by rfl, ?_⟩) ?_ ?_
   rotate_left
   ·intro w'
    go_simp
    with_reducible rfl
   rotate_left
   ·simp only [Act.put, List.setIfInBounds_toArray, List.set_cons_zero, List.set_cons_succ, i64_w, i32_w]
    rfl
   refine take_ (i := 0) (N := some 9) (v := ?_) (a' := ?_) #[true, true, true, false, false, true, true, false, false, false, false, false, false, false, false, false, false, false, false, false, false] rfl rfl (take_ofW HT_.out HW_.out (by kernel_rfl)) (fun _ _ _ h => h) (Or.inl ⟨by rfl, ?_⟩) hHeld ?_ ?_
   rotate_left
   ·rintro w' ⟨s0, s1, s2, s3⟩
    go_simp
    with_reducible rfl
   rotate_left
   ·simp only [Act.put, List.setIfInBounds_toArray, List.set_cons_zero, List.set_cons_succ, i64_w, i32_w]
    rfl
   refine take_ (i := 4) (N := some 13) (v := ?_) (a' := ?_) #[true, true, true, false, true, true, true, false, false, false, false, false, false, false, false, false, false, false, false, false, false] rfl rfl (take_ofW HT_.out HW_.out (by kernel_rfl)) (fun _ _ _ h => h) (Or.inl ⟨by rfl, ?_⟩) hHeld ?_ ?_
   rotate_left
   ·rintro w' ⟨s0, s1, s2, s3⟩
    go_simp
    with_reducible rfl
   rotate_left
   ·simp only [Act.put, List.setIfInBounds_toArray, List.set_cons_zero, List.set_cons_succ, i64_w, i32_w]
    rfl
   refine one_ (i := 3) (N := some 12) #[true, true, true, true, true, true, true, false, false, false, false, false, false, false, false, false, false, false, false, false, false] rfl rfl (one_of HT_.out (by kernel_rfl)) (by decide) (fun K hK => ?_)
   refine goes_ Try.func6 (by kernel_rfl) rfl #[.agg #[.bool a0_0, .int .u32 a0_1, .int .u32 a0_2, .int .u64 a0_3], .int .u32 a1, .int .u32 a2] (by rfl) rfl rfl (by (try simp only [List.map_toArray, List.map_cons, List.map_nil]); first | done | rfl | (simp only [List.length_drop, List.length_take]; rfl)) ?_
   with_reducible refine (seen_Fresh.calls a0_0 a0_1 a0_2 a0_3 a1 a2 t121 _ A6.out).mono ?_
   rintro e w17 ⟨rfl, hb⟩
   refine ⟨_, rfl, ?_⟩
   have n0_ := Aside0.mk (blk_below (g := gb120) (o := .cells #[.bool a0_0, .int .u32 a0_1, .int .u32 a0_2, .int .u64 a0_3] 25 (0, 0)) (by (with_reducible repeat (first | refine blk_drewN ?_ _ | refine blk_drew ?_ | refine blk_alloc ?_ _)); exact BK120.out) hb)
   have n1_ := Aside0.mk (below_step (by repeat (first | (with_reducible first | exact HB.out | apply below_alloc | apply pw_below_drewN | apply below_drew1 | refine below_set ?_ GE120.out) | exact HB.out)) hb)
   clear BK120
   clear HB
   have BK120 := n0_
   have HB := n1_
   clear n0_ n1_
   (try clear hb)
   (try clear hb2)
   (try clear hk)
   (try clear hi)
   refine hK.out _ _ ⟨(blk_cell BK120.out 0).trans rfl, (blk_cell BK120.out 1).trans rfl, (blk_cell BK120.out 2).trans rfl, (blk_cell BK120.out 3).trans rfl⟩ (fun hHeld => ?_)
   clear hK K
   refine norm_ (a' := ?_) ?_ ?_
   rotate_left
   ·show Act.put _ (some 12) _ = _
    simp only [Act.put, List.setIfInBounds_toArray, List.set_cons_zero, List.set_cons_succ, i64_w, i32_w]
    rfl
   refine one_ (i := 7) (N := some 16) #[true, true, true, true, true, true, true, true, false, false, false, false, false, false, false, false, false, false, false, false, false] rfl rfl (one_of HT_.out (by kernel_rfl)) (by decide) (fun K hK => ?_)
   refine goes_ Try.func7 (by kernel_rfl) rfl #[.agg #[.bool a0_0, .int .u32 a0_1, .int .u32 a0_2, .int .u64 a0_3], .int .u32 a1, .int .u32 a2] (by rfl) rfl rfl (by (try simp only [List.map_toArray, List.map_cons, List.map_nil]); first | done | rfl | (simp only [List.length_drop, List.length_take]; rfl)) ?_
   with_reducible refine (annuletref20_Fresh.calls k a0_0 a0_1 a0_2 a0_3 a1 a2 t122 _ A7.out).mono ?_
   rintro e w18 ⟨rfl, hb⟩
   refine ⟨_, rfl, ?_⟩
   have n0_ := Aside0.mk (blk_below (g := gb120) (o := .cells #[.bool a0_0, .int .u32 a0_1, .int .u32 a0_2, .int .u64 a0_3] 25 (0, 0)) (by (with_reducible repeat (first | refine blk_drewN ?_ _ | refine blk_drew ?_ | refine blk_alloc ?_ _)); exact BK120.out) hb)
   have n1_ := Aside0.mk (below_step (by repeat (first | (with_reducible first | exact HB.out | apply below_alloc | apply pw_below_drewN | apply below_drew1 | refine below_set ?_ GE120.out) | exact HB.out)) hb)
   clear BK120
   clear HB
   have BK120 := n0_
   have HB := n1_
   clear n0_ n1_
   (try clear hb)
   (try clear hb2)
   (try clear hk)
   (try clear hi)
   refine hK.out _ _ ⟨(blk_cell BK120.out 0).trans rfl, (blk_cell BK120.out 1).trans rfl, (blk_cell BK120.out 2).trans rfl, (blk_cell BK120.out 3).trans rfl⟩ (fun hHeld => ?_)
   clear hK K
   refine norm_ (a' := ?_) ?_ ?_
   rotate_left
   ·show Act.put _ (some 16) _ = _
    simp only [Act.put, List.setIfInBounds_toArray, List.set_cons_zero, List.set_cons_succ, i64_w, i32_w]
    rfl
   refine pure_ (i := 8) (N := some 17) (v := ?_) (a' := ?_) #[true, true, true, true, true, true, true, true, true, false, false, false, false, false, false, false, false, false, false, false, false] rfl rfl (any_of HT_.out (by kernel_rfl)) (fun _ _ _ h => h) (Or.inl ⟨by rfl, ?_⟩) ?_ ?_
   rotate_left
   ·intro w'
    go_simp
    with_reducible rfl
   rotate_left
   ·simp only [Act.put, List.setIfInBounds_toArray, List.set_cons_zero, List.set_cons_succ, i64_w, i32_w]
    rfl
   refine pure_ (i := 9) (N := some 18) (v := ?_) (a' := ?_) #[true, true, true, true, true, true, true, true, true, true, false, false, false, false, false, false, false, false, false, false, false] rfl rfl (any_of HT_.out (by kernel_rfl)) (fun _ _ _ h => h) (Or.inl ⟨by rfl, ?_⟩) ?_ ?_
   rotate_left
   ·intro w'
    go_simp
    with_reducible rfl
   rotate_left
   ·simp only [Act.put, List.setIfInBounds_toArray, List.set_cons_zero, List.set_cons_succ, i64_w, i32_w]
    rfl
   refine pure_ (i := 10) (N := some 19) (v := undef) (a' := ?_) #[true, true, true, true, true, true, true, true, true, true, true, false, false, false, false, false, false, false, false, false, false] rfl rfl (any_of HT_.out (by kernel_rfl)) (fun _ _ _ h => h) (Or.inr ⟨by rfl, rfl⟩) ?_ ?_
   rotate_left
   ·simp only [Act.put, List.setIfInBounds_toArray, List.set_cons_zero, List.set_cons_succ, i64_w, i32_w]
    rfl
   refine pure_ (i := 11) (N := some 20) (v := undef) (a' := ?_) #[true, true, true, true, true, true, true, true, true, true, true, true, false, false, false, false, false, false, false, false, false] rfl rfl (any_of HT_.out (by kernel_rfl)) (fun _ _ _ h => h) (Or.inr ⟨by rfl, rfl⟩) ?_ ?_
   rotate_left
   ·simp only [Act.put, List.setIfInBounds_toArray, List.set_cons_zero, List.set_cons_succ, i64_w, i32_w]
    rfl
   refine pure_ (i := 12) (N := some 21) (v := undef) (a' := ?_) #[true, true, true, true, true, true, true, true, true, true, true, true, true, false, false, false, false, false, false, false, false] rfl rfl (any_of HT_.out (by kernel_rfl)) (fun _ _ _ h => h) (Or.inr ⟨by rfl, rfl⟩) ?_ ?_
   rotate_left
   ·simp only [Act.put, List.setIfInBounds_toArray, List.set_cons_zero, List.set_cons_succ, i64_w, i32_w]
    rfl
   refine pure_ (i := 13) (N := some 22) (v := undef) (a' := ?_) #[true, true, true, true, true, true, true, true, true, true, true, true, true, true, false, false, false, false, false, false, false] rfl rfl (any_of HT_.out (by kernel_rfl)) (fun _ _ _ h => h) (Or.inr ⟨by rfl, rfl⟩) ?_ ?_
   rotate_left
   ·simp only [Act.put, List.setIfInBounds_toArray, List.set_cons_zero, List.set_cons_succ, i64_w, i32_w]
    rfl
   refine pure_ (i := 14) (N := some 23) (v := undef) (a' := ?_) #[true, true, true, true, true, true, true, true, true, true, true, true, true, true, true, false, false, false, false, false, false] rfl rfl (any_of HT_.out (by kernel_rfl)) (fun _ _ _ h => h) (Or.inr ⟨by rfl, rfl⟩) ?_ ?_
   rotate_left
   ·simp only [Act.put, List.setIfInBounds_toArray, List.set_cons_zero, List.set_cons_succ, i64_w, i32_w]
    rfl
   refine pure_ (i := 15) (N := some 24) (v := undef) (a' := ?_) #[true, true, true, true, true, true, true, true, true, true, true, true, true, true, true, true, false, false, false, false, false] rfl rfl (any_of HT_.out (by kernel_rfl)) (fun _ _ _ h => h) (Or.inr ⟨by rfl, rfl⟩) ?_ ?_
   rotate_left
   ·simp only [Act.put, List.setIfInBounds_toArray, List.set_cons_zero, List.set_cons_succ, i64_w, i32_w]
    rfl
   refine pure_ (i := 16) (N := some 25) (v := undef) (a' := ?_) #[true, true, true, true, true, true, true, true, true, true, true, true, true, true, true, true, true, false, false, false, false] rfl rfl (any_of HT_.out (by kernel_rfl)) (fun _ _ _ h => h) (Or.inr ⟨by rfl, rfl⟩) ?_ ?_
   rotate_left
   ·simp only [Act.put, List.setIfInBounds_toArray, List.set_cons_zero, List.set_cons_succ, i64_w, i32_w]
    rfl
   refine pure_ (i := 17) (N := some 26) (v := undef) (a' := ?_) #[true, true, true, true, true, true, true, true, true, true, true, true, true, true, true, true, true, true, false, false, false] rfl rfl (any_of HT_.out (by kernel_rfl)) (fun _ _ _ h => h) (Or.inr ⟨by rfl, rfl⟩) ?_ ?_
   rotate_left
   ·simp only [Act.put, List.setIfInBounds_toArray, List.set_cons_zero, List.set_cons_succ, i64_w, i32_w]
    rfl
   refine pure_ (i := 18) (N := some 27) (v := undef) (a' := ?_) #[true, true, true, true, true, true, true, true, true, true, true, true, true, true, true, true, true, true, true, false, false] rfl rfl (any_of HT_.out (by kernel_rfl)) (fun _ _ _ h => h) (Or.inr ⟨by rfl, rfl⟩) ?_ ?_
   rotate_left
   ·simp only [Act.put, List.setIfInBounds_toArray, List.set_cons_zero, List.set_cons_succ, i64_w, i32_w]
    rfl
   refine pure_ (i := 19) (N := some 28) (v := undef) (a' := ?_) #[true, true, true, true, true, true, true, true, true, true, true, true, true, true, true, true, true, true, true, true, false] rfl rfl (any_of HT_.out (by kernel_rfl)) (fun _ _ _ h => h) (Or.inr ⟨by rfl, rfl⟩) ?_ ?_
   rotate_left
   ·simp only [Act.put, List.setIfInBounds_toArray, List.set_cons_zero, List.set_cons_succ, i64_w, i32_w]
    rfl
   refine pure_ (i := 20) (N := some 29) (v := ?_) (a' := ?_) #[true, true, true, true, true, true, true, true, true, true, true, true, true, true, true, true, true, true, true, true, true] rfl rfl (any_of HT_.out (by kernel_rfl)) (fun _ _ _ h => h) (Or.inl ⟨by rfl, ?_⟩) ?_ ?_
   rotate_left
   ·intro w'
    go_simp
    with_reducible rfl
   rotate_left
   ·simp only [Act.put, List.setIfInBounds_toArray, List.set_cons_zero, List.set_cons_succ, i64_w, i32_w]
    rfl
   refine done_ (done_of HT_.out (by kernel_rfl)) ?_
   try go_wp2
   go_meet
   case rel => exact ⟨_, (true), (by first | rfl | (simp; done) | (simp [*]; done)), H', ⟨by first | omega | exact Nat.le_refl _⟩, ⟨by (with_reducible repeat (first | refine blk_drewN ?_ _ | refine blk_drew ?_ | refine blk_alloc ?_ _)); exact BK120.out⟩, ⟨by repeat (first | (with_reducible first | exact HB.out | apply below_alloc | apply pw_below_drewN | apply below_drew1 | refine below_set ?_ GE120.out) | exact HB.out)⟩⟩
 case rest =>
  clear HC4
  try clear p2
  try clear c3
  try clear c6
  try clear c7
  try clear c8
  try clear c8b0
  try clear c8b1
  obtain ⟨kq, x29_3, rfl, HA, HJ3, BK120, HB⟩ := hcut
  cases kq with
  | zero => exact absurd HA.out (by simp [annuletlaw20_SeenFresh.j0])
  | succ kj3 =>
   have H := HA.out
   clear HA
   simp only [annuletlaw20_SeenFresh.j0] at H
   by_cases c19 : x29_3 = true
   ·subst c19
    have H1 : (none) = some r := by rw [if_pos rfl] at H; exact H
    clear H
    have H := H1
    clear H1
    exact absurd H (by simp)
   ·replace c19 := Bool.eq_false_iff.mpr c19
    subst c19
    have H1 : ((seen_Mark.f a0_0 a0_1 a0_2 a0_3 a1 a2).bind fun bt125 => ((annuletref20_Mark.f kj3 a0_0 a0_1 a0_2 a0_3 a1 a2).bind fun bt129 => (if (bt125.1 == bt129.1 && (bt125.2.1 == bt129.2.1 && (bt125.2.2.1 == bt129.2.2.1 && (bt125.2.2.2 == bt129.2.2.2)))) = true then (if (bt125.1 == bt129.1) = true then (if bt125.2.1 = bt129.2.1 then (if bt125.2.2.1 = bt129.2.2.1 then ((annuletlaw20_awake.f).bind fun t135 => (some t135)) else (none)) else (none)) else (none)) else (if a0_0 = true then (if a0_2 < 64 then (if (bt125.1 == bt129.1) = true then (if bt125.2.1 = bt129.2.1 then (if bt125.2.2.1 = bt129.2.2.1 then ((annuletlaw20_awake.f).bind fun t136 => (some t136)) else (none)) else (none)) else (none)) else (none)) else (none))))) = some r := by rw [if_neg (show ¬ (false = true) by decide)] at H; exact H
    clear H
    have H := H1
    clear H1
    replace H := Option.bind_eq_some_iff.mp H
    obtain ⟨⟨t125, t126, t127, t128⟩, A200, H⟩ := H
    replace H : ((annuletref20_Mark.f kj3 a0_0 a0_1 a0_2 a0_3 a1 a2).bind fun bt129 => (if (t125 == bt129.1 && (t126 == bt129.2.1 && (t127 == bt129.2.2.1 && (t128 == bt129.2.2.2)))) = true then (if (t125 == bt129.1) = true then (if t126 = bt129.2.1 then (if t127 = bt129.2.2.1 then ((annuletlaw20_awake.f).bind fun t135 => (some t135)) else (none)) else (none)) else (none)) else (if a0_0 = true then (if a0_2 < 64 then (if (t125 == bt129.1) = true then (if t126 = bt129.2.1 then (if t127 = bt129.2.2.1 then ((annuletlaw20_awake.f).bind fun t136 => (some t136)) else (none)) else (none)) else (none)) else (none)) else (none)))) = some r := H
    have A20 := Aside0.mk A200
    clear A200
    replace H := Option.bind_eq_some_iff.mp H
    obtain ⟨⟨t129, t130, t131, t132⟩, A210, H⟩ := H
    replace H : (if (t125 == t129 && (t126 == t130 && (t127 == t131 && (t128 == t132)))) = true then (if (t125 == t129) = true then (if t126 = t130 then (if t127 = t131 then ((annuletlaw20_awake.f).bind fun t135 => (some t135)) else (none)) else (none)) else (none)) else (if a0_0 = true then (if a0_2 < 64 then (if (t125 == t129) = true then (if t126 = t130 then (if t127 = t131 then ((annuletlaw20_awake.f).bind fun t136 => (some t136)) else (none)) else (none)) else (none)) else (none)) else (none))) = some r := H
    have A21 := Aside0.mk A210
    clear A210
    by_cases c22 : (t125 == t129 && (t126 == t130 && (t127 == t131 && (t128 == t132)))) = true
    ·rw [if_pos c22] at H
     have c22b0 : (t125 == t129 && (t126 == t130 && (t127 == t131 && (t128 == t132)))) = true := c22
     (try (have c22b1 : decide (t125 = t129 && (t126 == t130 && (t127 == t131 && (t128 == t132)))) = true := by simpa using c22))
     (try (have c22b2 : (t125 == t129 && (t126 == t130 && (t127 == t131 && (t128 == t132)))) = true := by simpa using c22))
     clear c22
     by_cases c23 : (t125 == t129) = true
     ·rw [if_pos c23] at H
      have c23b0 : (t125 == t129) = true := c23
      (try (have c23b1 : decide (t125 = t129) = true := by simpa using c23))
      (try (have c23b2 : (t125 == t129) = true := by simpa using c23))
      clear c23
      by_cases c24 : t126 = t130
      ·rw [if_pos c24] at H
       have c24b0 : (t126 == t130) = true := beq_iff_eq.mpr c24
       have c24b1 : (t126 != t130) = false := bne_eq_false_iff_eq.mpr c24
       clear c24
       by_cases c25 : t127 = t131
       ·rw [if_pos c25] at H
        have c25b0 : (t127 == t131) = true := beq_iff_eq.mpr c25
        have c25b1 : (t127 != t131) = false := bne_eq_false_iff_eq.mpr c25
        clear c25
        replace H := Option.bind_eq_some_iff.mp H
        obtain ⟨t135, A260, H⟩ := H
        replace H : (some t135) = some r := H
        have A26 := Aside0.mk A260
        clear A260
        obtain rfl := Option.some.inj H
        try go_wp2
        have n0_ := Aside0.mk (blk_drew BK120.out)
        have n1_ := Aside0.mk (below_drew1 HB.out)
        clear BK120
        clear HB
        have BK120 := n0_
        have HB := n1_
        clear n0_ n1_
        refine start_ (n := 12) (S := fun w' => w'.cell? ⟨gb120, 0, none⟩ = some (.bool a0_0) ∧ w'.cell? ⟨gb120, 1, none⟩ = some (.int .u32 a0_1) ∧ w'.cell? ⟨gb120, 2, none⟩ = some (.int .u32 a0_2) ∧ w'.cell? ⟨gb120, 3, none⟩ = some (.int .u64 a0_3)) (ds := []) #[false, false, false, false, false, false, false, false, false, false, false, false] (by kernel_rfl) rfl rfl ⟨(blk_cell BK120.out 0).trans rfl, (blk_cell BK120.out 1).trans rfl, (blk_cell BK120.out 2).trans rfl, (blk_cell BK120.out 3).trans rfl⟩ (fun hHeld => ?_); refine with_tabW annuletlaw20_SeenFresh.tab3 annuletlaw20_SeenFresh.bits3 (fun HT_ HW_ => ?_)
        generalize wc.drew = w27 at BK120 HB hHeld ⊢
        refine pure_ (i := 1) (N := some 31) (v := ?_) (a' := ?_) #[false, true, false, false, false, false, false, false, false, false, false, false] rfl rfl (any_of HT_.out (by kernel_rfl)) (fun _ _ _ h => h) (Or.inl ⟨by rfl, ?_⟩) ?_ ?_
        rotate_left
        ·intro w'
         go_simp
         with_reducible rfl
        rotate_left
        ·simp only [Act.put, List.setIfInBounds_toArray, List.set_cons_zero, List.set_cons_succ, i64_w, i32_w]
         rfl
        refine pure_ (i := 2) (N := some 32) (v := ?_) (a' := ?_) #[false, true, true, false, false, false, false, false, false, false, false, false] rfl rfl (any_of HT_.out (by kernel_rfl)) (fun _ _ _ h => h) (Or.inl ⟨by rfl, ?_⟩) ?_ ?_
        rotate_left
        ·intro w'
         go_simp
         with_reducible rfl
        rotate_left
        ·simp only [Act.put, List.setIfInBounds_toArray, List.set_cons_zero, List.set_cons_succ, i64_w, i32_w]
         rfl
        refine pure_ (i := 5) (N := some 35) (v := ?_) (a' := ?_) #[false, true, true, false, false, true, false, false, false, false, false, false] rfl rfl (any_of HT_.out (by kernel_rfl)) (fun _ _ _ h => h) (Or.inl ⟨by rfl, ?_⟩) ?_ ?_
        rotate_left
        ·intro w'
         go_simp
         with_reducible rfl
        rotate_left
        ·simp only [Act.put, List.setIfInBounds_toArray, List.set_cons_zero, List.set_cons_succ, i64_w, i32_w]
         rfl
        refine pure_ (i := 6) (N := some 36) (v := ?_) (a' := ?_) #[false, true, true, false, false, true, true, false, false, false, false, false] rfl rfl (any_of HT_.out (by kernel_rfl)) (fun _ _ _ h => h) (Or.inl ⟨by rfl, ?_⟩) ?_ ?_
        rotate_left
        ·intro w'
         go_simp
         with_reducible rfl
        rotate_left
        ·simp only [Act.put, List.setIfInBounds_toArray, List.set_cons_zero, List.set_cons_succ, i64_w, i32_w]
         rfl
        refine take_ (i := 0) (N := some 30) (v := ?_) (a' := ?_) #[true, true, true, false, false, true, true, false, false, false, false, false] rfl rfl (take_ofW HT_.out HW_.out (by kernel_rfl)) (fun _ _ _ h => h) (Or.inl ⟨by rfl, ?_⟩) hHeld ?_ ?_
        rotate_left
        ·rintro w' ⟨s0, s1, s2, s3⟩
         go_simp
         with_reducible rfl
        rotate_left
        ·simp only [Act.put, List.setIfInBounds_toArray, List.set_cons_zero, List.set_cons_succ, i64_w, i32_w]
         rfl
        refine take_ (i := 4) (N := some 34) (v := ?_) (a' := ?_) #[true, true, true, false, true, true, true, false, false, false, false, false] rfl rfl (take_ofW HT_.out HW_.out (by kernel_rfl)) (fun _ _ _ h => h) (Or.inl ⟨by rfl, ?_⟩) hHeld ?_ ?_
        rotate_left
        ·rintro w' ⟨s0, s1, s2, s3⟩
         go_simp
         with_reducible rfl
        rotate_left
        ·simp only [Act.put, List.setIfInBounds_toArray, List.set_cons_zero, List.set_cons_succ, i64_w, i32_w]
         rfl
        refine join_ (σ := Nat × Nat) 2 #[true, true, true, true, true, true, true, true, true, true, false, false] (fun s_ => [(33, .agg #[.bool t125, .int .u32 t126, .int .u32 t127, .int .u64 t128]), (37, .agg #[.bool t129, .int .u32 t130, .int .u32 t131, .int .u64 t132]), (7, .pointer (some ⟨s_.1, 0, none⟩)), (8, .pointer (some ⟨s_.2, 0, none⟩))]) (fun s_ w' => (w'.cell? ⟨gb120, 0, none⟩ = some (.bool a0_0) ∧ w'.cell? ⟨gb120, 1, none⟩ = some (.int .u32 a0_1) ∧ w'.cell? ⟨gb120, 2, none⟩ = some (.int .u32 a0_2) ∧ w'.cell? ⟨gb120, 3, none⟩ = some (.int .u64 a0_3)) ∧ (w'.heap[gb120]? = some (.cells #[.bool a0_0, .int .u32 a0_1, .int .u32 a0_2, .int .u64 a0_3] 25 (0, 0))) ∧ (w'.heap[s_.1]? = some (.cells #[.bool false, .int .u32 0, .int .u32 0, .int .u64 0] 25 (0, 0))) ∧ (w'.heap[s_.2]? = some (.cells #[.bool false, .int .u32 0, .int .u32 0, .int .u64 0] 25 (0, 0))) ∧ (w.heap.size ≤ s_.1) ∧ (w.heap.size ≤ s_.1) ∧ (gb120 ≠ s_.1) ∧ (s_.1 ≠ gb120) ∧ (s_.2 ≠ s_.1) ∧ (s_.1 ≠ s_.2) ∧ (w.heap.size ≤ s_.2) ∧ (w.heap.size ≤ s_.2) ∧ (gb120 ≠ s_.2) ∧ (s_.2 ≠ gb120) ∧ (Below w.heap.size w w')) ?_ ?_
        rotate_left
        ·intro hJ3_7_8_9
         refine join_ (σ := Nat) 3 #[true, true, true, true, true, true, true, true, true, false, false, false] (fun s_ => [(33, .agg #[.bool t125, .int .u32 t126, .int .u32 t127, .int .u64 t128]), (37, .agg #[.bool t129, .int .u32 t130, .int .u32 t131, .int .u64 t132]), (7, .pointer (some ⟨s_, 0, none⟩))]) (fun s_ w' => (w'.cell? ⟨gb120, 0, none⟩ = some (.bool a0_0) ∧ w'.cell? ⟨gb120, 1, none⟩ = some (.int .u32 a0_1) ∧ w'.cell? ⟨gb120, 2, none⟩ = some (.int .u32 a0_2) ∧ w'.cell? ⟨gb120, 3, none⟩ = some (.int .u64 a0_3)) ∧ (w'.heap[gb120]? = some (.cells #[.bool a0_0, .int .u32 a0_1, .int .u32 a0_2, .int .u64 a0_3] 25 (0, 0))) ∧ (w'.heap[s_]? = some (.cells #[.bool false, .int .u32 0, .int .u32 0, .int .u64 0] 25 (0, 0))) ∧ (w.heap.size ≤ s_) ∧ (w.heap.size ≤ s_) ∧ (gb120 ≠ s_) ∧ (s_ ≠ gb120) ∧ (Below w.heap.size w w')) ?_ ?_
         rotate_left
         ·intro hJ3_7_8
          refine join_ (σ := Nat) 3 #[true, true, true, true, true, true, true, true, false, true, false, false] (fun s_ => [(33, .agg #[.bool t125, .int .u32 t126, .int .u32 t127, .int .u64 t128]), (37, .agg #[.bool t129, .int .u32 t130, .int .u32 t131, .int .u64 t132]), (8, .pointer (some ⟨s_, 0, none⟩))]) (fun s_ w' => (w'.cell? ⟨gb120, 0, none⟩ = some (.bool a0_0) ∧ w'.cell? ⟨gb120, 1, none⟩ = some (.int .u32 a0_1) ∧ w'.cell? ⟨gb120, 2, none⟩ = some (.int .u32 a0_2) ∧ w'.cell? ⟨gb120, 3, none⟩ = some (.int .u64 a0_3)) ∧ (w'.heap[gb120]? = some (.cells #[.bool a0_0, .int .u32 a0_1, .int .u32 a0_2, .int .u64 a0_3] 25 (0, 0))) ∧ (w'.heap[s_]? = some (.cells #[.bool false, .int .u32 0, .int .u32 0, .int .u64 0] 25 (0, 0))) ∧ (w.heap.size ≤ s_) ∧ (w.heap.size ≤ s_) ∧ (gb120 ≠ s_) ∧ (s_ ≠ gb120) ∧ (Below w.heap.size w w')) ?_ ?_
          rotate_left
          ·intro hJ3_7_9
           refine join_ (σ := Nat × Nat) 3 #[true, true, true, true, true, true, true, false, true, true, false, false] (fun s_ => [(33, .agg #[.bool t125, .int .u32 t126, .int .u32 t127, .int .u64 t128]), (7, .pointer (some ⟨s_.1, 0, none⟩)), (8, .pointer (some ⟨s_.2, 0, none⟩))]) (fun s_ w' => (w'.cell? ⟨gb120, 0, none⟩ = some (.bool a0_0) ∧ w'.cell? ⟨gb120, 1, none⟩ = some (.int .u32 a0_1) ∧ w'.cell? ⟨gb120, 2, none⟩ = some (.int .u32 a0_2) ∧ w'.cell? ⟨gb120, 3, none⟩ = some (.int .u64 a0_3)) ∧ (w'.heap[gb120]? = some (.cells #[.bool a0_0, .int .u32 a0_1, .int .u32 a0_2, .int .u64 a0_3] 25 (0, 0))) ∧ (w'.heap[s_.1]? = some (.cells #[.bool false, .int .u32 0, .int .u32 0, .int .u64 0] 25 (0, 0))) ∧ (w'.heap[s_.2]? = some (.cells #[.bool false, .int .u32 0, .int .u32 0, .int .u64 0] 25 (0, 0))) ∧ (w.heap.size ≤ s_.1) ∧ (w.heap.size ≤ s_.1) ∧ (gb120 ≠ s_.1) ∧ (s_.1 ≠ gb120) ∧ (s_.2 ≠ s_.1) ∧ (s_.1 ≠ s_.2) ∧ (w.heap.size ≤ s_.2) ∧ (w.heap.size ≤ s_.2) ∧ (gb120 ≠ s_.2) ∧ (s_.2 ≠ gb120) ∧ (Below w.heap.size w w')) ?_ ?_
           rotate_left
           ·intro hJ3_8_9
            refine join_ (σ := Unit) 4 #[true, true, true, true, true, true, true, true, false, false, false, false] (fun s_ => [(33, .agg #[.bool t125, .int .u32 t126, .int .u32 t127, .int .u64 t128]), (37, .agg #[.bool t129, .int .u32 t130, .int .u32 t131, .int .u64 t132])]) (fun s_ w' => (w'.cell? ⟨gb120, 0, none⟩ = some (.bool a0_0) ∧ w'.cell? ⟨gb120, 1, none⟩ = some (.int .u32 a0_1) ∧ w'.cell? ⟨gb120, 2, none⟩ = some (.int .u32 a0_2) ∧ w'.cell? ⟨gb120, 3, none⟩ = some (.int .u64 a0_3)) ∧ (w'.heap[gb120]? = some (.cells #[.bool a0_0, .int .u32 a0_1, .int .u32 a0_2, .int .u64 a0_3] 25 (0, 0))) ∧ (Below w.heap.size w w')) ?_ ?_
            rotate_left
            ·intro hJ3_7
             refine join_ (σ := Nat) 4 #[true, true, true, true, true, true, true, false, true, false, false, false] (fun s_ => [(33, .agg #[.bool t125, .int .u32 t126, .int .u32 t127, .int .u64 t128]), (7, .pointer (some ⟨s_, 0, none⟩))]) (fun s_ w' => (w'.cell? ⟨gb120, 0, none⟩ = some (.bool a0_0) ∧ w'.cell? ⟨gb120, 1, none⟩ = some (.int .u32 a0_1) ∧ w'.cell? ⟨gb120, 2, none⟩ = some (.int .u32 a0_2) ∧ w'.cell? ⟨gb120, 3, none⟩ = some (.int .u64 a0_3)) ∧ (w'.heap[gb120]? = some (.cells #[.bool a0_0, .int .u32 a0_1, .int .u32 a0_2, .int .u64 a0_3] 25 (0, 0))) ∧ (w'.heap[s_]? = some (.cells #[.bool false, .int .u32 0, .int .u32 0, .int .u64 0] 25 (0, 0))) ∧ (w.heap.size ≤ s_) ∧ (w.heap.size ≤ s_) ∧ (gb120 ≠ s_) ∧ (s_ ≠ gb120) ∧ (Below w.heap.size w w')) ?_ ?_
             rotate_left
             ·intro hJ3_8
              refine join_ (σ := Nat) 4 #[true, true, true, true, true, true, true, false, false, true, false, false] (fun s_ => [(33, .agg #[.bool t125, .int .u32 t126, .int .u32 t127, .int .u64 t128]), (8, .pointer (some ⟨s_, 0, none⟩))]) (fun s_ w' => (w'.cell? ⟨gb120, 0, none⟩ = some (.bool a0_0) ∧ w'.cell? ⟨gb120, 1, none⟩ = some (.int .u32 a0_1) ∧ w'.cell? ⟨gb120, 2, none⟩ = some (.int .u32 a0_2) ∧ w'.cell? ⟨gb120, 3, none⟩ = some (.int .u64 a0_3)) ∧ (w'.heap[gb120]? = some (.cells #[.bool a0_0, .int .u32 a0_1, .int .u32 a0_2, .int .u64 a0_3] 25 (0, 0))) ∧ (w'.heap[s_]? = some (.cells #[.bool false, .int .u32 0, .int .u32 0, .int .u64 0] 25 (0, 0))) ∧ (w.heap.size ≤ s_) ∧ (w.heap.size ≤ s_) ∧ (gb120 ≠ s_) ∧ (s_ ≠ gb120) ∧ (Below w.heap.size w w')) ?_ ?_
              rotate_left
              ·intro hJ3_9
               refine join_ (σ := Nat × Nat) 4 #[true, true, true, false, true, true, true, false, true, true, false, false] (fun s_ => [(7, .pointer (some ⟨s_.1, 0, none⟩)), (8, .pointer (some ⟨s_.2, 0, none⟩))]) (fun s_ w' => (w'.cell? ⟨gb120, 0, none⟩ = some (.bool a0_0) ∧ w'.cell? ⟨gb120, 1, none⟩ = some (.int .u32 a0_1) ∧ w'.cell? ⟨gb120, 2, none⟩ = some (.int .u32 a0_2) ∧ w'.cell? ⟨gb120, 3, none⟩ = some (.int .u64 a0_3)) ∧ (w'.heap[gb120]? = some (.cells #[.bool a0_0, .int .u32 a0_1, .int .u32 a0_2, .int .u64 a0_3] 25 (0, 0))) ∧ (w'.heap[s_.1]? = some (.cells #[.bool false, .int .u32 0, .int .u32 0, .int .u64 0] 25 (0, 0))) ∧ (w'.heap[s_.2]? = some (.cells #[.bool false, .int .u32 0, .int .u32 0, .int .u64 0] 25 (0, 0))) ∧ (w.heap.size ≤ s_.1) ∧ (w.heap.size ≤ s_.1) ∧ (gb120 ≠ s_.1) ∧ (s_.1 ≠ gb120) ∧ (s_.2 ≠ s_.1) ∧ (s_.1 ≠ s_.2) ∧ (w.heap.size ≤ s_.2) ∧ (w.heap.size ≤ s_.2) ∧ (gb120 ≠ s_.2) ∧ (s_.2 ≠ gb120) ∧ (Below w.heap.size w w')) ?_ ?_
               rotate_left
               ·intro hJ8_9
                refine join_ (σ := Unit) 5 #[true, true, true, true, true, true, true, false, false, false, false, false] (fun s_ => [(33, .agg #[.bool t125, .int .u32 t126, .int .u32 t127, .int .u64 t128])]) (fun s_ w' => (w'.cell? ⟨gb120, 0, none⟩ = some (.bool a0_0) ∧ w'.cell? ⟨gb120, 1, none⟩ = some (.int .u32 a0_1) ∧ w'.cell? ⟨gb120, 2, none⟩ = some (.int .u32 a0_2) ∧ w'.cell? ⟨gb120, 3, none⟩ = some (.int .u64 a0_3)) ∧ (w'.heap[gb120]? = some (.cells #[.bool a0_0, .int .u32 a0_1, .int .u32 a0_2, .int .u64 a0_3] 25 (0, 0))) ∧ (Below w.heap.size w w')) ?_ ?_
                rotate_left
                ·intro hJ3
                 refine join_ (σ := Nat) 5 #[true, true, true, false, true, true, true, false, true, false, false, false] (fun s_ => [(7, .pointer (some ⟨s_, 0, none⟩))]) (fun s_ w' => (w'.cell? ⟨gb120, 0, none⟩ = some (.bool a0_0) ∧ w'.cell? ⟨gb120, 1, none⟩ = some (.int .u32 a0_1) ∧ w'.cell? ⟨gb120, 2, none⟩ = some (.int .u32 a0_2) ∧ w'.cell? ⟨gb120, 3, none⟩ = some (.int .u64 a0_3)) ∧ (w'.heap[gb120]? = some (.cells #[.bool a0_0, .int .u32 a0_1, .int .u32 a0_2, .int .u64 a0_3] 25 (0, 0))) ∧ (w'.heap[s_]? = some (.cells #[.bool false, .int .u32 0, .int .u32 0, .int .u64 0] 25 (0, 0))) ∧ (w.heap.size ≤ s_) ∧ (w.heap.size ≤ s_) ∧ (gb120 ≠ s_) ∧ (s_ ≠ gb120) ∧ (Below w.heap.size w w')) ?_ ?_
                 rotate_left
                 ·intro hJ8
                  refine join_ (σ := Nat) 5 #[true, true, true, false, true, true, true, false, false, true, false, false] (fun s_ => [(8, .pointer (some ⟨s_, 0, none⟩))]) (fun s_ w' => (w'.cell? ⟨gb120, 0, none⟩ = some (.bool a0_0) ∧ w'.cell? ⟨gb120, 1, none⟩ = some (.int .u32 a0_1) ∧ w'.cell? ⟨gb120, 2, none⟩ = some (.int .u32 a0_2) ∧ w'.cell? ⟨gb120, 3, none⟩ = some (.int .u64 a0_3)) ∧ (w'.heap[gb120]? = some (.cells #[.bool a0_0, .int .u32 a0_1, .int .u32 a0_2, .int .u64 a0_3] 25 (0, 0))) ∧ (w'.heap[s_]? = some (.cells #[.bool false, .int .u32 0, .int .u32 0, .int .u64 0] 25 (0, 0))) ∧ (w.heap.size ≤ s_) ∧ (w.heap.size ≤ s_) ∧ (gb120 ≠ s_) ∧ (s_ ≠ gb120) ∧ (Below w.heap.size w w')) ?_ ?_
                  rotate_left
                  ·intro hJ9
                   refine three_ (i := 3) (j := 8) (k := 9) (Ni := some 33) (Nj := some 7) (Nk := some 8) #[true, true, true, true, true, true, true, false, false, false, false, false] #[true, true, true, false, true, true, true, false, true, false, false, false] #[true, true, true, false, true, true, true, false, false, true, false, false] rfl rfl rfl rfl rfl rfl (three_of HT_.out (by kernel_rfl)) (by decide) (by decide) (by decide) (fun K hK => ?_) (fun K hK => ?_) (fun K hK => ?_)
                   ·skip
                    refine goes_ Try.func9 (by kernel_rfl) rfl #[.agg #[.bool a0_0, .int .u32 a0_1, .int .u32 a0_2, .int .u64 a0_3], .int .u32 a1, .int .u32 a2] (by rfl) rfl rfl (by (try simp only [List.map_toArray, List.map_cons, List.map_nil]); first | done | rfl | (simp only [List.length_drop, List.length_take]; rfl)) ?_
                    with_reducible refine (seen_Mark.calls a0_0 a0_1 a0_2 a0_3 a1 a2 t125 t126 t127 t128 _ A20.out).mono ?_
                    rintro e w28 ⟨rfl, hb⟩
                    refine ⟨_, rfl, ?_⟩
                    have n0_ := Aside0.mk (blk_below (g := gb120) (o := .cells #[.bool a0_0, .int .u32 a0_1, .int .u32 a0_2, .int .u64 a0_3] 25 (0, 0)) (by (with_reducible repeat (first | refine blk_drewN ?_ _ | refine blk_drew ?_ | refine blk_alloc ?_ _)); exact BK120.out) hb)
                    have n1_ := Aside0.mk (below_step (by repeat (first | (with_reducible first | exact HB.out | apply below_alloc | apply pw_below_drewN | apply below_drew1 | refine below_set ?_ GE120.out) | exact HB.out)) hb)
                    clear BK120
                    clear HB
                    have BK120 := n0_
                    have HB := n1_
                    clear n0_ n1_
                    (try clear hb)
                    (try clear hb2)
                    (try clear hk)
                    (try clear hi)
                    refine hK.out _ _ ⟨(blk_cell BK120.out 0).trans rfl, (blk_cell BK120.out 1).trans rfl, (blk_cell BK120.out 2).trans rfl, (blk_cell BK120.out 3).trans rfl⟩ (fun hHeld => ?_)
                    clear hK K
                    refine norm_ (a' := ?_) ?_ ?_
                    rotate_left
                    ·show Act.put _ (some 33) _ = _
                     simp only [Act.put, List.setIfInBounds_toArray, List.set_cons_zero, List.set_cons_succ, i64_w, i32_w]
                     rfl
                    exact norm_ (by first | (simp only [putAll, Act.put, List.setIfInBounds_toArray, List.set_cons_zero, List.set_cons_succ]; done) | (simp only [putAll, Act.put, List.setIfInBounds_toArray, List.set_cons_zero, List.set_cons_succ]; rfl)) (hJ3 () _ ⟨hHeld, (by (with_reducible repeat (first | refine blk_drewN ?_ _ | refine blk_drew ?_ | refine blk_alloc ?_ _)); exact BK120.out), (by repeat (first | (with_reducible first | exact HB.out | apply below_alloc | apply pw_below_drewN | apply below_drew1 | refine below_set ?_ GE120.out) | exact HB.out))⟩)
                   ·skip
                    refine box_step ?hg (N := 7) ?hd (cs := #[.bool false, .int .u32 0, .int .u32 0, .int .u64 0]) (t := 25) ?hr ?_; (case hd => rfl); (case hg => rfl); (case hr => first | (go_simp; done) | (go_simp; rfl))
                    intro gb133 hg w28 hbox hb
                    have n0_ := Aside0.mk (blk_below (g := gb120) (o := .cells #[.bool a0_0, .int .u32 a0_1, .int .u32 a0_2, .int .u64 a0_3] 25 (0, 0)) (by (with_reducible repeat (first | refine blk_drewN ?_ _ | refine blk_drew ?_ | refine blk_alloc ?_ _)); exact BK120.out) hb)
                    have n1_ := Aside0.mk (below_step (by repeat (first | (with_reducible first | exact HB.out | apply below_alloc | apply pw_below_drewN | apply below_drew1 | refine below_set ?_ GE120.out) | exact HB.out)) hb)
                    have n2_ := Aside0.mk (hbox)
                    have n3_ := Aside0.mk ((by rw [hg]; exact (below_size (by repeat (first | (with_reducible first | exact HB.out | apply below_alloc | apply pw_below_drewN | apply below_drew1 | refine below_set ?_ GE120.out) | exact HB.out))) : w.heap.size ≤ gb133))
                    have n4_ := Aside0.mk ((by rw [hg]; exact (below_size (by repeat (first | (with_reducible first | exact HB.out | apply below_alloc | apply pw_below_drewN | apply below_drew1 | refine below_set ?_ GE120.out) | exact HB.out))) : w.heap.size ≤ gb133))
                    have n5_ := Aside0.mk ((by rw [hg]; exact Nat.ne_of_lt (blk_lt (g := gb120) (o := .cells #[.bool a0_0, .int .u32 a0_1, .int .u32 a0_2, .int .u64 a0_3] 25 (0, 0)) (by (with_reducible repeat (first | refine blk_drewN ?_ _ | refine blk_drew ?_ | refine blk_alloc ?_ _)); exact BK120.out)) : gb120 ≠ gb133))
                    have n6_ := Aside0.mk ((by rw [hg]; exact Nat.ne_of_gt (blk_lt (g := gb120) (o := .cells #[.bool a0_0, .int .u32 a0_1, .int .u32 a0_2, .int .u64 a0_3] 25 (0, 0)) (by (with_reducible repeat (first | refine blk_drewN ?_ _ | refine blk_drew ?_ | refine blk_alloc ?_ _)); exact BK120.out)) : gb133 ≠ gb120))
                    clear BK120
                    clear HB
                    have BK120 := n0_
                    have HB := n1_
                    have BK133 := n2_
                    have GW133 := n3_
                    have GE133 := n4_
                    have NB120_133 := n5_
                    have NB133_120 := n6_
                    clear n0_ n1_ n2_ n3_ n4_ n5_ n6_
                    clear hb hbox hg
                    refine hK.out _ _ ⟨(blk_cell BK120.out 0).trans rfl, (blk_cell BK120.out 1).trans rfl, (blk_cell BK120.out 2).trans rfl, (blk_cell BK120.out 3).trans rfl⟩ (fun hHeld => ?_)
                    clear hK K
                    refine norm_ (a' := ?_) ?_ ?_
                    rotate_left
                    ·show Act.put _ (some 7) _ = _
                     simp only [Act.put, List.setIfInBounds_toArray, List.set_cons_zero, List.set_cons_succ, i64_w, i32_w]
                     rfl
                    exact norm_ (by first | (simp only [putAll, Act.put, List.setIfInBounds_toArray, List.set_cons_zero, List.set_cons_succ]; done) | (simp only [putAll, Act.put, List.setIfInBounds_toArray, List.set_cons_zero, List.set_cons_succ]; rfl)) (hJ8 (gb133) _ ⟨hHeld, (by (with_reducible repeat (first | refine blk_drewN ?_ _ | refine blk_drew ?_ | refine blk_alloc ?_ _)); exact BK120.out), (by (with_reducible repeat (first | refine blk_drewN ?_ _ | refine blk_drew ?_ | refine blk_alloc ?_ _)); exact BK133.out), GW133.out, GE133.out, NB120_133.out, NB133_120.out, (by repeat (first | (with_reducible first | exact HB.out | apply below_alloc | apply pw_below_drewN | apply below_drew1 | refine below_set ?_ GE120.out | refine below_set ?_ GE133.out) | exact HB.out))⟩)
                   ·skip
                    refine box_step ?hg (N := 8) ?hd (cs := #[.bool false, .int .u32 0, .int .u32 0, .int .u64 0]) (t := 25) ?hr ?_; (case hd => rfl); (case hg => rfl); (case hr => first | (go_simp; done) | (go_simp; rfl))
                    intro gb134 hg w28 hbox hb
                    have n0_ := Aside0.mk (blk_below (g := gb120) (o := .cells #[.bool a0_0, .int .u32 a0_1, .int .u32 a0_2, .int .u64 a0_3] 25 (0, 0)) (by (with_reducible repeat (first | refine blk_drewN ?_ _ | refine blk_drew ?_ | refine blk_alloc ?_ _)); exact BK120.out) hb)
                    have n1_ := Aside0.mk (below_step (by repeat (first | (with_reducible first | exact HB.out | apply below_alloc | apply pw_below_drewN | apply below_drew1 | refine below_set ?_ GE120.out) | exact HB.out)) hb)
                    have n2_ := Aside0.mk (hbox)
                    have n3_ := Aside0.mk ((by rw [hg]; exact (below_size (by repeat (first | (with_reducible first | exact HB.out | apply below_alloc | apply pw_below_drewN | apply below_drew1 | refine below_set ?_ GE120.out) | exact HB.out))) : w.heap.size ≤ gb134))
                    have n4_ := Aside0.mk ((by rw [hg]; exact (below_size (by repeat (first | (with_reducible first | exact HB.out | apply below_alloc | apply pw_below_drewN | apply below_drew1 | refine below_set ?_ GE120.out) | exact HB.out))) : w.heap.size ≤ gb134))
                    have n5_ := Aside0.mk ((by rw [hg]; exact Nat.ne_of_lt (blk_lt (g := gb120) (o := .cells #[.bool a0_0, .int .u32 a0_1, .int .u32 a0_2, .int .u64 a0_3] 25 (0, 0)) (by (with_reducible repeat (first | refine blk_drewN ?_ _ | refine blk_drew ?_ | refine blk_alloc ?_ _)); exact BK120.out)) : gb120 ≠ gb134))
                    have n6_ := Aside0.mk ((by rw [hg]; exact Nat.ne_of_gt (blk_lt (g := gb120) (o := .cells #[.bool a0_0, .int .u32 a0_1, .int .u32 a0_2, .int .u64 a0_3] 25 (0, 0)) (by (with_reducible repeat (first | refine blk_drewN ?_ _ | refine blk_drew ?_ | refine blk_alloc ?_ _)); exact BK120.out)) : gb134 ≠ gb120))
                    clear BK120
                    clear HB
                    have BK120 := n0_
                    have HB := n1_
                    have BK134 := n2_
                    have GW134 := n3_
                    have GE134 := n4_
                    have NB120_134 := n5_
                    have NB134_120 := n6_
                    clear n0_ n1_ n2_ n3_ n4_ n5_ n6_
                    clear hb hbox hg
                    refine hK.out _ _ ⟨(blk_cell BK120.out 0).trans rfl, (blk_cell BK120.out 1).trans rfl, (blk_cell BK120.out 2).trans rfl, (blk_cell BK120.out 3).trans rfl⟩ (fun hHeld => ?_)
                    clear hK K
                    refine norm_ (a' := ?_) ?_ ?_
                    rotate_left
                    ·show Act.put _ (some 8) _ = _
                     simp only [Act.put, List.setIfInBounds_toArray, List.set_cons_zero, List.set_cons_succ, i64_w, i32_w]
                     rfl
                    exact norm_ (by first | (simp only [putAll, Act.put, List.setIfInBounds_toArray, List.set_cons_zero, List.set_cons_succ]; done) | (simp only [putAll, Act.put, List.setIfInBounds_toArray, List.set_cons_zero, List.set_cons_succ]; rfl)) (hJ9 (gb134) _ ⟨hHeld, (by (with_reducible repeat (first | refine blk_drewN ?_ _ | refine blk_drew ?_ | refine blk_alloc ?_ _)); exact BK120.out), (by (with_reducible repeat (first | refine blk_drewN ?_ _ | refine blk_drew ?_ | refine blk_alloc ?_ _)); exact BK134.out), GW134.out, GE134.out, NB120_134.out, NB134_120.out, (by repeat (first | (with_reducible first | exact HB.out | apply below_alloc | apply pw_below_drewN | apply below_drew1 | refine below_set ?_ GE120.out | refine below_set ?_ GE134.out) | exact HB.out))⟩)
                  ·skip
                   rintro gb134 w29 ⟨hS_, h0_, h1_, h2_, h3_, h4_, h5_, h6_⟩
                   have n0_ : Aside0 (w29.heap[gb120]? = some (.cells #[.bool a0_0, .int .u32 a0_1, .int .u32 a0_2, .int .u64 a0_3] 25 (0, 0))) := ⟨h0_⟩
                   have n1_ : Aside0 (w29.heap[gb134]? = some (.cells #[.bool false, .int .u32 0, .int .u32 0, .int .u64 0] 25 (0, 0))) := ⟨h1_⟩
                   have n2_ : Aside0 (w.heap.size ≤ gb134) := ⟨h2_⟩
                   have n3_ : Aside0 (w.heap.size ≤ gb134) := ⟨h3_⟩
                   have n4_ : Aside0 (gb120 ≠ gb134) := ⟨h4_⟩
                   have n5_ : Aside0 (gb134 ≠ gb120) := ⟨h5_⟩
                   have n6_ : Aside0 (Below w.heap.size w w29) := ⟨h6_⟩
                   clear BK120
                   clear HB
                   clear h0_ h1_ h2_ h3_ h4_ h5_ h6_
                   have BK120 := n0_
                   have BK134 := n1_
                   have GW134 := n2_
                   have GE134 := n3_
                   have NB120_134 := n4_
                   have NB134_120 := n5_
                   have HB := n6_
                   clear n0_ n1_ n2_ n3_ n4_ n5_ n6_
                   have hHeld : w29.cell? ⟨gb120, 0, none⟩ = some (.bool a0_0) ∧ w29.cell? ⟨gb120, 1, none⟩ = some (.int .u32 a0_1) ∧ w29.cell? ⟨gb120, 2, none⟩ = some (.int .u32 a0_2) ∧ w29.cell? ⟨gb120, 3, none⟩ = some (.int .u64 a0_3) := hS_
                   refine norm_ (a' := ?_) ?_ ?_
                   rotate_left
                   ·simp only [putAll, Act.put, List.setIfInBounds_toArray, List.set_cons_zero, List.set_cons_succ]
                    rfl
                   refine two_ (i := 3) (j := 8) (Ni := some 33) (Nj := some 7) #[true, true, true, true, true, true, true, false, false, true, false, false] #[true, true, true, false, true, true, true, false, true, true, false, false] rfl rfl rfl rfl (two_of HT_.out (by kernel_rfl)) (by decide) (by decide) (fun K hK => ?_) (fun K hK => ?_)
                   ·skip
                    refine goes_ Try.func9 (by kernel_rfl) rfl #[.agg #[.bool a0_0, .int .u32 a0_1, .int .u32 a0_2, .int .u64 a0_3], .int .u32 a1, .int .u32 a2] (by rfl) rfl rfl (by (try simp only [List.map_toArray, List.map_cons, List.map_nil]); first | done | rfl | (simp only [List.length_drop, List.length_take]; rfl)) ?_
                    with_reducible refine (seen_Mark.calls a0_0 a0_1 a0_2 a0_3 a1 a2 t125 t126 t127 t128 _ A20.out).mono ?_
                    rintro e w30 ⟨rfl, hb⟩
                    refine ⟨_, rfl, ?_⟩
                    have n0_ := Aside0.mk (blk_below (g := gb120) (o := .cells #[.bool a0_0, .int .u32 a0_1, .int .u32 a0_2, .int .u64 a0_3] 25 (0, 0)) (by (with_reducible repeat (first | refine blk_drewN ?_ _ | refine blk_drew ?_ | refine blk_alloc ?_ _)); exact BK120.out) hb)
                    have n1_ := Aside0.mk (blk_below (g := gb134) (o := .cells #[.bool false, .int .u32 0, .int .u32 0, .int .u64 0] 25 (0, 0)) (by (with_reducible repeat (first | refine blk_drewN ?_ _ | refine blk_drew ?_ | refine blk_alloc ?_ _)); exact BK134.out) hb)
                    have n2_ := Aside0.mk (below_step (by repeat (first | (with_reducible first | exact HB.out | apply below_alloc | apply pw_below_drewN | apply below_drew1 | refine below_set ?_ GE120.out | refine below_set ?_ GE134.out) | exact HB.out)) hb)
                    clear BK120
                    clear BK134
                    clear HB
                    have BK120 := n0_
                    have BK134 := n1_
                    have HB := n2_
                    clear n0_ n1_ n2_
                    (try clear hb)
                    (try clear hb2)
                    (try clear hk)
                    (try clear hi)
                    refine hK.out _ _ ⟨(blk_cell BK120.out 0).trans rfl, (blk_cell BK120.out 1).trans rfl, (blk_cell BK120.out 2).trans rfl, (blk_cell BK120.out 3).trans rfl⟩ (fun hHeld => ?_)
                    clear hK K
                    refine norm_ (a' := ?_) ?_ ?_
                    rotate_left
                    ·show Act.put _ (some 33) _ = _
                     simp only [Act.put, List.setIfInBounds_toArray, List.set_cons_zero, List.set_cons_succ, i64_w, i32_w]
                     rfl
                    exact norm_ (by first | (simp only [putAll, Act.put, List.setIfInBounds_toArray, List.set_cons_zero, List.set_cons_succ]; done) | (simp only [putAll, Act.put, List.setIfInBounds_toArray, List.set_cons_zero, List.set_cons_succ]; rfl)) (hJ3_9 (gb134) _ ⟨hHeld, (by (with_reducible repeat (first | refine blk_drewN ?_ _ | refine blk_drew ?_ | refine blk_alloc ?_ _)); exact BK120.out), (by (with_reducible repeat (first | refine blk_drewN ?_ _ | refine blk_drew ?_ | refine blk_alloc ?_ _)); exact BK134.out), GW134.out, GE134.out, NB120_134.out, NB134_120.out, (by repeat (first | (with_reducible first | exact HB.out | apply below_alloc | apply pw_below_drewN | apply below_drew1 | refine below_set ?_ GE120.out | refine below_set ?_ GE134.out) | exact HB.out))⟩)
                   ·skip
                    refine box_step ?hg (N := 7) ?hd (cs := #[.bool false, .int .u32 0, .int .u32 0, .int .u64 0]) (t := 25) ?hr ?_; (case hd => rfl); (case hg => rfl); (case hr => first | (go_simp; done) | (go_simp; rfl))
                    intro gb133 hg w30 hbox hb
                    have n0_ := Aside0.mk (blk_below (g := gb120) (o := .cells #[.bool a0_0, .int .u32 a0_1, .int .u32 a0_2, .int .u64 a0_3] 25 (0, 0)) (by (with_reducible repeat (first | refine blk_drewN ?_ _ | refine blk_drew ?_ | refine blk_alloc ?_ _)); exact BK120.out) hb)
                    have n1_ := Aside0.mk (blk_below (g := gb134) (o := .cells #[.bool false, .int .u32 0, .int .u32 0, .int .u64 0] 25 (0, 0)) (by (with_reducible repeat (first | refine blk_drewN ?_ _ | refine blk_drew ?_ | refine blk_alloc ?_ _)); exact BK134.out) hb)
                    have n2_ := Aside0.mk (below_step (by repeat (first | (with_reducible first | exact HB.out | apply below_alloc | apply pw_below_drewN | apply below_drew1 | refine below_set ?_ GE120.out | refine below_set ?_ GE134.out) | exact HB.out)) hb)
                    have n3_ := Aside0.mk (hbox)
                    have n4_ := Aside0.mk ((by rw [hg]; exact (below_size (by repeat (first | (with_reducible first | exact HB.out | apply below_alloc | apply pw_below_drewN | apply below_drew1 | refine below_set ?_ GE120.out | refine below_set ?_ GE134.out) | exact HB.out))) : w.heap.size ≤ gb133))
                    have n5_ := Aside0.mk ((by rw [hg]; exact (below_size (by repeat (first | (with_reducible first | exact HB.out | apply below_alloc | apply pw_below_drewN | apply below_drew1 | refine below_set ?_ GE120.out | refine below_set ?_ GE134.out) | exact HB.out))) : w.heap.size ≤ gb133))
                    have n6_ := Aside0.mk ((by rw [hg]; exact Nat.ne_of_lt (blk_lt (g := gb120) (o := .cells #[.bool a0_0, .int .u32 a0_1, .int .u32 a0_2, .int .u64 a0_3] 25 (0, 0)) (by (with_reducible repeat (first | refine blk_drewN ?_ _ | refine blk_drew ?_ | refine blk_alloc ?_ _)); exact BK120.out)) : gb120 ≠ gb133))
                    have n7_ := Aside0.mk ((by rw [hg]; exact Nat.ne_of_gt (blk_lt (g := gb120) (o := .cells #[.bool a0_0, .int .u32 a0_1, .int .u32 a0_2, .int .u64 a0_3] 25 (0, 0)) (by (with_reducible repeat (first | refine blk_drewN ?_ _ | refine blk_drew ?_ | refine blk_alloc ?_ _)); exact BK120.out)) : gb133 ≠ gb120))
                    have n8_ := Aside0.mk ((by rw [hg]; exact Nat.ne_of_lt (blk_lt (g := gb134) (o := .cells #[.bool false, .int .u32 0, .int .u32 0, .int .u64 0] 25 (0, 0)) (by (with_reducible repeat (first | refine blk_drewN ?_ _ | refine blk_drew ?_ | refine blk_alloc ?_ _)); exact BK134.out)) : gb134 ≠ gb133))
                    have n9_ := Aside0.mk ((by rw [hg]; exact Nat.ne_of_gt (blk_lt (g := gb134) (o := .cells #[.bool false, .int .u32 0, .int .u32 0, .int .u64 0] 25 (0, 0)) (by (with_reducible repeat (first | refine blk_drewN ?_ _ | refine blk_drew ?_ | refine blk_alloc ?_ _)); exact BK134.out)) : gb133 ≠ gb134))
                    clear BK120
                    clear BK134
                    clear HB
                    have BK120 := n0_
                    have BK134 := n1_
                    have HB := n2_
                    have BK133 := n3_
                    have GW133 := n4_
                    have GE133 := n5_
                    have NB120_133 := n6_
                    have NB133_120 := n7_
                    have NB134_133 := n8_
                    have NB133_134 := n9_
                    clear n0_ n1_ n2_ n3_ n4_ n5_ n6_ n7_ n8_ n9_
                    clear hb hbox hg
                    refine hK.out _ _ ⟨(blk_cell BK120.out 0).trans rfl, (blk_cell BK120.out 1).trans rfl, (blk_cell BK120.out 2).trans rfl, (blk_cell BK120.out 3).trans rfl⟩ (fun hHeld => ?_)
                    clear hK K
                    refine norm_ (a' := ?_) ?_ ?_
                    rotate_left
                    ·show Act.put _ (some 7) _ = _
                     simp only [Act.put, List.setIfInBounds_toArray, List.set_cons_zero, List.set_cons_succ, i64_w, i32_w]
                     rfl
                    exact norm_ (by first | (simp only [putAll, Act.put, List.setIfInBounds_toArray, List.set_cons_zero, List.set_cons_succ]; done) | (simp only [putAll, Act.put, List.setIfInBounds_toArray, List.set_cons_zero, List.set_cons_succ]; rfl)) (hJ8_9 (gb133, gb134) _ ⟨hHeld, (by (with_reducible repeat (first | refine blk_drewN ?_ _ | refine blk_drew ?_ | refine blk_alloc ?_ _)); exact BK120.out), (by (with_reducible repeat (first | refine blk_drewN ?_ _ | refine blk_drew ?_ | refine blk_alloc ?_ _)); exact BK133.out), (by (with_reducible repeat (first | refine blk_drewN ?_ _ | refine blk_drew ?_ | refine blk_alloc ?_ _)); exact BK134.out), GW133.out, GE133.out, NB120_133.out, NB133_120.out, NB134_133.out, NB133_134.out, GW134.out, GE134.out, NB120_134.out, NB134_120.out, (by repeat (first | (with_reducible first | exact HB.out | apply below_alloc | apply pw_below_drewN | apply below_drew1 | refine below_set ?_ GE120.out | refine below_set ?_ GE134.out | refine below_set ?_ GE133.out) | exact HB.out))⟩)
                 ·skip
                  rintro gb133 w29 ⟨hS_, h0_, h1_, h2_, h3_, h4_, h5_, h6_⟩
                  have n0_ : Aside0 (w29.heap[gb120]? = some (.cells #[.bool a0_0, .int .u32 a0_1, .int .u32 a0_2, .int .u64 a0_3] 25 (0, 0))) := ⟨h0_⟩
                  have n1_ : Aside0 (w29.heap[gb133]? = some (.cells #[.bool false, .int .u32 0, .int .u32 0, .int .u64 0] 25 (0, 0))) := ⟨h1_⟩
                  have n2_ : Aside0 (w.heap.size ≤ gb133) := ⟨h2_⟩
                  have n3_ : Aside0 (w.heap.size ≤ gb133) := ⟨h3_⟩
                  have n4_ : Aside0 (gb120 ≠ gb133) := ⟨h4_⟩
                  have n5_ : Aside0 (gb133 ≠ gb120) := ⟨h5_⟩
                  have n6_ : Aside0 (Below w.heap.size w w29) := ⟨h6_⟩
                  clear BK120
                  clear HB
                  clear h0_ h1_ h2_ h3_ h4_ h5_ h6_
                  have BK120 := n0_
                  have BK133 := n1_
                  have GW133 := n2_
                  have GE133 := n3_
                  have NB120_133 := n4_
                  have NB133_120 := n5_
                  have HB := n6_
                  clear n0_ n1_ n2_ n3_ n4_ n5_ n6_
                  have hHeld : w29.cell? ⟨gb120, 0, none⟩ = some (.bool a0_0) ∧ w29.cell? ⟨gb120, 1, none⟩ = some (.int .u32 a0_1) ∧ w29.cell? ⟨gb120, 2, none⟩ = some (.int .u32 a0_2) ∧ w29.cell? ⟨gb120, 3, none⟩ = some (.int .u64 a0_3) := hS_
                  refine norm_ (a' := ?_) ?_ ?_
                  rotate_left
                  ·simp only [putAll, Act.put, List.setIfInBounds_toArray, List.set_cons_zero, List.set_cons_succ]
                   rfl
                  refine two_ (i := 3) (j := 9) (Ni := some 33) (Nj := some 8) #[true, true, true, true, true, true, true, false, true, false, false, false] #[true, true, true, false, true, true, true, false, true, true, false, false] rfl rfl rfl rfl (two_of HT_.out (by kernel_rfl)) (by decide) (by decide) (fun K hK => ?_) (fun K hK => ?_)
                  ·skip
                   refine goes_ Try.func9 (by kernel_rfl) rfl #[.agg #[.bool a0_0, .int .u32 a0_1, .int .u32 a0_2, .int .u64 a0_3], .int .u32 a1, .int .u32 a2] (by rfl) rfl rfl (by (try simp only [List.map_toArray, List.map_cons, List.map_nil]); first | done | rfl | (simp only [List.length_drop, List.length_take]; rfl)) ?_
                   with_reducible refine (seen_Mark.calls a0_0 a0_1 a0_2 a0_3 a1 a2 t125 t126 t127 t128 _ A20.out).mono ?_
                   rintro e w30 ⟨rfl, hb⟩
                   refine ⟨_, rfl, ?_⟩
                   have n0_ := Aside0.mk (blk_below (g := gb120) (o := .cells #[.bool a0_0, .int .u32 a0_1, .int .u32 a0_2, .int .u64 a0_3] 25 (0, 0)) (by (with_reducible repeat (first | refine blk_drewN ?_ _ | refine blk_drew ?_ | refine blk_alloc ?_ _)); exact BK120.out) hb)
                   have n1_ := Aside0.mk (blk_below (g := gb133) (o := .cells #[.bool false, .int .u32 0, .int .u32 0, .int .u64 0] 25 (0, 0)) (by (with_reducible repeat (first | refine blk_drewN ?_ _ | refine blk_drew ?_ | refine blk_alloc ?_ _)); exact BK133.out) hb)
                   have n2_ := Aside0.mk (below_step (by repeat (first | (with_reducible first | exact HB.out | apply below_alloc | apply pw_below_drewN | apply below_drew1 | refine below_set ?_ GE120.out | refine below_set ?_ GE133.out) | exact HB.out)) hb)
                   clear BK120
                   clear BK133
                   clear HB
                   have BK120 := n0_
                   have BK133 := n1_
                   have HB := n2_
                   clear n0_ n1_ n2_
                   (try clear hb)
                   (try clear hb2)
                   (try clear hk)
                   (try clear hi)
                   refine hK.out _ _ ⟨(blk_cell BK120.out 0).trans rfl, (blk_cell BK120.out 1).trans rfl, (blk_cell BK120.out 2).trans rfl, (blk_cell BK120.out 3).trans rfl⟩ (fun hHeld => ?_)
                   clear hK K
                   refine norm_ (a' := ?_) ?_ ?_
                   rotate_left
                   ·show Act.put _ (some 33) _ = _
                    simp only [Act.put, List.setIfInBounds_toArray, List.set_cons_zero, List.set_cons_succ, i64_w, i32_w]
                    rfl
                   exact norm_ (by first | (simp only [putAll, Act.put, List.setIfInBounds_toArray, List.set_cons_zero, List.set_cons_succ]; done) | (simp only [putAll, Act.put, List.setIfInBounds_toArray, List.set_cons_zero, List.set_cons_succ]; rfl)) (hJ3_8 (gb133) _ ⟨hHeld, (by (with_reducible repeat (first | refine blk_drewN ?_ _ | refine blk_drew ?_ | refine blk_alloc ?_ _)); exact BK120.out), (by (with_reducible repeat (first | refine blk_drewN ?_ _ | refine blk_drew ?_ | refine blk_alloc ?_ _)); exact BK133.out), GW133.out, GE133.out, NB120_133.out, NB133_120.out, (by repeat (first | (with_reducible first | exact HB.out | apply below_alloc | apply pw_below_drewN | apply below_drew1 | refine below_set ?_ GE120.out | refine below_set ?_ GE133.out) | exact HB.out))⟩)
                  ·skip
                   refine box_step ?hg (N := 8) ?hd (cs := #[.bool false, .int .u32 0, .int .u32 0, .int .u64 0]) (t := 25) ?hr ?_; (case hd => rfl); (case hg => rfl); (case hr => first | (go_simp; done) | (go_simp; rfl))
                   intro gb134 hg w30 hbox hb
                   have n0_ := Aside0.mk (blk_below (g := gb120) (o := .cells #[.bool a0_0, .int .u32 a0_1, .int .u32 a0_2, .int .u64 a0_3] 25 (0, 0)) (by (with_reducible repeat (first | refine blk_drewN ?_ _ | refine blk_drew ?_ | refine blk_alloc ?_ _)); exact BK120.out) hb)
                   have n1_ := Aside0.mk (blk_below (g := gb133) (o := .cells #[.bool false, .int .u32 0, .int .u32 0, .int .u64 0] 25 (0, 0)) (by (with_reducible repeat (first | refine blk_drewN ?_ _ | refine blk_drew ?_ | refine blk_alloc ?_ _)); exact BK133.out) hb)
                   have n2_ := Aside0.mk (below_step (by repeat (first | (with_reducible first | exact HB.out | apply below_alloc | apply pw_below_drewN | apply below_drew1 | refine below_set ?_ GE120.out | refine below_set ?_ GE133.out) | exact HB.out)) hb)
                   have n3_ := Aside0.mk (hbox)
                   have n4_ := Aside0.mk ((by rw [hg]; exact (below_size (by repeat (first | (with_reducible first | exact HB.out | apply below_alloc | apply pw_below_drewN | apply below_drew1 | refine below_set ?_ GE120.out | refine below_set ?_ GE133.out) | exact HB.out))) : w.heap.size ≤ gb134))
                   have n5_ := Aside0.mk ((by rw [hg]; exact (below_size (by repeat (first | (with_reducible first | exact HB.out | apply below_alloc | apply pw_below_drewN | apply below_drew1 | refine below_set ?_ GE120.out | refine below_set ?_ GE133.out) | exact HB.out))) : w.heap.size ≤ gb134))
                   have n6_ := Aside0.mk ((by rw [hg]; exact Nat.ne_of_lt (blk_lt (g := gb120) (o := .cells #[.bool a0_0, .int .u32 a0_1, .int .u32 a0_2, .int .u64 a0_3] 25 (0, 0)) (by (with_reducible repeat (first | refine blk_drewN ?_ _ | refine blk_drew ?_ | refine blk_alloc ?_ _)); exact BK120.out)) : gb120 ≠ gb134))
                   have n7_ := Aside0.mk ((by rw [hg]; exact Nat.ne_of_gt (blk_lt (g := gb120) (o := .cells #[.bool a0_0, .int .u32 a0_1, .int .u32 a0_2, .int .u64 a0_3] 25 (0, 0)) (by (with_reducible repeat (first | refine blk_drewN ?_ _ | refine blk_drew ?_ | refine blk_alloc ?_ _)); exact BK120.out)) : gb134 ≠ gb120))
                   have n8_ := Aside0.mk ((by rw [hg]; exact Nat.ne_of_lt (blk_lt (g := gb133) (o := .cells #[.bool false, .int .u32 0, .int .u32 0, .int .u64 0] 25 (0, 0)) (by (with_reducible repeat (first | refine blk_drewN ?_ _ | refine blk_drew ?_ | refine blk_alloc ?_ _)); exact BK133.out)) : gb133 ≠ gb134))
                   have n9_ := Aside0.mk ((by rw [hg]; exact Nat.ne_of_gt (blk_lt (g := gb133) (o := .cells #[.bool false, .int .u32 0, .int .u32 0, .int .u64 0] 25 (0, 0)) (by (with_reducible repeat (first | refine blk_drewN ?_ _ | refine blk_drew ?_ | refine blk_alloc ?_ _)); exact BK133.out)) : gb134 ≠ gb133))
                   clear BK120
                   clear BK133
                   clear HB
                   have BK120 := n0_
                   have BK133 := n1_
                   have HB := n2_
                   have BK134 := n3_
                   have GW134 := n4_
                   have GE134 := n5_
                   have NB120_134 := n6_
                   have NB134_120 := n7_
                   have NB133_134 := n8_
                   have NB134_133 := n9_
                   clear n0_ n1_ n2_ n3_ n4_ n5_ n6_ n7_ n8_ n9_
                   clear hb hbox hg
                   refine hK.out _ _ ⟨(blk_cell BK120.out 0).trans rfl, (blk_cell BK120.out 1).trans rfl, (blk_cell BK120.out 2).trans rfl, (blk_cell BK120.out 3).trans rfl⟩ (fun hHeld => ?_)
                   clear hK K
                   refine norm_ (a' := ?_) ?_ ?_
                   rotate_left
                   ·show Act.put _ (some 8) _ = _
                    simp only [Act.put, List.setIfInBounds_toArray, List.set_cons_zero, List.set_cons_succ, i64_w, i32_w]
                    rfl
                   exact norm_ (by first | (simp only [putAll, Act.put, List.setIfInBounds_toArray, List.set_cons_zero, List.set_cons_succ]; done) | (simp only [putAll, Act.put, List.setIfInBounds_toArray, List.set_cons_zero, List.set_cons_succ]; rfl)) (hJ8_9 (gb133, gb134) _ ⟨hHeld, (by (with_reducible repeat (first | refine blk_drewN ?_ _ | refine blk_drew ?_ | refine blk_alloc ?_ _)); exact BK120.out), (by (with_reducible repeat (first | refine blk_drewN ?_ _ | refine blk_drew ?_ | refine blk_alloc ?_ _)); exact BK133.out), (by (with_reducible repeat (first | refine blk_drewN ?_ _ | refine blk_drew ?_ | refine blk_alloc ?_ _)); exact BK134.out), GW133.out, GE133.out, NB120_133.out, NB133_120.out, NB134_133.out, NB133_134.out, GW134.out, GE134.out, NB120_134.out, NB134_120.out, (by repeat (first | (with_reducible first | exact HB.out | apply below_alloc | apply pw_below_drewN | apply below_drew1 | refine below_set ?_ GE120.out | refine below_set ?_ GE133.out | refine below_set ?_ GE134.out) | exact HB.out))⟩)
                ·skip
                 rintro _ w29 ⟨hS_, h0_, h1_⟩
                 have n0_ : Aside0 (w29.heap[gb120]? = some (.cells #[.bool a0_0, .int .u32 a0_1, .int .u32 a0_2, .int .u64 a0_3] 25 (0, 0))) := ⟨h0_⟩
                 have n1_ : Aside0 (Below w.heap.size w w29) := ⟨h1_⟩
                 clear BK120
                 clear HB
                 clear h0_ h1_
                 have BK120 := n0_
                 have HB := n1_
                 clear n0_ n1_
                 have hHeld : w29.cell? ⟨gb120, 0, none⟩ = some (.bool a0_0) ∧ w29.cell? ⟨gb120, 1, none⟩ = some (.int .u32 a0_1) ∧ w29.cell? ⟨gb120, 2, none⟩ = some (.int .u32 a0_2) ∧ w29.cell? ⟨gb120, 3, none⟩ = some (.int .u64 a0_3) := hS_
                 refine norm_ (a' := ?_) ?_ ?_
                 rotate_left
                 ·simp only [putAll, Act.put, List.setIfInBounds_toArray, List.set_cons_zero, List.set_cons_succ]
                  rfl
                 refine three_ (i := 7) (j := 8) (k := 9) (Ni := some 37) (Nj := some 7) (Nk := some 8) #[true, true, true, true, true, true, true, true, false, false, false, false] #[true, true, true, true, true, true, true, false, true, false, false, false] #[true, true, true, true, true, true, true, false, false, true, false, false] rfl rfl rfl rfl rfl rfl (three_of HT_.out (by kernel_rfl)) (by decide) (by decide) (by decide) (fun K hK => ?_) (fun K hK => ?_) (fun K hK => ?_)
                 ·skip
                  refine goes_ Try.func10 (by kernel_rfl) rfl #[.agg #[.bool a0_0, .int .u32 a0_1, .int .u32 a0_2, .int .u64 a0_3], .int .u32 a1, .int .u32 a2] (by rfl) rfl rfl (by (try simp only [List.map_toArray, List.map_cons, List.map_nil]); first | done | rfl | (simp only [List.length_drop, List.length_take]; rfl)) ?_
                  with_reducible refine (annuletref20_Mark.calls kj3 a0_0 a0_1 a0_2 a0_3 a1 a2 t129 t130 t131 t132 _ A21.out).mono ?_
                  rintro e w30 ⟨rfl, hb⟩
                  refine ⟨_, rfl, ?_⟩
                  have n0_ := Aside0.mk (blk_below (g := gb120) (o := .cells #[.bool a0_0, .int .u32 a0_1, .int .u32 a0_2, .int .u64 a0_3] 25 (0, 0)) (by (with_reducible repeat (first | refine blk_drewN ?_ _ | refine blk_drew ?_ | refine blk_alloc ?_ _)); exact BK120.out) hb)
                  have n1_ := Aside0.mk (below_step (by repeat (first | (with_reducible first | exact HB.out | apply below_alloc | apply pw_below_drewN | apply below_drew1 | refine below_set ?_ GE120.out) | exact HB.out)) hb)
                  clear BK120
                  clear HB
                  have BK120 := n0_
                  have HB := n1_
                  clear n0_ n1_
                  (try clear hb)
                  (try clear hb2)
                  (try clear hk)
                  (try clear hi)
                  refine hK.out _ _ ⟨(blk_cell BK120.out 0).trans rfl, (blk_cell BK120.out 1).trans rfl, (blk_cell BK120.out 2).trans rfl, (blk_cell BK120.out 3).trans rfl⟩ (fun hHeld => ?_)
                  clear hK K
                  refine norm_ (a' := ?_) ?_ ?_
                  rotate_left
                  ·show Act.put _ (some 37) _ = _
                   simp only [Act.put, List.setIfInBounds_toArray, List.set_cons_zero, List.set_cons_succ, i64_w, i32_w]
                   rfl
                  exact norm_ (by first | (simp only [putAll, Act.put, List.setIfInBounds_toArray, List.set_cons_zero, List.set_cons_succ]; done) | (simp only [putAll, Act.put, List.setIfInBounds_toArray, List.set_cons_zero, List.set_cons_succ]; rfl)) (hJ3_7 () _ ⟨hHeld, (by (with_reducible repeat (first | refine blk_drewN ?_ _ | refine blk_drew ?_ | refine blk_alloc ?_ _)); exact BK120.out), (by repeat (first | (with_reducible first | exact HB.out | apply below_alloc | apply pw_below_drewN | apply below_drew1 | refine below_set ?_ GE120.out) | exact HB.out))⟩)
                 ·skip
                  refine box_step ?hg (N := 7) ?hd (cs := #[.bool false, .int .u32 0, .int .u32 0, .int .u64 0]) (t := 25) ?hr ?_; (case hd => rfl); (case hg => rfl); (case hr => first | (go_simp; done) | (go_simp; rfl))
                  intro gb133 hg w30 hbox hb
                  have n0_ := Aside0.mk (blk_below (g := gb120) (o := .cells #[.bool a0_0, .int .u32 a0_1, .int .u32 a0_2, .int .u64 a0_3] 25 (0, 0)) (by (with_reducible repeat (first | refine blk_drewN ?_ _ | refine blk_drew ?_ | refine blk_alloc ?_ _)); exact BK120.out) hb)
                  have n1_ := Aside0.mk (below_step (by repeat (first | (with_reducible first | exact HB.out | apply below_alloc | apply pw_below_drewN | apply below_drew1 | refine below_set ?_ GE120.out) | exact HB.out)) hb)
                  have n2_ := Aside0.mk (hbox)
                  have n3_ := Aside0.mk ((by rw [hg]; exact (below_size (by repeat (first | (with_reducible first | exact HB.out | apply below_alloc | apply pw_below_drewN | apply below_drew1 | refine below_set ?_ GE120.out) | exact HB.out))) : w.heap.size ≤ gb133))
                  have n4_ := Aside0.mk ((by rw [hg]; exact (below_size (by repeat (first | (with_reducible first | exact HB.out | apply below_alloc | apply pw_below_drewN | apply below_drew1 | refine below_set ?_ GE120.out) | exact HB.out))) : w.heap.size ≤ gb133))
                  have n5_ := Aside0.mk ((by rw [hg]; exact Nat.ne_of_lt (blk_lt (g := gb120) (o := .cells #[.bool a0_0, .int .u32 a0_1, .int .u32 a0_2, .int .u64 a0_3] 25 (0, 0)) (by (with_reducible repeat (first | refine blk_drewN ?_ _ | refine blk_drew ?_ | refine blk_alloc ?_ _)); exact BK120.out)) : gb120 ≠ gb133))
                  have n6_ := Aside0.mk ((by rw [hg]; exact Nat.ne_of_gt (blk_lt (g := gb120) (o := .cells #[.bool a0_0, .int .u32 a0_1, .int .u32 a0_2, .int .u64 a0_3] 25 (0, 0)) (by (with_reducible repeat (first | refine blk_drewN ?_ _ | refine blk_drew ?_ | refine blk_alloc ?_ _)); exact BK120.out)) : gb133 ≠ gb120))
                  clear BK120
                  clear HB
                  have BK120 := n0_
                  have HB := n1_
                  have BK133 := n2_
                  have GW133 := n3_
                  have GE133 := n4_
                  have NB120_133 := n5_
                  have NB133_120 := n6_
                  clear n0_ n1_ n2_ n3_ n4_ n5_ n6_
                  clear hb hbox hg
                  refine hK.out _ _ ⟨(blk_cell BK120.out 0).trans rfl, (blk_cell BK120.out 1).trans rfl, (blk_cell BK120.out 2).trans rfl, (blk_cell BK120.out 3).trans rfl⟩ (fun hHeld => ?_)
                  clear hK K
                  refine norm_ (a' := ?_) ?_ ?_
                  rotate_left
                  ·show Act.put _ (some 7) _ = _
                   simp only [Act.put, List.setIfInBounds_toArray, List.set_cons_zero, List.set_cons_succ, i64_w, i32_w]
                   rfl
                  exact norm_ (by first | (simp only [putAll, Act.put, List.setIfInBounds_toArray, List.set_cons_zero, List.set_cons_succ]; done) | (simp only [putAll, Act.put, List.setIfInBounds_toArray, List.set_cons_zero, List.set_cons_succ]; rfl)) (hJ3_8 (gb133) _ ⟨hHeld, (by (with_reducible repeat (first | refine blk_drewN ?_ _ | refine blk_drew ?_ | refine blk_alloc ?_ _)); exact BK120.out), (by (with_reducible repeat (first | refine blk_drewN ?_ _ | refine blk_drew ?_ | refine blk_alloc ?_ _)); exact BK133.out), GW133.out, GE133.out, NB120_133.out, NB133_120.out, (by repeat (first | (with_reducible first | exact HB.out | apply below_alloc | apply pw_below_drewN | apply below_drew1 | refine below_set ?_ GE120.out | refine below_set ?_ GE133.out) | exact HB.out))⟩)
                 ·skip
                  refine box_step ?hg (N := 8) ?hd (cs := #[.bool false, .int .u32 0, .int .u32 0, .int .u64 0]) (t := 25) ?hr ?_; (case hd => rfl); (case hg => rfl); (case hr => first | (go_simp; done) | (go_simp; rfl))
                  intro gb134 hg w30 hbox hb
                  have n0_ := Aside0.mk (blk_below (g := gb120) (o := .cells #[.bool a0_0, .int .u32 a0_1, .int .u32 a0_2, .int .u64 a0_3] 25 (0, 0)) (by (with_reducible repeat (first | refine blk_drewN ?_ _ | refine blk_drew ?_ | refine blk_alloc ?_ _)); exact BK120.out) hb)
                  have n1_ := Aside0.mk (below_step (by repeat (first | (with_reducible first | exact HB.out | apply below_alloc | apply pw_below_drewN | apply below_drew1 | refine below_set ?_ GE120.out) | exact HB.out)) hb)
                  have n2_ := Aside0.mk (hbox)
                  have n3_ := Aside0.mk ((by rw [hg]; exact (below_size (by repeat (first | (with_reducible first | exact HB.out | apply below_alloc | apply pw_below_drewN | apply below_drew1 | refine below_set ?_ GE120.out) | exact HB.out))) : w.heap.size ≤ gb134))
                  have n4_ := Aside0.mk ((by rw [hg]; exact (below_size (by repeat (first | (with_reducible first | exact HB.out | apply below_alloc | apply pw_below_drewN | apply below_drew1 | refine below_set ?_ GE120.out) | exact HB.out))) : w.heap.size ≤ gb134))
                  have n5_ := Aside0.mk ((by rw [hg]; exact Nat.ne_of_lt (blk_lt (g := gb120) (o := .cells #[.bool a0_0, .int .u32 a0_1, .int .u32 a0_2, .int .u64 a0_3] 25 (0, 0)) (by (with_reducible repeat (first | refine blk_drewN ?_ _ | refine blk_drew ?_ | refine blk_alloc ?_ _)); exact BK120.out)) : gb120 ≠ gb134))
                  have n6_ := Aside0.mk ((by rw [hg]; exact Nat.ne_of_gt (blk_lt (g := gb120) (o := .cells #[.bool a0_0, .int .u32 a0_1, .int .u32 a0_2, .int .u64 a0_3] 25 (0, 0)) (by (with_reducible repeat (first | refine blk_drewN ?_ _ | refine blk_drew ?_ | refine blk_alloc ?_ _)); exact BK120.out)) : gb134 ≠ gb120))
                  clear BK120
                  clear HB
                  have BK120 := n0_
                  have HB := n1_
                  have BK134 := n2_
                  have GW134 := n3_
                  have GE134 := n4_
                  have NB120_134 := n5_
                  have NB134_120 := n6_
                  clear n0_ n1_ n2_ n3_ n4_ n5_ n6_
                  clear hb hbox hg
                  refine hK.out _ _ ⟨(blk_cell BK120.out 0).trans rfl, (blk_cell BK120.out 1).trans rfl, (blk_cell BK120.out 2).trans rfl, (blk_cell BK120.out 3).trans rfl⟩ (fun hHeld => ?_)
                  clear hK K
                  refine norm_ (a' := ?_) ?_ ?_
                  rotate_left
                  ·show Act.put _ (some 8) _ = _
                   simp only [Act.put, List.setIfInBounds_toArray, List.set_cons_zero, List.set_cons_succ, i64_w, i32_w]
                   rfl
                  exact norm_ (by first | (simp only [putAll, Act.put, List.setIfInBounds_toArray, List.set_cons_zero, List.set_cons_succ]; done) | (simp only [putAll, Act.put, List.setIfInBounds_toArray, List.set_cons_zero, List.set_cons_succ]; rfl)) (hJ3_9 (gb134) _ ⟨hHeld, (by (with_reducible repeat (first | refine blk_drewN ?_ _ | refine blk_drew ?_ | refine blk_alloc ?_ _)); exact BK120.out), (by (with_reducible repeat (first | refine blk_drewN ?_ _ | refine blk_drew ?_ | refine blk_alloc ?_ _)); exact BK134.out), GW134.out, GE134.out, NB120_134.out, NB134_120.out, (by repeat (first | (with_reducible first | exact HB.out | apply below_alloc | apply pw_below_drewN | apply below_drew1 | refine below_set ?_ GE120.out | refine below_set ?_ GE134.out) | exact HB.out))⟩)
               ·skip
                rintro ⟨gb133, gb134⟩ w30 ⟨hS_, h0_, h1_, h2_, h3_, h4_, h5_, h6_, h7_, h8_, h9_, h10_, h11_, h12_, h13_⟩
                have n0_ : Aside0 (w30.heap[gb120]? = some (.cells #[.bool a0_0, .int .u32 a0_1, .int .u32 a0_2, .int .u64 a0_3] 25 (0, 0))) := ⟨h0_⟩
                have n1_ : Aside0 (w30.heap[gb133]? = some (.cells #[.bool false, .int .u32 0, .int .u32 0, .int .u64 0] 25 (0, 0))) := ⟨h1_⟩
                have n2_ : Aside0 (w30.heap[gb134]? = some (.cells #[.bool false, .int .u32 0, .int .u32 0, .int .u64 0] 25 (0, 0))) := ⟨h2_⟩
                have n3_ : Aside0 (w.heap.size ≤ gb133) := ⟨h3_⟩
                have n4_ : Aside0 (w.heap.size ≤ gb133) := ⟨h4_⟩
                have n5_ : Aside0 (gb120 ≠ gb133) := ⟨h5_⟩
                have n6_ : Aside0 (gb133 ≠ gb120) := ⟨h6_⟩
                have n7_ : Aside0 (gb134 ≠ gb133) := ⟨h7_⟩
                have n8_ : Aside0 (gb133 ≠ gb134) := ⟨h8_⟩
                have n9_ : Aside0 (w.heap.size ≤ gb134) := ⟨h9_⟩
                have n10_ : Aside0 (w.heap.size ≤ gb134) := ⟨h10_⟩
                have n11_ : Aside0 (gb120 ≠ gb134) := ⟨h11_⟩
                have n12_ : Aside0 (gb134 ≠ gb120) := ⟨h12_⟩
                have n13_ : Aside0 (Below w.heap.size w w30) := ⟨h13_⟩
                clear BK120
                clear HB
                clear h0_ h1_ h2_ h3_ h4_ h5_ h6_ h7_ h8_ h9_ h10_ h11_ h12_ h13_
                have BK120 := n0_
                have BK133 := n1_
                have BK134 := n2_
                have GW133 := n3_
                have GE133 := n4_
                have NB120_133 := n5_
                have NB133_120 := n6_
                have NB134_133 := n7_
                have NB133_134 := n8_
                have GW134 := n9_
                have GE134 := n10_
                have NB120_134 := n11_
                have NB134_120 := n12_
                have HB := n13_
                clear n0_ n1_ n2_ n3_ n4_ n5_ n6_ n7_ n8_ n9_ n10_ n11_ n12_ n13_
                have hHeld : w30.cell? ⟨gb120, 0, none⟩ = some (.bool a0_0) ∧ w30.cell? ⟨gb120, 1, none⟩ = some (.int .u32 a0_1) ∧ w30.cell? ⟨gb120, 2, none⟩ = some (.int .u32 a0_2) ∧ w30.cell? ⟨gb120, 3, none⟩ = some (.int .u64 a0_3) := hS_
                refine norm_ (a' := ?_) ?_ ?_
                rotate_left
                ·simp only [putAll, Act.put, List.setIfInBounds_toArray, List.set_cons_zero, List.set_cons_succ]
                 rfl
                refine one_ (i := 3) (N := some 33) #[true, true, true, true, true, true, true, false, true, true, false, false] rfl rfl (one_of HT_.out (by kernel_rfl)) (by decide) (fun K hK => ?_)
                refine goes_ Try.func9 (by kernel_rfl) rfl #[.agg #[.bool a0_0, .int .u32 a0_1, .int .u32 a0_2, .int .u64 a0_3], .int .u32 a1, .int .u32 a2] (by rfl) rfl rfl (by (try simp only [List.map_toArray, List.map_cons, List.map_nil]); first | done | rfl | (simp only [List.length_drop, List.length_take]; rfl)) ?_
                with_reducible refine (seen_Mark.calls a0_0 a0_1 a0_2 a0_3 a1 a2 t125 t126 t127 t128 _ A20.out).mono ?_
                rintro e w31 ⟨rfl, hb⟩
                refine ⟨_, rfl, ?_⟩
                have n0_ := Aside0.mk (blk_below (g := gb120) (o := .cells #[.bool a0_0, .int .u32 a0_1, .int .u32 a0_2, .int .u64 a0_3] 25 (0, 0)) (by (with_reducible repeat (first | refine blk_drewN ?_ _ | refine blk_drew ?_ | refine blk_alloc ?_ _)); exact BK120.out) hb)
                have n1_ := Aside0.mk (blk_below (g := gb133) (o := .cells #[.bool false, .int .u32 0, .int .u32 0, .int .u64 0] 25 (0, 0)) (by (with_reducible repeat (first | refine blk_drewN ?_ _ | refine blk_drew ?_ | refine blk_alloc ?_ _)); exact BK133.out) hb)
                have n2_ := Aside0.mk (blk_below (g := gb134) (o := .cells #[.bool false, .int .u32 0, .int .u32 0, .int .u64 0] 25 (0, 0)) (by (with_reducible repeat (first | refine blk_drewN ?_ _ | refine blk_drew ?_ | refine blk_alloc ?_ _)); exact BK134.out) hb)
                have n3_ := Aside0.mk (below_step (by repeat (first | (with_reducible first | exact HB.out | apply below_alloc | apply pw_below_drewN | apply below_drew1 | refine below_set ?_ GE120.out | refine below_set ?_ GE133.out | refine below_set ?_ GE134.out) | exact HB.out)) hb)
                clear BK120
                clear BK133
                clear BK134
                clear HB
                have BK120 := n0_
                have BK133 := n1_
                have BK134 := n2_
                have HB := n3_
                clear n0_ n1_ n2_ n3_
                (try clear hb)
                (try clear hb2)
                (try clear hk)
                (try clear hi)
                refine hK.out _ _ ⟨(blk_cell BK120.out 0).trans rfl, (blk_cell BK120.out 1).trans rfl, (blk_cell BK120.out 2).trans rfl, (blk_cell BK120.out 3).trans rfl⟩ (fun hHeld => ?_)
                clear hK K
                refine norm_ (a' := ?_) ?_ ?_
                rotate_left
                ·show Act.put _ (some 33) _ = _
                 simp only [Act.put, List.setIfInBounds_toArray, List.set_cons_zero, List.set_cons_succ, i64_w, i32_w]
                 rfl
                exact norm_ (by first | (simp only [putAll, Act.put, List.setIfInBounds_toArray, List.set_cons_zero, List.set_cons_succ]; done) | (simp only [putAll, Act.put, List.setIfInBounds_toArray, List.set_cons_zero, List.set_cons_succ]; rfl)) (hJ3_8_9 (gb133, gb134) _ ⟨hHeld, (by (with_reducible repeat (first | refine blk_drewN ?_ _ | refine blk_drew ?_ | refine blk_alloc ?_ _)); exact BK120.out), (by (with_reducible repeat (first | refine blk_drewN ?_ _ | refine blk_drew ?_ | refine blk_alloc ?_ _)); exact BK133.out), (by (with_reducible repeat (first | refine blk_drewN ?_ _ | refine blk_drew ?_ | refine blk_alloc ?_ _)); exact BK134.out), GW133.out, GE133.out, NB120_133.out, NB133_120.out, NB134_133.out, NB133_134.out, GW134.out, GE134.out, NB120_134.out, NB134_120.out, (by repeat (first | (with_reducible first | exact HB.out | apply below_alloc | apply pw_below_drewN | apply below_drew1 | refine below_set ?_ GE120.out | refine below_set ?_ GE133.out | refine below_set ?_ GE134.out) | exact HB.out))⟩)
              ·skip
               rintro gb134 w30 ⟨hS_, h0_, h1_, h2_, h3_, h4_, h5_, h6_⟩
               have n0_ : Aside0 (w30.heap[gb120]? = some (.cells #[.bool a0_0, .int .u32 a0_1, .int .u32 a0_2, .int .u64 a0_3] 25 (0, 0))) := ⟨h0_⟩
               have n1_ : Aside0 (w30.heap[gb134]? = some (.cells #[.bool false, .int .u32 0, .int .u32 0, .int .u64 0] 25 (0, 0))) := ⟨h1_⟩
               have n2_ : Aside0 (w.heap.size ≤ gb134) := ⟨h2_⟩
               have n3_ : Aside0 (w.heap.size ≤ gb134) := ⟨h3_⟩
               have n4_ : Aside0 (gb120 ≠ gb134) := ⟨h4_⟩
               have n5_ : Aside0 (gb134 ≠ gb120) := ⟨h5_⟩
               have n6_ : Aside0 (Below w.heap.size w w30) := ⟨h6_⟩
               clear BK120
               clear HB
               clear h0_ h1_ h2_ h3_ h4_ h5_ h6_
               have BK120 := n0_
               have BK134 := n1_
               have GW134 := n2_
               have GE134 := n3_
               have NB120_134 := n4_
               have NB134_120 := n5_
               have HB := n6_
               clear n0_ n1_ n2_ n3_ n4_ n5_ n6_
               have hHeld : w30.cell? ⟨gb120, 0, none⟩ = some (.bool a0_0) ∧ w30.cell? ⟨gb120, 1, none⟩ = some (.int .u32 a0_1) ∧ w30.cell? ⟨gb120, 2, none⟩ = some (.int .u32 a0_2) ∧ w30.cell? ⟨gb120, 3, none⟩ = some (.int .u64 a0_3) := hS_
               refine norm_ (a' := ?_) ?_ ?_
               rotate_left
               ·simp only [putAll, Act.put, List.setIfInBounds_toArray, List.set_cons_zero, List.set_cons_succ]
                rfl
               refine two_ (i := 7) (j := 8) (Ni := some 37) (Nj := some 7) #[true, true, true, true, true, true, true, true, false, true, false, false] #[true, true, true, true, true, true, true, false, true, true, false, false] rfl rfl rfl rfl (two_of HT_.out (by kernel_rfl)) (by decide) (by decide) (fun K hK => ?_) (fun K hK => ?_)
               ·skip
                refine goes_ Try.func10 (by kernel_rfl) rfl #[.agg #[.bool a0_0, .int .u32 a0_1, .int .u32 a0_2, .int .u64 a0_3], .int .u32 a1, .int .u32 a2] (by rfl) rfl rfl (by (try simp only [List.map_toArray, List.map_cons, List.map_nil]); first | done | rfl | (simp only [List.length_drop, List.length_take]; rfl)) ?_
                with_reducible refine (annuletref20_Mark.calls kj3 a0_0 a0_1 a0_2 a0_3 a1 a2 t129 t130 t131 t132 _ A21.out).mono ?_
                rintro e w31 ⟨rfl, hb⟩
                refine ⟨_, rfl, ?_⟩
                have n0_ := Aside0.mk (blk_below (g := gb120) (o := .cells #[.bool a0_0, .int .u32 a0_1, .int .u32 a0_2, .int .u64 a0_3] 25 (0, 0)) (by (with_reducible repeat (first | refine blk_drewN ?_ _ | refine blk_drew ?_ | refine blk_alloc ?_ _)); exact BK120.out) hb)
                have n1_ := Aside0.mk (blk_below (g := gb134) (o := .cells #[.bool false, .int .u32 0, .int .u32 0, .int .u64 0] 25 (0, 0)) (by (with_reducible repeat (first | refine blk_drewN ?_ _ | refine blk_drew ?_ | refine blk_alloc ?_ _)); exact BK134.out) hb)
                have n2_ := Aside0.mk (below_step (by repeat (first | (with_reducible first | exact HB.out | apply below_alloc | apply pw_below_drewN | apply below_drew1 | refine below_set ?_ GE120.out | refine below_set ?_ GE134.out) | exact HB.out)) hb)
                clear BK120
                clear BK134
                clear HB
                have BK120 := n0_
                have BK134 := n1_
                have HB := n2_
                clear n0_ n1_ n2_
                (try clear hb)
                (try clear hb2)
                (try clear hk)
                (try clear hi)
                refine hK.out _ _ ⟨(blk_cell BK120.out 0).trans rfl, (blk_cell BK120.out 1).trans rfl, (blk_cell BK120.out 2).trans rfl, (blk_cell BK120.out 3).trans rfl⟩ (fun hHeld => ?_)
                clear hK K
                refine norm_ (a' := ?_) ?_ ?_
                rotate_left
                ·show Act.put _ (some 37) _ = _
                 simp only [Act.put, List.setIfInBounds_toArray, List.set_cons_zero, List.set_cons_succ, i64_w, i32_w]
                 rfl
                exact norm_ (by first | (simp only [putAll, Act.put, List.setIfInBounds_toArray, List.set_cons_zero, List.set_cons_succ]; done) | (simp only [putAll, Act.put, List.setIfInBounds_toArray, List.set_cons_zero, List.set_cons_succ]; rfl)) (hJ3_7_9 (gb134) _ ⟨hHeld, (by (with_reducible repeat (first | refine blk_drewN ?_ _ | refine blk_drew ?_ | refine blk_alloc ?_ _)); exact BK120.out), (by (with_reducible repeat (first | refine blk_drewN ?_ _ | refine blk_drew ?_ | refine blk_alloc ?_ _)); exact BK134.out), GW134.out, GE134.out, NB120_134.out, NB134_120.out, (by repeat (first | (with_reducible first | exact HB.out | apply below_alloc | apply pw_below_drewN | apply below_drew1 | refine below_set ?_ GE120.out | refine below_set ?_ GE134.out) | exact HB.out))⟩)
               ·skip
                refine box_step ?hg (N := 7) ?hd (cs := #[.bool false, .int .u32 0, .int .u32 0, .int .u64 0]) (t := 25) ?hr ?_; (case hd => rfl); (case hg => rfl); (case hr => first | (go_simp; done) | (go_simp; rfl))
                intro gb133 hg w31 hbox hb
                have n0_ := Aside0.mk (blk_below (g := gb120) (o := .cells #[.bool a0_0, .int .u32 a0_1, .int .u32 a0_2, .int .u64 a0_3] 25 (0, 0)) (by (with_reducible repeat (first | refine blk_drewN ?_ _ | refine blk_drew ?_ | refine blk_alloc ?_ _)); exact BK120.out) hb)
                have n1_ := Aside0.mk (blk_below (g := gb134) (o := .cells #[.bool false, .int .u32 0, .int .u32 0, .int .u64 0] 25 (0, 0)) (by (with_reducible repeat (first | refine blk_drewN ?_ _ | refine blk_drew ?_ | refine blk_alloc ?_ _)); exact BK134.out) hb)
                have n2_ := Aside0.mk (below_step (by repeat (first | (with_reducible first | exact HB.out | apply below_alloc | apply pw_below_drewN | apply below_drew1 | refine below_set ?_ GE120.out | refine below_set ?_ GE134.out) | exact HB.out)) hb)
                have n3_ := Aside0.mk (hbox)
                have n4_ := Aside0.mk ((by rw [hg]; exact (below_size (by repeat (first | (with_reducible first | exact HB.out | apply below_alloc | apply pw_below_drewN | apply below_drew1 | refine below_set ?_ GE120.out | refine below_set ?_ GE134.out) | exact HB.out))) : w.heap.size ≤ gb133))
                have n5_ := Aside0.mk ((by rw [hg]; exact (below_size (by repeat (first | (with_reducible first | exact HB.out | apply below_alloc | apply pw_below_drewN | apply below_drew1 | refine below_set ?_ GE120.out | refine below_set ?_ GE134.out) | exact HB.out))) : w.heap.size ≤ gb133))
                have n6_ := Aside0.mk ((by rw [hg]; exact Nat.ne_of_lt (blk_lt (g := gb120) (o := .cells #[.bool a0_0, .int .u32 a0_1, .int .u32 a0_2, .int .u64 a0_3] 25 (0, 0)) (by (with_reducible repeat (first | refine blk_drewN ?_ _ | refine blk_drew ?_ | refine blk_alloc ?_ _)); exact BK120.out)) : gb120 ≠ gb133))
                have n7_ := Aside0.mk ((by rw [hg]; exact Nat.ne_of_gt (blk_lt (g := gb120) (o := .cells #[.bool a0_0, .int .u32 a0_1, .int .u32 a0_2, .int .u64 a0_3] 25 (0, 0)) (by (with_reducible repeat (first | refine blk_drewN ?_ _ | refine blk_drew ?_ | refine blk_alloc ?_ _)); exact BK120.out)) : gb133 ≠ gb120))
                have n8_ := Aside0.mk ((by rw [hg]; exact Nat.ne_of_lt (blk_lt (g := gb134) (o := .cells #[.bool false, .int .u32 0, .int .u32 0, .int .u64 0] 25 (0, 0)) (by (with_reducible repeat (first | refine blk_drewN ?_ _ | refine blk_drew ?_ | refine blk_alloc ?_ _)); exact BK134.out)) : gb134 ≠ gb133))
                have n9_ := Aside0.mk ((by rw [hg]; exact Nat.ne_of_gt (blk_lt (g := gb134) (o := .cells #[.bool false, .int .u32 0, .int .u32 0, .int .u64 0] 25 (0, 0)) (by (with_reducible repeat (first | refine blk_drewN ?_ _ | refine blk_drew ?_ | refine blk_alloc ?_ _)); exact BK134.out)) : gb133 ≠ gb134))
                clear BK120
                clear BK134
                clear HB
                have BK120 := n0_
                have BK134 := n1_
                have HB := n2_
                have BK133 := n3_
                have GW133 := n4_
                have GE133 := n5_
                have NB120_133 := n6_
                have NB133_120 := n7_
                have NB134_133 := n8_
                have NB133_134 := n9_
                clear n0_ n1_ n2_ n3_ n4_ n5_ n6_ n7_ n8_ n9_
                clear hb hbox hg
                refine hK.out _ _ ⟨(blk_cell BK120.out 0).trans rfl, (blk_cell BK120.out 1).trans rfl, (blk_cell BK120.out 2).trans rfl, (blk_cell BK120.out 3).trans rfl⟩ (fun hHeld => ?_)
                clear hK K
                refine norm_ (a' := ?_) ?_ ?_
                rotate_left
                ·show Act.put _ (some 7) _ = _
                 simp only [Act.put, List.setIfInBounds_toArray, List.set_cons_zero, List.set_cons_succ, i64_w, i32_w]
                 rfl
                exact norm_ (by first | (simp only [putAll, Act.put, List.setIfInBounds_toArray, List.set_cons_zero, List.set_cons_succ]; done) | (simp only [putAll, Act.put, List.setIfInBounds_toArray, List.set_cons_zero, List.set_cons_succ]; rfl)) (hJ3_8_9 (gb133, gb134) _ ⟨hHeld, (by (with_reducible repeat (first | refine blk_drewN ?_ _ | refine blk_drew ?_ | refine blk_alloc ?_ _)); exact BK120.out), (by (with_reducible repeat (first | refine blk_drewN ?_ _ | refine blk_drew ?_ | refine blk_alloc ?_ _)); exact BK133.out), (by (with_reducible repeat (first | refine blk_drewN ?_ _ | refine blk_drew ?_ | refine blk_alloc ?_ _)); exact BK134.out), GW133.out, GE133.out, NB120_133.out, NB133_120.out, NB134_133.out, NB133_134.out, GW134.out, GE134.out, NB120_134.out, NB134_120.out, (by repeat (first | (with_reducible first | exact HB.out | apply below_alloc | apply pw_below_drewN | apply below_drew1 | refine below_set ?_ GE120.out | refine below_set ?_ GE134.out | refine below_set ?_ GE133.out) | exact HB.out))⟩)
             ·skip
              rintro gb133 w30 ⟨hS_, h0_, h1_, h2_, h3_, h4_, h5_, h6_⟩
              have n0_ : Aside0 (w30.heap[gb120]? = some (.cells #[.bool a0_0, .int .u32 a0_1, .int .u32 a0_2, .int .u64 a0_3] 25 (0, 0))) := ⟨h0_⟩
              have n1_ : Aside0 (w30.heap[gb133]? = some (.cells #[.bool false, .int .u32 0, .int .u32 0, .int .u64 0] 25 (0, 0))) := ⟨h1_⟩
              have n2_ : Aside0 (w.heap.size ≤ gb133) := ⟨h2_⟩
              have n3_ : Aside0 (w.heap.size ≤ gb133) := ⟨h3_⟩
              have n4_ : Aside0 (gb120 ≠ gb133) := ⟨h4_⟩
              have n5_ : Aside0 (gb133 ≠ gb120) := ⟨h5_⟩
              have n6_ : Aside0 (Below w.heap.size w w30) := ⟨h6_⟩
              clear BK120
              clear HB
              clear h0_ h1_ h2_ h3_ h4_ h5_ h6_
              have BK120 := n0_
              have BK133 := n1_
              have GW133 := n2_
              have GE133 := n3_
              have NB120_133 := n4_
              have NB133_120 := n5_
              have HB := n6_
              clear n0_ n1_ n2_ n3_ n4_ n5_ n6_
              have hHeld : w30.cell? ⟨gb120, 0, none⟩ = some (.bool a0_0) ∧ w30.cell? ⟨gb120, 1, none⟩ = some (.int .u32 a0_1) ∧ w30.cell? ⟨gb120, 2, none⟩ = some (.int .u32 a0_2) ∧ w30.cell? ⟨gb120, 3, none⟩ = some (.int .u64 a0_3) := hS_
              refine norm_ (a' := ?_) ?_ ?_
              rotate_left
              ·simp only [putAll, Act.put, List.setIfInBounds_toArray, List.set_cons_zero, List.set_cons_succ]
               rfl
              refine two_ (i := 7) (j := 9) (Ni := some 37) (Nj := some 8) #[true, true, true, true, true, true, true, true, true, false, false, false] #[true, true, true, true, true, true, true, false, true, true, false, false] rfl rfl rfl rfl (two_of HT_.out (by kernel_rfl)) (by decide) (by decide) (fun K hK => ?_) (fun K hK => ?_)
              ·skip
               refine goes_ Try.func10 (by kernel_rfl) rfl #[.agg #[.bool a0_0, .int .u32 a0_1, .int .u32 a0_2, .int .u64 a0_3], .int .u32 a1, .int .u32 a2] (by rfl) rfl rfl (by (try simp only [List.map_toArray, List.map_cons, List.map_nil]); first | done | rfl | (simp only [List.length_drop, List.length_take]; rfl)) ?_
               with_reducible refine (annuletref20_Mark.calls kj3 a0_0 a0_1 a0_2 a0_3 a1 a2 t129 t130 t131 t132 _ A21.out).mono ?_
               rintro e w31 ⟨rfl, hb⟩
               refine ⟨_, rfl, ?_⟩
               have n0_ := Aside0.mk (blk_below (g := gb120) (o := .cells #[.bool a0_0, .int .u32 a0_1, .int .u32 a0_2, .int .u64 a0_3] 25 (0, 0)) (by (with_reducible repeat (first | refine blk_drewN ?_ _ | refine blk_drew ?_ | refine blk_alloc ?_ _)); exact BK120.out) hb)
               have n1_ := Aside0.mk (blk_below (g := gb133) (o := .cells #[.bool false, .int .u32 0, .int .u32 0, .int .u64 0] 25 (0, 0)) (by (with_reducible repeat (first | refine blk_drewN ?_ _ | refine blk_drew ?_ | refine blk_alloc ?_ _)); exact BK133.out) hb)
               have n2_ := Aside0.mk (below_step (by repeat (first | (with_reducible first | exact HB.out | apply below_alloc | apply pw_below_drewN | apply below_drew1 | refine below_set ?_ GE120.out | refine below_set ?_ GE133.out) | exact HB.out)) hb)
               clear BK120
               clear BK133
               clear HB
               have BK120 := n0_
               have BK133 := n1_
               have HB := n2_
               clear n0_ n1_ n2_
               (try clear hb)
               (try clear hb2)
               (try clear hk)
               (try clear hi)
               refine hK.out _ _ ⟨(blk_cell BK120.out 0).trans rfl, (blk_cell BK120.out 1).trans rfl, (blk_cell BK120.out 2).trans rfl, (blk_cell BK120.out 3).trans rfl⟩ (fun hHeld => ?_)
               clear hK K
               refine norm_ (a' := ?_) ?_ ?_
               rotate_left
               ·show Act.put _ (some 37) _ = _
                simp only [Act.put, List.setIfInBounds_toArray, List.set_cons_zero, List.set_cons_succ, i64_w, i32_w]
                rfl
               exact norm_ (by first | (simp only [putAll, Act.put, List.setIfInBounds_toArray, List.set_cons_zero, List.set_cons_succ]; done) | (simp only [putAll, Act.put, List.setIfInBounds_toArray, List.set_cons_zero, List.set_cons_succ]; rfl)) (hJ3_7_8 (gb133) _ ⟨hHeld, (by (with_reducible repeat (first | refine blk_drewN ?_ _ | refine blk_drew ?_ | refine blk_alloc ?_ _)); exact BK120.out), (by (with_reducible repeat (first | refine blk_drewN ?_ _ | refine blk_drew ?_ | refine blk_alloc ?_ _)); exact BK133.out), GW133.out, GE133.out, NB120_133.out, NB133_120.out, (by repeat (first | (with_reducible first | exact HB.out | apply below_alloc | apply pw_below_drewN | apply below_drew1 | refine below_set ?_ GE120.out | refine below_set ?_ GE133.out) | exact HB.out))⟩)
              ·skip
               refine box_step ?hg (N := 8) ?hd (cs := #[.bool false, .int .u32 0, .int .u32 0, .int .u64 0]) (t := 25) ?hr ?_; (case hd => rfl); (case hg => rfl); (case hr => first | (go_simp; done) | (go_simp; rfl))
               intro gb134 hg w31 hbox hb
               have n0_ := Aside0.mk (blk_below (g := gb120) (o := .cells #[.bool a0_0, .int .u32 a0_1, .int .u32 a0_2, .int .u64 a0_3] 25 (0, 0)) (by (with_reducible repeat (first | refine blk_drewN ?_ _ | refine blk_drew ?_ | refine blk_alloc ?_ _)); exact BK120.out) hb)
               have n1_ := Aside0.mk (blk_below (g := gb133) (o := .cells #[.bool false, .int .u32 0, .int .u32 0, .int .u64 0] 25 (0, 0)) (by (with_reducible repeat (first | refine blk_drewN ?_ _ | refine blk_drew ?_ | refine blk_alloc ?_ _)); exact BK133.out) hb)
               have n2_ := Aside0.mk (below_step (by repeat (first | (with_reducible first | exact HB.out | apply below_alloc | apply pw_below_drewN | apply below_drew1 | refine below_set ?_ GE120.out | refine below_set ?_ GE133.out) | exact HB.out)) hb)
               have n3_ := Aside0.mk (hbox)
               have n4_ := Aside0.mk ((by rw [hg]; exact (below_size (by repeat (first | (with_reducible first | exact HB.out | apply below_alloc | apply pw_below_drewN | apply below_drew1 | refine below_set ?_ GE120.out | refine below_set ?_ GE133.out) | exact HB.out))) : w.heap.size ≤ gb134))
               have n5_ := Aside0.mk ((by rw [hg]; exact (below_size (by repeat (first | (with_reducible first | exact HB.out | apply below_alloc | apply pw_below_drewN | apply below_drew1 | refine below_set ?_ GE120.out | refine below_set ?_ GE133.out) | exact HB.out))) : w.heap.size ≤ gb134))
               have n6_ := Aside0.mk ((by rw [hg]; exact Nat.ne_of_lt (blk_lt (g := gb120) (o := .cells #[.bool a0_0, .int .u32 a0_1, .int .u32 a0_2, .int .u64 a0_3] 25 (0, 0)) (by (with_reducible repeat (first | refine blk_drewN ?_ _ | refine blk_drew ?_ | refine blk_alloc ?_ _)); exact BK120.out)) : gb120 ≠ gb134))
               have n7_ := Aside0.mk ((by rw [hg]; exact Nat.ne_of_gt (blk_lt (g := gb120) (o := .cells #[.bool a0_0, .int .u32 a0_1, .int .u32 a0_2, .int .u64 a0_3] 25 (0, 0)) (by (with_reducible repeat (first | refine blk_drewN ?_ _ | refine blk_drew ?_ | refine blk_alloc ?_ _)); exact BK120.out)) : gb134 ≠ gb120))
               have n8_ := Aside0.mk ((by rw [hg]; exact Nat.ne_of_lt (blk_lt (g := gb133) (o := .cells #[.bool false, .int .u32 0, .int .u32 0, .int .u64 0] 25 (0, 0)) (by (with_reducible repeat (first | refine blk_drewN ?_ _ | refine blk_drew ?_ | refine blk_alloc ?_ _)); exact BK133.out)) : gb133 ≠ gb134))
               have n9_ := Aside0.mk ((by rw [hg]; exact Nat.ne_of_gt (blk_lt (g := gb133) (o := .cells #[.bool false, .int .u32 0, .int .u32 0, .int .u64 0] 25 (0, 0)) (by (with_reducible repeat (first | refine blk_drewN ?_ _ | refine blk_drew ?_ | refine blk_alloc ?_ _)); exact BK133.out)) : gb134 ≠ gb133))
               clear BK120
               clear BK133
               clear HB
               have BK120 := n0_
               have BK133 := n1_
               have HB := n2_
               have BK134 := n3_
               have GW134 := n4_
               have GE134 := n5_
               have NB120_134 := n6_
               have NB134_120 := n7_
               have NB133_134 := n8_
               have NB134_133 := n9_
               clear n0_ n1_ n2_ n3_ n4_ n5_ n6_ n7_ n8_ n9_
               clear hb hbox hg
               refine hK.out _ _ ⟨(blk_cell BK120.out 0).trans rfl, (blk_cell BK120.out 1).trans rfl, (blk_cell BK120.out 2).trans rfl, (blk_cell BK120.out 3).trans rfl⟩ (fun hHeld => ?_)
               clear hK K
               refine norm_ (a' := ?_) ?_ ?_
               rotate_left
               ·show Act.put _ (some 8) _ = _
                simp only [Act.put, List.setIfInBounds_toArray, List.set_cons_zero, List.set_cons_succ, i64_w, i32_w]
                rfl
               exact norm_ (by first | (simp only [putAll, Act.put, List.setIfInBounds_toArray, List.set_cons_zero, List.set_cons_succ]; done) | (simp only [putAll, Act.put, List.setIfInBounds_toArray, List.set_cons_zero, List.set_cons_succ]; rfl)) (hJ3_8_9 (gb133, gb134) _ ⟨hHeld, (by (with_reducible repeat (first | refine blk_drewN ?_ _ | refine blk_drew ?_ | refine blk_alloc ?_ _)); exact BK120.out), (by (with_reducible repeat (first | refine blk_drewN ?_ _ | refine blk_drew ?_ | refine blk_alloc ?_ _)); exact BK133.out), (by (with_reducible repeat (first | refine blk_drewN ?_ _ | refine blk_drew ?_ | refine blk_alloc ?_ _)); exact BK134.out), GW133.out, GE133.out, NB120_133.out, NB133_120.out, NB134_133.out, NB133_134.out, GW134.out, GE134.out, NB120_134.out, NB134_120.out, (by repeat (first | (with_reducible first | exact HB.out | apply below_alloc | apply pw_below_drewN | apply below_drew1 | refine below_set ?_ GE120.out | refine below_set ?_ GE133.out | refine below_set ?_ GE134.out) | exact HB.out))⟩)
            ·skip
             rintro _ w30 ⟨hS_, h0_, h1_⟩
             have n0_ : Aside0 (w30.heap[gb120]? = some (.cells #[.bool a0_0, .int .u32 a0_1, .int .u32 a0_2, .int .u64 a0_3] 25 (0, 0))) := ⟨h0_⟩
             have n1_ : Aside0 (Below w.heap.size w w30) := ⟨h1_⟩
             clear BK120
             clear HB
             clear h0_ h1_
             have BK120 := n0_
             have HB := n1_
             clear n0_ n1_
             have hHeld : w30.cell? ⟨gb120, 0, none⟩ = some (.bool a0_0) ∧ w30.cell? ⟨gb120, 1, none⟩ = some (.int .u32 a0_1) ∧ w30.cell? ⟨gb120, 2, none⟩ = some (.int .u32 a0_2) ∧ w30.cell? ⟨gb120, 3, none⟩ = some (.int .u64 a0_3) := hS_
             refine norm_ (a' := ?_) ?_ ?_
             rotate_left
             ·simp only [putAll, Act.put, List.setIfInBounds_toArray, List.set_cons_zero, List.set_cons_succ]
              rfl
             refine two_ (i := 8) (j := 9) (Ni := some 7) (Nj := some 8) #[true, true, true, true, true, true, true, true, true, false, false, false] #[true, true, true, true, true, true, true, true, false, true, false, false] rfl rfl rfl rfl (two_of HT_.out (by kernel_rfl)) (by decide) (by decide) (fun K hK => ?_) (fun K hK => ?_)
             ·skip
              refine box_step ?hg (N := 7) ?hd (cs := #[.bool false, .int .u32 0, .int .u32 0, .int .u64 0]) (t := 25) ?hr ?_; (case hd => rfl); (case hg => rfl); (case hr => first | (go_simp; done) | (go_simp; rfl))
              intro gb133 hg w31 hbox hb
              have n0_ := Aside0.mk (blk_below (g := gb120) (o := .cells #[.bool a0_0, .int .u32 a0_1, .int .u32 a0_2, .int .u64 a0_3] 25 (0, 0)) (by (with_reducible repeat (first | refine blk_drewN ?_ _ | refine blk_drew ?_ | refine blk_alloc ?_ _)); exact BK120.out) hb)
              have n1_ := Aside0.mk (below_step (by repeat (first | (with_reducible first | exact HB.out | apply below_alloc | apply pw_below_drewN | apply below_drew1 | refine below_set ?_ GE120.out) | exact HB.out)) hb)
              have n2_ := Aside0.mk (hbox)
              have n3_ := Aside0.mk ((by rw [hg]; exact (below_size (by repeat (first | (with_reducible first | exact HB.out | apply below_alloc | apply pw_below_drewN | apply below_drew1 | refine below_set ?_ GE120.out) | exact HB.out))) : w.heap.size ≤ gb133))
              have n4_ := Aside0.mk ((by rw [hg]; exact (below_size (by repeat (first | (with_reducible first | exact HB.out | apply below_alloc | apply pw_below_drewN | apply below_drew1 | refine below_set ?_ GE120.out) | exact HB.out))) : w.heap.size ≤ gb133))
              have n5_ := Aside0.mk ((by rw [hg]; exact Nat.ne_of_lt (blk_lt (g := gb120) (o := .cells #[.bool a0_0, .int .u32 a0_1, .int .u32 a0_2, .int .u64 a0_3] 25 (0, 0)) (by (with_reducible repeat (first | refine blk_drewN ?_ _ | refine blk_drew ?_ | refine blk_alloc ?_ _)); exact BK120.out)) : gb120 ≠ gb133))
              have n6_ := Aside0.mk ((by rw [hg]; exact Nat.ne_of_gt (blk_lt (g := gb120) (o := .cells #[.bool a0_0, .int .u32 a0_1, .int .u32 a0_2, .int .u64 a0_3] 25 (0, 0)) (by (with_reducible repeat (first | refine blk_drewN ?_ _ | refine blk_drew ?_ | refine blk_alloc ?_ _)); exact BK120.out)) : gb133 ≠ gb120))
              clear BK120
              clear HB
              have BK120 := n0_
              have HB := n1_
              have BK133 := n2_
              have GW133 := n3_
              have GE133 := n4_
              have NB120_133 := n5_
              have NB133_120 := n6_
              clear n0_ n1_ n2_ n3_ n4_ n5_ n6_
              clear hb hbox hg
              refine hK.out _ _ ⟨(blk_cell BK120.out 0).trans rfl, (blk_cell BK120.out 1).trans rfl, (blk_cell BK120.out 2).trans rfl, (blk_cell BK120.out 3).trans rfl⟩ (fun hHeld => ?_)
              clear hK K
              refine norm_ (a' := ?_) ?_ ?_
              rotate_left
              ·show Act.put _ (some 7) _ = _
               simp only [Act.put, List.setIfInBounds_toArray, List.set_cons_zero, List.set_cons_succ, i64_w, i32_w]
               rfl
              exact norm_ (by first | (simp only [putAll, Act.put, List.setIfInBounds_toArray, List.set_cons_zero, List.set_cons_succ]; done) | (simp only [putAll, Act.put, List.setIfInBounds_toArray, List.set_cons_zero, List.set_cons_succ]; rfl)) (hJ3_7_8 (gb133) _ ⟨hHeld, (by (with_reducible repeat (first | refine blk_drewN ?_ _ | refine blk_drew ?_ | refine blk_alloc ?_ _)); exact BK120.out), (by (with_reducible repeat (first | refine blk_drewN ?_ _ | refine blk_drew ?_ | refine blk_alloc ?_ _)); exact BK133.out), GW133.out, GE133.out, NB120_133.out, NB133_120.out, (by repeat (first | (with_reducible first | exact HB.out | apply below_alloc | apply pw_below_drewN | apply below_drew1 | refine below_set ?_ GE120.out | refine below_set ?_ GE133.out) | exact HB.out))⟩)
             ·skip
              refine box_step ?hg (N := 8) ?hd (cs := #[.bool false, .int .u32 0, .int .u32 0, .int .u64 0]) (t := 25) ?hr ?_; (case hd => rfl); (case hg => rfl); (case hr => first | (go_simp; done) | (go_simp; rfl))
              intro gb134 hg w31 hbox hb
              have n0_ := Aside0.mk (blk_below (g := gb120) (o := .cells #[.bool a0_0, .int .u32 a0_1, .int .u32 a0_2, .int .u64 a0_3] 25 (0, 0)) (by (with_reducible repeat (first | refine blk_drewN ?_ _ | refine blk_drew ?_ | refine blk_alloc ?_ _)); exact BK120.out) hb)
              have n1_ := Aside0.mk (below_step (by repeat (first | (with_reducible first | exact HB.out | apply below_alloc | apply pw_below_drewN | apply below_drew1 | refine below_set ?_ GE120.out) | exact HB.out)) hb)
              have n2_ := Aside0.mk (hbox)
              have n3_ := Aside0.mk ((by rw [hg]; exact (below_size (by repeat (first | (with_reducible first | exact HB.out | apply below_alloc | apply pw_below_drewN | apply below_drew1 | refine below_set ?_ GE120.out) | exact HB.out))) : w.heap.size ≤ gb134))
              have n4_ := Aside0.mk ((by rw [hg]; exact (below_size (by repeat (first | (with_reducible first | exact HB.out | apply below_alloc | apply pw_below_drewN | apply below_drew1 | refine below_set ?_ GE120.out) | exact HB.out))) : w.heap.size ≤ gb134))
              have n5_ := Aside0.mk ((by rw [hg]; exact Nat.ne_of_lt (blk_lt (g := gb120) (o := .cells #[.bool a0_0, .int .u32 a0_1, .int .u32 a0_2, .int .u64 a0_3] 25 (0, 0)) (by (with_reducible repeat (first | refine blk_drewN ?_ _ | refine blk_drew ?_ | refine blk_alloc ?_ _)); exact BK120.out)) : gb120 ≠ gb134))
              have n6_ := Aside0.mk ((by rw [hg]; exact Nat.ne_of_gt (blk_lt (g := gb120) (o := .cells #[.bool a0_0, .int .u32 a0_1, .int .u32 a0_2, .int .u64 a0_3] 25 (0, 0)) (by (with_reducible repeat (first | refine blk_drewN ?_ _ | refine blk_drew ?_ | refine blk_alloc ?_ _)); exact BK120.out)) : gb134 ≠ gb120))
              clear BK120
              clear HB
              have BK120 := n0_
              have HB := n1_
              have BK134 := n2_
              have GW134 := n3_
              have GE134 := n4_
              have NB120_134 := n5_
              have NB134_120 := n6_
              clear n0_ n1_ n2_ n3_ n4_ n5_ n6_
              clear hb hbox hg
              refine hK.out _ _ ⟨(blk_cell BK120.out 0).trans rfl, (blk_cell BK120.out 1).trans rfl, (blk_cell BK120.out 2).trans rfl, (blk_cell BK120.out 3).trans rfl⟩ (fun hHeld => ?_)
              clear hK K
              refine norm_ (a' := ?_) ?_ ?_
              rotate_left
              ·show Act.put _ (some 8) _ = _
               simp only [Act.put, List.setIfInBounds_toArray, List.set_cons_zero, List.set_cons_succ, i64_w, i32_w]
               rfl
              exact norm_ (by first | (simp only [putAll, Act.put, List.setIfInBounds_toArray, List.set_cons_zero, List.set_cons_succ]; done) | (simp only [putAll, Act.put, List.setIfInBounds_toArray, List.set_cons_zero, List.set_cons_succ]; rfl)) (hJ3_7_9 (gb134) _ ⟨hHeld, (by (with_reducible repeat (first | refine blk_drewN ?_ _ | refine blk_drew ?_ | refine blk_alloc ?_ _)); exact BK120.out), (by (with_reducible repeat (first | refine blk_drewN ?_ _ | refine blk_drew ?_ | refine blk_alloc ?_ _)); exact BK134.out), GW134.out, GE134.out, NB120_134.out, NB134_120.out, (by repeat (first | (with_reducible first | exact HB.out | apply below_alloc | apply pw_below_drewN | apply below_drew1 | refine below_set ?_ GE120.out | refine below_set ?_ GE134.out) | exact HB.out))⟩)
           ·skip
            rintro ⟨gb133, gb134⟩ w31 ⟨hS_, h0_, h1_, h2_, h3_, h4_, h5_, h6_, h7_, h8_, h9_, h10_, h11_, h12_, h13_⟩
            have n0_ : Aside0 (w31.heap[gb120]? = some (.cells #[.bool a0_0, .int .u32 a0_1, .int .u32 a0_2, .int .u64 a0_3] 25 (0, 0))) := ⟨h0_⟩
            have n1_ : Aside0 (w31.heap[gb133]? = some (.cells #[.bool false, .int .u32 0, .int .u32 0, .int .u64 0] 25 (0, 0))) := ⟨h1_⟩
            have n2_ : Aside0 (w31.heap[gb134]? = some (.cells #[.bool false, .int .u32 0, .int .u32 0, .int .u64 0] 25 (0, 0))) := ⟨h2_⟩
            have n3_ : Aside0 (w.heap.size ≤ gb133) := ⟨h3_⟩
            have n4_ : Aside0 (w.heap.size ≤ gb133) := ⟨h4_⟩
            have n5_ : Aside0 (gb120 ≠ gb133) := ⟨h5_⟩
            have n6_ : Aside0 (gb133 ≠ gb120) := ⟨h6_⟩
            have n7_ : Aside0 (gb134 ≠ gb133) := ⟨h7_⟩
            have n8_ : Aside0 (gb133 ≠ gb134) := ⟨h8_⟩
            have n9_ : Aside0 (w.heap.size ≤ gb134) := ⟨h9_⟩
            have n10_ : Aside0 (w.heap.size ≤ gb134) := ⟨h10_⟩
            have n11_ : Aside0 (gb120 ≠ gb134) := ⟨h11_⟩
            have n12_ : Aside0 (gb134 ≠ gb120) := ⟨h12_⟩
            have n13_ : Aside0 (Below w.heap.size w w31) := ⟨h13_⟩
            clear BK120
            clear HB
            clear h0_ h1_ h2_ h3_ h4_ h5_ h6_ h7_ h8_ h9_ h10_ h11_ h12_ h13_
            have BK120 := n0_
            have BK133 := n1_
            have BK134 := n2_
            have GW133 := n3_
            have GE133 := n4_
            have NB120_133 := n5_
            have NB133_120 := n6_
            have NB134_133 := n7_
            have NB133_134 := n8_
            have GW134 := n9_
            have GE134 := n10_
            have NB120_134 := n11_
            have NB134_120 := n12_
            have HB := n13_
            clear n0_ n1_ n2_ n3_ n4_ n5_ n6_ n7_ n8_ n9_ n10_ n11_ n12_ n13_
            have hHeld : w31.cell? ⟨gb120, 0, none⟩ = some (.bool a0_0) ∧ w31.cell? ⟨gb120, 1, none⟩ = some (.int .u32 a0_1) ∧ w31.cell? ⟨gb120, 2, none⟩ = some (.int .u32 a0_2) ∧ w31.cell? ⟨gb120, 3, none⟩ = some (.int .u64 a0_3) := hS_
            refine norm_ (a' := ?_) ?_ ?_
            rotate_left
            ·simp only [putAll, Act.put, List.setIfInBounds_toArray, List.set_cons_zero, List.set_cons_succ]
             rfl
            refine one_ (i := 7) (N := some 37) #[true, true, true, true, true, true, true, true, true, true, false, false] rfl rfl (one_of HT_.out (by kernel_rfl)) (by decide) (fun K hK => ?_)
            refine goes_ Try.func10 (by kernel_rfl) rfl #[.agg #[.bool a0_0, .int .u32 a0_1, .int .u32 a0_2, .int .u64 a0_3], .int .u32 a1, .int .u32 a2] (by rfl) rfl rfl (by (try simp only [List.map_toArray, List.map_cons, List.map_nil]); first | done | rfl | (simp only [List.length_drop, List.length_take]; rfl)) ?_
            with_reducible refine (annuletref20_Mark.calls kj3 a0_0 a0_1 a0_2 a0_3 a1 a2 t129 t130 t131 t132 _ A21.out).mono ?_
            rintro e w32 ⟨rfl, hb⟩
            refine ⟨_, rfl, ?_⟩
            have n0_ := Aside0.mk (blk_below (g := gb120) (o := .cells #[.bool a0_0, .int .u32 a0_1, .int .u32 a0_2, .int .u64 a0_3] 25 (0, 0)) (by (with_reducible repeat (first | refine blk_drewN ?_ _ | refine blk_drew ?_ | refine blk_alloc ?_ _)); exact BK120.out) hb)
            have n1_ := Aside0.mk (blk_below (g := gb133) (o := .cells #[.bool false, .int .u32 0, .int .u32 0, .int .u64 0] 25 (0, 0)) (by (with_reducible repeat (first | refine blk_drewN ?_ _ | refine blk_drew ?_ | refine blk_alloc ?_ _)); exact BK133.out) hb)
            have n2_ := Aside0.mk (blk_below (g := gb134) (o := .cells #[.bool false, .int .u32 0, .int .u32 0, .int .u64 0] 25 (0, 0)) (by (with_reducible repeat (first | refine blk_drewN ?_ _ | refine blk_drew ?_ | refine blk_alloc ?_ _)); exact BK134.out) hb)
            have n3_ := Aside0.mk (below_step (by repeat (first | (with_reducible first | exact HB.out | apply below_alloc | apply pw_below_drewN | apply below_drew1 | refine below_set ?_ GE120.out | refine below_set ?_ GE133.out | refine below_set ?_ GE134.out) | exact HB.out)) hb)
            clear BK120
            clear BK133
            clear BK134
            clear HB
            have BK120 := n0_
            have BK133 := n1_
            have BK134 := n2_
            have HB := n3_
            clear n0_ n1_ n2_ n3_
            (try clear hb)
            (try clear hb2)
            (try clear hk)
            (try clear hi)
            refine hK.out _ _ ⟨(blk_cell BK120.out 0).trans rfl, (blk_cell BK120.out 1).trans rfl, (blk_cell BK120.out 2).trans rfl, (blk_cell BK120.out 3).trans rfl⟩ (fun hHeld => ?_)
            clear hK K
            refine norm_ (a' := ?_) ?_ ?_
            rotate_left
            ·show Act.put _ (some 37) _ = _
             simp only [Act.put, List.setIfInBounds_toArray, List.set_cons_zero, List.set_cons_succ, i64_w, i32_w]
             rfl
            exact norm_ (by first | (simp only [putAll, Act.put, List.setIfInBounds_toArray, List.set_cons_zero, List.set_cons_succ]; done) | (simp only [putAll, Act.put, List.setIfInBounds_toArray, List.set_cons_zero, List.set_cons_succ]; rfl)) (hJ3_7_8_9 (gb133, gb134) _ ⟨hHeld, (by (with_reducible repeat (first | refine blk_drewN ?_ _ | refine blk_drew ?_ | refine blk_alloc ?_ _)); exact BK120.out), (by (with_reducible repeat (first | refine blk_drewN ?_ _ | refine blk_drew ?_ | refine blk_alloc ?_ _)); exact BK133.out), (by (with_reducible repeat (first | refine blk_drewN ?_ _ | refine blk_drew ?_ | refine blk_alloc ?_ _)); exact BK134.out), GW133.out, GE133.out, NB120_133.out, NB133_120.out, NB134_133.out, NB133_134.out, GW134.out, GE134.out, NB120_134.out, NB134_120.out, (by repeat (first | (with_reducible first | exact HB.out | apply below_alloc | apply pw_below_drewN | apply below_drew1 | refine below_set ?_ GE120.out | refine below_set ?_ GE133.out | refine below_set ?_ GE134.out) | exact HB.out))⟩)
          ·skip
           rintro gb134 w31 ⟨hS_, h0_, h1_, h2_, h3_, h4_, h5_, h6_⟩
           have n0_ : Aside0 (w31.heap[gb120]? = some (.cells #[.bool a0_0, .int .u32 a0_1, .int .u32 a0_2, .int .u64 a0_3] 25 (0, 0))) := ⟨h0_⟩
           have n1_ : Aside0 (w31.heap[gb134]? = some (.cells #[.bool false, .int .u32 0, .int .u32 0, .int .u64 0] 25 (0, 0))) := ⟨h1_⟩
           have n2_ : Aside0 (w.heap.size ≤ gb134) := ⟨h2_⟩
           have n3_ : Aside0 (w.heap.size ≤ gb134) := ⟨h3_⟩
           have n4_ : Aside0 (gb120 ≠ gb134) := ⟨h4_⟩
           have n5_ : Aside0 (gb134 ≠ gb120) := ⟨h5_⟩
           have n6_ : Aside0 (Below w.heap.size w w31) := ⟨h6_⟩
           clear BK120
           clear HB
           clear h0_ h1_ h2_ h3_ h4_ h5_ h6_
           have BK120 := n0_
           have BK134 := n1_
           have GW134 := n2_
           have GE134 := n3_
           have NB120_134 := n4_
           have NB134_120 := n5_
           have HB := n6_
           clear n0_ n1_ n2_ n3_ n4_ n5_ n6_
           have hHeld : w31.cell? ⟨gb120, 0, none⟩ = some (.bool a0_0) ∧ w31.cell? ⟨gb120, 1, none⟩ = some (.int .u32 a0_1) ∧ w31.cell? ⟨gb120, 2, none⟩ = some (.int .u32 a0_2) ∧ w31.cell? ⟨gb120, 3, none⟩ = some (.int .u64 a0_3) := hS_
           refine norm_ (a' := ?_) ?_ ?_
           rotate_left
           ·simp only [putAll, Act.put, List.setIfInBounds_toArray, List.set_cons_zero, List.set_cons_succ]
            rfl
           refine one_ (i := 8) (N := some 7) #[true, true, true, true, true, true, true, true, true, true, false, false] rfl rfl (one_of HT_.out (by kernel_rfl)) (by decide) (fun K hK => ?_)
           refine box_step ?hg (N := 7) ?hd (cs := #[.bool false, .int .u32 0, .int .u32 0, .int .u64 0]) (t := 25) ?hr ?_; (case hd => rfl); (case hg => rfl); (case hr => first | (go_simp; done) | (go_simp; rfl))
           intro gb133 hg w32 hbox hb
           have n0_ := Aside0.mk (blk_below (g := gb120) (o := .cells #[.bool a0_0, .int .u32 a0_1, .int .u32 a0_2, .int .u64 a0_3] 25 (0, 0)) (by (with_reducible repeat (first | refine blk_drewN ?_ _ | refine blk_drew ?_ | refine blk_alloc ?_ _)); exact BK120.out) hb)
           have n1_ := Aside0.mk (blk_below (g := gb134) (o := .cells #[.bool false, .int .u32 0, .int .u32 0, .int .u64 0] 25 (0, 0)) (by (with_reducible repeat (first | refine blk_drewN ?_ _ | refine blk_drew ?_ | refine blk_alloc ?_ _)); exact BK134.out) hb)
           have n2_ := Aside0.mk (below_step (by repeat (first | (with_reducible first | exact HB.out | apply below_alloc | apply pw_below_drewN | apply below_drew1 | refine below_set ?_ GE120.out | refine below_set ?_ GE134.out) | exact HB.out)) hb)
           have n3_ := Aside0.mk (hbox)
           have n4_ := Aside0.mk ((by rw [hg]; exact (below_size (by repeat (first | (with_reducible first | exact HB.out | apply below_alloc | apply pw_below_drewN | apply below_drew1 | refine below_set ?_ GE120.out | refine below_set ?_ GE134.out) | exact HB.out))) : w.heap.size ≤ gb133))
           have n5_ := Aside0.mk ((by rw [hg]; exact (below_size (by repeat (first | (with_reducible first | exact HB.out | apply below_alloc | apply pw_below_drewN | apply below_drew1 | refine below_set ?_ GE120.out | refine below_set ?_ GE134.out) | exact HB.out))) : w.heap.size ≤ gb133))
           have n6_ := Aside0.mk ((by rw [hg]; exact Nat.ne_of_lt (blk_lt (g := gb120) (o := .cells #[.bool a0_0, .int .u32 a0_1, .int .u32 a0_2, .int .u64 a0_3] 25 (0, 0)) (by (with_reducible repeat (first | refine blk_drewN ?_ _ | refine blk_drew ?_ | refine blk_alloc ?_ _)); exact BK120.out)) : gb120 ≠ gb133))
           have n7_ := Aside0.mk ((by rw [hg]; exact Nat.ne_of_gt (blk_lt (g := gb120) (o := .cells #[.bool a0_0, .int .u32 a0_1, .int .u32 a0_2, .int .u64 a0_3] 25 (0, 0)) (by (with_reducible repeat (first | refine blk_drewN ?_ _ | refine blk_drew ?_ | refine blk_alloc ?_ _)); exact BK120.out)) : gb133 ≠ gb120))
           have n8_ := Aside0.mk ((by rw [hg]; exact Nat.ne_of_lt (blk_lt (g := gb134) (o := .cells #[.bool false, .int .u32 0, .int .u32 0, .int .u64 0] 25 (0, 0)) (by (with_reducible repeat (first | refine blk_drewN ?_ _ | refine blk_drew ?_ | refine blk_alloc ?_ _)); exact BK134.out)) : gb134 ≠ gb133))
           have n9_ := Aside0.mk ((by rw [hg]; exact Nat.ne_of_gt (blk_lt (g := gb134) (o := .cells #[.bool false, .int .u32 0, .int .u32 0, .int .u64 0] 25 (0, 0)) (by (with_reducible repeat (first | refine blk_drewN ?_ _ | refine blk_drew ?_ | refine blk_alloc ?_ _)); exact BK134.out)) : gb133 ≠ gb134))
           clear BK120
           clear BK134
           clear HB
           have BK120 := n0_
           have BK134 := n1_
           have HB := n2_
           have BK133 := n3_
           have GW133 := n4_
           have GE133 := n5_
           have NB120_133 := n6_
           have NB133_120 := n7_
           have NB134_133 := n8_
           have NB133_134 := n9_
           clear n0_ n1_ n2_ n3_ n4_ n5_ n6_ n7_ n8_ n9_
           clear hb hbox hg
           refine hK.out _ _ ⟨(blk_cell BK120.out 0).trans rfl, (blk_cell BK120.out 1).trans rfl, (blk_cell BK120.out 2).trans rfl, (blk_cell BK120.out 3).trans rfl⟩ (fun hHeld => ?_)
           clear hK K
           refine norm_ (a' := ?_) ?_ ?_
           rotate_left
           ·show Act.put _ (some 7) _ = _
            simp only [Act.put, List.setIfInBounds_toArray, List.set_cons_zero, List.set_cons_succ, i64_w, i32_w]
            rfl
           exact norm_ (by first | (simp only [putAll, Act.put, List.setIfInBounds_toArray, List.set_cons_zero, List.set_cons_succ]; done) | (simp only [putAll, Act.put, List.setIfInBounds_toArray, List.set_cons_zero, List.set_cons_succ]; rfl)) (hJ3_7_8_9 (gb133, gb134) _ ⟨hHeld, (by (with_reducible repeat (first | refine blk_drewN ?_ _ | refine blk_drew ?_ | refine blk_alloc ?_ _)); exact BK120.out), (by (with_reducible repeat (first | refine blk_drewN ?_ _ | refine blk_drew ?_ | refine blk_alloc ?_ _)); exact BK133.out), (by (with_reducible repeat (first | refine blk_drewN ?_ _ | refine blk_drew ?_ | refine blk_alloc ?_ _)); exact BK134.out), GW133.out, GE133.out, NB120_133.out, NB133_120.out, NB134_133.out, NB133_134.out, GW134.out, GE134.out, NB120_134.out, NB134_120.out, (by repeat (first | (with_reducible first | exact HB.out | apply below_alloc | apply pw_below_drewN | apply below_drew1 | refine below_set ?_ GE120.out | refine below_set ?_ GE134.out | refine below_set ?_ GE133.out) | exact HB.out))⟩)
         ·skip
          rintro gb133 w31 ⟨hS_, h0_, h1_, h2_, h3_, h4_, h5_, h6_⟩
          have n0_ : Aside0 (w31.heap[gb120]? = some (.cells #[.bool a0_0, .int .u32 a0_1, .int .u32 a0_2, .int .u64 a0_3] 25 (0, 0))) := ⟨h0_⟩
          have n1_ : Aside0 (w31.heap[gb133]? = some (.cells #[.bool false, .int .u32 0, .int .u32 0, .int .u64 0] 25 (0, 0))) := ⟨h1_⟩
          have n2_ : Aside0 (w.heap.size ≤ gb133) := ⟨h2_⟩
          have n3_ : Aside0 (w.heap.size ≤ gb133) := ⟨h3_⟩
          have n4_ : Aside0 (gb120 ≠ gb133) := ⟨h4_⟩
          have n5_ : Aside0 (gb133 ≠ gb120) := ⟨h5_⟩
          have n6_ : Aside0 (Below w.heap.size w w31) := ⟨h6_⟩
          clear BK120
          clear HB
          clear h0_ h1_ h2_ h3_ h4_ h5_ h6_
          have BK120 := n0_
          have BK133 := n1_
          have GW133 := n2_
          have GE133 := n3_
          have NB120_133 := n4_
          have NB133_120 := n5_
          have HB := n6_
          clear n0_ n1_ n2_ n3_ n4_ n5_ n6_
          have hHeld : w31.cell? ⟨gb120, 0, none⟩ = some (.bool a0_0) ∧ w31.cell? ⟨gb120, 1, none⟩ = some (.int .u32 a0_1) ∧ w31.cell? ⟨gb120, 2, none⟩ = some (.int .u32 a0_2) ∧ w31.cell? ⟨gb120, 3, none⟩ = some (.int .u64 a0_3) := hS_
          refine norm_ (a' := ?_) ?_ ?_
          rotate_left
          ·simp only [putAll, Act.put, List.setIfInBounds_toArray, List.set_cons_zero, List.set_cons_succ]
           rfl
          refine one_ (i := 9) (N := some 8) #[true, true, true, true, true, true, true, true, true, true, false, false] rfl rfl (one_of HT_.out (by kernel_rfl)) (by decide) (fun K hK => ?_)
          refine box_step ?hg (N := 8) ?hd (cs := #[.bool false, .int .u32 0, .int .u32 0, .int .u64 0]) (t := 25) ?hr ?_; (case hd => rfl); (case hg => rfl); (case hr => first | (go_simp; done) | (go_simp; rfl))
          intro gb134 hg w32 hbox hb
          have n0_ := Aside0.mk (blk_below (g := gb120) (o := .cells #[.bool a0_0, .int .u32 a0_1, .int .u32 a0_2, .int .u64 a0_3] 25 (0, 0)) (by (with_reducible repeat (first | refine blk_drewN ?_ _ | refine blk_drew ?_ | refine blk_alloc ?_ _)); exact BK120.out) hb)
          have n1_ := Aside0.mk (blk_below (g := gb133) (o := .cells #[.bool false, .int .u32 0, .int .u32 0, .int .u64 0] 25 (0, 0)) (by (with_reducible repeat (first | refine blk_drewN ?_ _ | refine blk_drew ?_ | refine blk_alloc ?_ _)); exact BK133.out) hb)
          have n2_ := Aside0.mk (below_step (by repeat (first | (with_reducible first | exact HB.out | apply below_alloc | apply pw_below_drewN | apply below_drew1 | refine below_set ?_ GE120.out | refine below_set ?_ GE133.out) | exact HB.out)) hb)
          have n3_ := Aside0.mk (hbox)
          have n4_ := Aside0.mk ((by rw [hg]; exact (below_size (by repeat (first | (with_reducible first | exact HB.out | apply below_alloc | apply pw_below_drewN | apply below_drew1 | refine below_set ?_ GE120.out | refine below_set ?_ GE133.out) | exact HB.out))) : w.heap.size ≤ gb134))
          have n5_ := Aside0.mk ((by rw [hg]; exact (below_size (by repeat (first | (with_reducible first | exact HB.out | apply below_alloc | apply pw_below_drewN | apply below_drew1 | refine below_set ?_ GE120.out | refine below_set ?_ GE133.out) | exact HB.out))) : w.heap.size ≤ gb134))
          have n6_ := Aside0.mk ((by rw [hg]; exact Nat.ne_of_lt (blk_lt (g := gb120) (o := .cells #[.bool a0_0, .int .u32 a0_1, .int .u32 a0_2, .int .u64 a0_3] 25 (0, 0)) (by (with_reducible repeat (first | refine blk_drewN ?_ _ | refine blk_drew ?_ | refine blk_alloc ?_ _)); exact BK120.out)) : gb120 ≠ gb134))
          have n7_ := Aside0.mk ((by rw [hg]; exact Nat.ne_of_gt (blk_lt (g := gb120) (o := .cells #[.bool a0_0, .int .u32 a0_1, .int .u32 a0_2, .int .u64 a0_3] 25 (0, 0)) (by (with_reducible repeat (first | refine blk_drewN ?_ _ | refine blk_drew ?_ | refine blk_alloc ?_ _)); exact BK120.out)) : gb134 ≠ gb120))
          have n8_ := Aside0.mk ((by rw [hg]; exact Nat.ne_of_lt (blk_lt (g := gb133) (o := .cells #[.bool false, .int .u32 0, .int .u32 0, .int .u64 0] 25 (0, 0)) (by (with_reducible repeat (first | refine blk_drewN ?_ _ | refine blk_drew ?_ | refine blk_alloc ?_ _)); exact BK133.out)) : gb133 ≠ gb134))
          have n9_ := Aside0.mk ((by rw [hg]; exact Nat.ne_of_gt (blk_lt (g := gb133) (o := .cells #[.bool false, .int .u32 0, .int .u32 0, .int .u64 0] 25 (0, 0)) (by (with_reducible repeat (first | refine blk_drewN ?_ _ | refine blk_drew ?_ | refine blk_alloc ?_ _)); exact BK133.out)) : gb134 ≠ gb133))
          clear BK120
          clear BK133
          clear HB
          have BK120 := n0_
          have BK133 := n1_
          have HB := n2_
          have BK134 := n3_
          have GW134 := n4_
          have GE134 := n5_
          have NB120_134 := n6_
          have NB134_120 := n7_
          have NB133_134 := n8_
          have NB134_133 := n9_
          clear n0_ n1_ n2_ n3_ n4_ n5_ n6_ n7_ n8_ n9_
          clear hb hbox hg
          refine hK.out _ _ ⟨(blk_cell BK120.out 0).trans rfl, (blk_cell BK120.out 1).trans rfl, (blk_cell BK120.out 2).trans rfl, (blk_cell BK120.out 3).trans rfl⟩ (fun hHeld => ?_)
          clear hK K
          refine norm_ (a' := ?_) ?_ ?_
          rotate_left
          ·show Act.put _ (some 8) _ = _
           simp only [Act.put, List.setIfInBounds_toArray, List.set_cons_zero, List.set_cons_succ, i64_w, i32_w]
           rfl
          exact norm_ (by first | (simp only [putAll, Act.put, List.setIfInBounds_toArray, List.set_cons_zero, List.set_cons_succ]; done) | (simp only [putAll, Act.put, List.setIfInBounds_toArray, List.set_cons_zero, List.set_cons_succ]; rfl)) (hJ3_7_8_9 (gb133, gb134) _ ⟨hHeld, (by (with_reducible repeat (first | refine blk_drewN ?_ _ | refine blk_drew ?_ | refine blk_alloc ?_ _)); exact BK120.out), (by (with_reducible repeat (first | refine blk_drewN ?_ _ | refine blk_drew ?_ | refine blk_alloc ?_ _)); exact BK133.out), (by (with_reducible repeat (first | refine blk_drewN ?_ _ | refine blk_drew ?_ | refine blk_alloc ?_ _)); exact BK134.out), GW133.out, GE133.out, NB120_133.out, NB133_120.out, NB134_133.out, NB133_134.out, GW134.out, GE134.out, NB120_134.out, NB134_120.out, (by repeat (first | (with_reducible first | exact HB.out | apply below_alloc | apply pw_below_drewN | apply below_drew1 | refine below_set ?_ GE120.out | refine below_set ?_ GE133.out | refine below_set ?_ GE134.out) | exact HB.out))⟩)
        rintro ⟨gb133, gb134⟩ w32 ⟨hS_, h0_, h1_, h2_, h3_, h4_, h5_, h6_, h7_, h8_, h9_, h10_, h11_, h12_, h13_⟩
        have n0_ : Aside0 (w32.heap[gb120]? = some (.cells #[.bool a0_0, .int .u32 a0_1, .int .u32 a0_2, .int .u64 a0_3] 25 (0, 0))) := ⟨h0_⟩
        have n1_ : Aside0 (w32.heap[gb133]? = some (.cells #[.bool false, .int .u32 0, .int .u32 0, .int .u64 0] 25 (0, 0))) := ⟨h1_⟩
        have n2_ : Aside0 (w32.heap[gb134]? = some (.cells #[.bool false, .int .u32 0, .int .u32 0, .int .u64 0] 25 (0, 0))) := ⟨h2_⟩
        have n3_ : Aside0 (w.heap.size ≤ gb133) := ⟨h3_⟩
        have n4_ : Aside0 (w.heap.size ≤ gb133) := ⟨h4_⟩
        have n5_ : Aside0 (gb120 ≠ gb133) := ⟨h5_⟩
        have n6_ : Aside0 (gb133 ≠ gb120) := ⟨h6_⟩
        have n7_ : Aside0 (gb134 ≠ gb133) := ⟨h7_⟩
        have n8_ : Aside0 (gb133 ≠ gb134) := ⟨h8_⟩
        have n9_ : Aside0 (w.heap.size ≤ gb134) := ⟨h9_⟩
        have n10_ : Aside0 (w.heap.size ≤ gb134) := ⟨h10_⟩
        have n11_ : Aside0 (gb120 ≠ gb134) := ⟨h11_⟩
        have n12_ : Aside0 (gb134 ≠ gb120) := ⟨h12_⟩
        have n13_ : Aside0 (Below w.heap.size w w32) := ⟨h13_⟩
        clear BK120
        clear HB
        clear h0_ h1_ h2_ h3_ h4_ h5_ h6_ h7_ h8_ h9_ h10_ h11_ h12_ h13_
        have BK120 := n0_
        have BK133 := n1_
        have BK134 := n2_
        have GW133 := n3_
        have GE133 := n4_
        have NB120_133 := n5_
        have NB133_120 := n6_
        have NB134_133 := n7_
        have NB133_134 := n8_
        have GW134 := n9_
        have GE134 := n10_
        have NB120_134 := n11_
        have NB134_120 := n12_
        have HB := n13_
        clear n0_ n1_ n2_ n3_ n4_ n5_ n6_ n7_ n8_ n9_ n10_ n11_ n12_ n13_
        have hHeld : w32.cell? ⟨gb120, 0, none⟩ = some (.bool a0_0) ∧ w32.cell? ⟨gb120, 1, none⟩ = some (.int .u32 a0_1) ∧ w32.cell? ⟨gb120, 2, none⟩ = some (.int .u32 a0_2) ∧ w32.cell? ⟨gb120, 3, none⟩ = some (.int .u64 a0_3) := hS_
        refine norm_ (a' := ?_) ?_ ?_
        rotate_left
        ·simp only [putAll, Act.put, List.setIfInBounds_toArray, List.set_cons_zero, List.set_cons_succ]
         rfl
        refine one_ (i := 10) (N := none) #[true, true, true, true, true, true, true, true, true, true, true, false] rfl rfl (one_of HT_.out (by kernel_rfl)) (by decide) (fun K hK => ?_)
        have hs33 : w32.cell? ⟨gb133, 0, none⟩ = some (.bool false) := (blk_cell BK133.out 0).trans rfl
        have hfs33 := blk_frozen BK133.out 0
        have hns33_0 := NB120_133.out
        have hns33_2 := NB134_133.out
        have hms33_0 := NB133_120.out
        have hms33_2 := NB133_134.out
        have hs34 : w32.cell? ⟨gb133, 1, none⟩ = some (.int .u32 0) := (blk_cell BK133.out 1).trans rfl
        have hfs34 := blk_frozen BK133.out 1
        have hns34_0 := NB120_133.out
        have hns34_2 := NB134_133.out
        have hms34_0 := NB133_120.out
        have hms34_2 := NB133_134.out
        have hs35 : w32.cell? ⟨gb133, 2, none⟩ = some (.int .u32 0) := (blk_cell BK133.out 2).trans rfl
        have hfs35 := blk_frozen BK133.out 2
        have hns35_0 := NB120_133.out
        have hns35_2 := NB134_133.out
        have hms35_0 := NB133_120.out
        have hms35_2 := NB133_134.out
        have hs36 : w32.cell? ⟨gb133, 3, none⟩ = some (.int .u64 0) := (blk_cell BK133.out 3).trans rfl
        have hfs36 := blk_frozen BK133.out 3
        have hns36_0 := NB120_133.out
        have hns36_2 := NB134_133.out
        have hms36_0 := NB133_120.out
        have hms36_2 := NB133_134.out
        refine skip_ (w1 := ?_) (by rfl) rfl ?_ ?_
        rotate_left
        ·go_simp
         rfl
        refine hK.out _ _ ⟨((cell_far (p := ⟨gb133, _, none⟩) NB120_133.out _).trans (((cell_far (p := ⟨gb133, _, none⟩) NB120_133.out _).trans (((cell_far (p := ⟨gb133, _, none⟩) NB120_133.out _).trans (((cell_far (p := ⟨gb133, _, none⟩) NB120_133.out _).trans (hHeld.1)))))))), ((cell_far (p := ⟨gb133, _, none⟩) NB120_133.out _).trans (((cell_far (p := ⟨gb133, _, none⟩) NB120_133.out _).trans (((cell_far (p := ⟨gb133, _, none⟩) NB120_133.out _).trans (((cell_far (p := ⟨gb133, _, none⟩) NB120_133.out _).trans (hHeld.2.1)))))))), ((cell_far (p := ⟨gb133, _, none⟩) NB120_133.out _).trans (((cell_far (p := ⟨gb133, _, none⟩) NB120_133.out _).trans (((cell_far (p := ⟨gb133, _, none⟩) NB120_133.out _).trans (((cell_far (p := ⟨gb133, _, none⟩) NB120_133.out _).trans (hHeld.2.2.1)))))))), ((cell_far (p := ⟨gb133, _, none⟩) NB120_133.out _).trans (((cell_far (p := ⟨gb133, _, none⟩) NB120_133.out _).trans (((cell_far (p := ⟨gb133, _, none⟩) NB120_133.out _).trans (((cell_far (p := ⟨gb133, _, none⟩) NB120_133.out _).trans (hHeld.2.2.2))))))))⟩ (fun hHeld => ?_)
        clear hK K
        refine one_ (i := 11) (N := none) #[true, true, true, true, true, true, true, true, true, true, true, true] rfl rfl (one_of HT_.out (by kernel_rfl)) (by decide) (fun K hK => ?_)
        have hs37 : w32.cell? ⟨gb134, 0, none⟩ = some (.bool false) := (blk_cell BK134.out 0).trans rfl
        have hfs37 := blk_frozen BK134.out 0
        have hns37_0 := NB120_134.out
        have hns37_1 := NB133_134.out
        have hms37_0 := NB134_120.out
        have hms37_1 := NB134_133.out
        have hs38 : w32.cell? ⟨gb134, 1, none⟩ = some (.int .u32 0) := (blk_cell BK134.out 1).trans rfl
        have hfs38 := blk_frozen BK134.out 1
        have hns38_0 := NB120_134.out
        have hns38_1 := NB133_134.out
        have hms38_0 := NB134_120.out
        have hms38_1 := NB134_133.out
        have hs39 : w32.cell? ⟨gb134, 2, none⟩ = some (.int .u32 0) := (blk_cell BK134.out 2).trans rfl
        have hfs39 := blk_frozen BK134.out 2
        have hns39_0 := NB120_134.out
        have hns39_1 := NB133_134.out
        have hms39_0 := NB134_120.out
        have hms39_1 := NB134_133.out
        have hs40 : w32.cell? ⟨gb134, 3, none⟩ = some (.int .u64 0) := (blk_cell BK134.out 3).trans rfl
        have hfs40 := blk_frozen BK134.out 3
        have hns40_0 := NB120_134.out
        have hns40_1 := NB133_134.out
        have hms40_0 := NB134_120.out
        have hms40_1 := NB134_133.out
        refine skip_ (w1 := ?_) (by rfl) rfl ?_ ?_
        rotate_left
        ·go_simp
         rfl
        refine hK.out _ _ ⟨((cell_far (p := ⟨gb134, _, none⟩) NB120_134.out _).trans (((cell_far (p := ⟨gb134, _, none⟩) NB120_134.out _).trans (((cell_far (p := ⟨gb134, _, none⟩) NB120_134.out _).trans (((cell_far (p := ⟨gb134, _, none⟩) NB120_134.out _).trans (hHeld.1)))))))), ((cell_far (p := ⟨gb134, _, none⟩) NB120_134.out _).trans (((cell_far (p := ⟨gb134, _, none⟩) NB120_134.out _).trans (((cell_far (p := ⟨gb134, _, none⟩) NB120_134.out _).trans (((cell_far (p := ⟨gb134, _, none⟩) NB120_134.out _).trans (hHeld.2.1)))))))), ((cell_far (p := ⟨gb134, _, none⟩) NB120_134.out _).trans (((cell_far (p := ⟨gb134, _, none⟩) NB120_134.out _).trans (((cell_far (p := ⟨gb134, _, none⟩) NB120_134.out _).trans (((cell_far (p := ⟨gb134, _, none⟩) NB120_134.out _).trans (hHeld.2.2.1)))))))), ((cell_far (p := ⟨gb134, _, none⟩) NB120_134.out _).trans (((cell_far (p := ⟨gb134, _, none⟩) NB120_134.out _).trans (((cell_far (p := ⟨gb134, _, none⟩) NB120_134.out _).trans (((cell_far (p := ⟨gb134, _, none⟩) NB120_134.out _).trans (hHeld.2.2.2))))))))⟩ (fun hHeld => ?_)
        clear hK K
        refine done_ (done_of HT_.out (by kernel_rfl)) ?_
        have hnb41 := NB133_120.out
        have hnc41 := NB120_133.out
        have hnb42 := NB133_134.out
        have hnc42 := NB134_133.out
        have hcz43_0 : w32.cell? ⟨gb133, 0, none⟩ = some (.bool false) := (blk_cell BK133.out 0).trans rfl
        have hcz43_1 : w32.cell? ⟨gb133, 1, none⟩ = some (.int .u32 0) := (blk_cell BK133.out 1).trans rfl
        have hcz43_2 : w32.cell? ⟨gb133, 2, none⟩ = some (.int .u32 0) := (blk_cell BK133.out 2).trans rfl
        have hcz43_3 : w32.cell? ⟨gb133, 3, none⟩ = some (.int .u64 0) := (blk_cell BK133.out 3).trans rfl
        have hfz43_0 := blk_frozen BK133.out 0
        have hfz43_1 := blk_frozen BK133.out 1
        have hfz43_2 := blk_frozen BK133.out 2
        have hfz43_3 := blk_frozen BK133.out 3
        have hnb44 := NB134_120.out
        have hnc44 := NB120_134.out
        have hcz45_0 : w32.cell? ⟨gb134, 0, none⟩ = some (.bool false) := (blk_cell BK134.out 0).trans rfl
        have hcz45_1 : w32.cell? ⟨gb134, 1, none⟩ = some (.int .u32 0) := (blk_cell BK134.out 1).trans rfl
        have hcz45_2 : w32.cell? ⟨gb134, 2, none⟩ = some (.int .u32 0) := (blk_cell BK134.out 2).trans rfl
        have hcz45_3 : w32.cell? ⟨gb134, 3, none⟩ = some (.int .u64 0) := (blk_cell BK134.out 3).trans rfl
        have hfz45_0 := blk_frozen BK134.out 0
        have hfz45_1 := blk_frozen BK134.out 1
        have hfz45_2 := blk_frozen BK134.out 2
        have hfz45_3 := blk_frozen BK134.out 3
        have e_ := eq_true (show t128 = t132 by have h_ := c22b0; simp at h_; exact h_.2.2.2)
        try go_wp2_with (first | (go_at_call 11; (with_reducible refine (annuletlaw20_awake.calls  t135 _ A26.out).mono ?_); rintro e w46 ⟨rfl, hb⟩; have n0_ := Aside0.mk (blk_below (g := gb120) (o := .cells #[.bool a0_0, .int .u32 a0_1, .int .u32 a0_2, .int .u64 a0_3] 25 (0, 0)) (by (with_reducible repeat (first | refine blk_drewN ?_ _ | refine blk_drew ?_ | refine blk_alloc ?_ _)); refine blk_far ?_ NB120_134.out _; (with_reducible repeat (first | refine blk_drewN ?_ _ | refine blk_drew ?_ | refine blk_alloc ?_ _)); refine blk_far ?_ NB120_134.out _; (with_reducible repeat (first | refine blk_drewN ?_ _ | refine blk_drew ?_ | refine blk_alloc ?_ _)); refine blk_far ?_ NB120_134.out _; (with_reducible repeat (first | refine blk_drewN ?_ _ | refine blk_drew ?_ | refine blk_alloc ?_ _)); refine blk_far ?_ NB120_134.out _; (with_reducible repeat (first | refine blk_drewN ?_ _ | refine blk_drew ?_ | refine blk_alloc ?_ _)); refine blk_far ?_ NB120_133.out _; (with_reducible repeat (first | refine blk_drewN ?_ _ | refine blk_drew ?_ | refine blk_alloc ?_ _)); refine blk_far ?_ NB120_133.out _; (with_reducible repeat (first | refine blk_drewN ?_ _ | refine blk_drew ?_ | refine blk_alloc ?_ _)); refine blk_far ?_ NB120_133.out _; (with_reducible repeat (first | refine blk_drewN ?_ _ | refine blk_drew ?_ | refine blk_alloc ?_ _)); refine blk_far ?_ NB120_133.out _; (with_reducible repeat (first | refine blk_drewN ?_ _ | refine blk_drew ?_ | refine blk_alloc ?_ _)); exact BK120.out) hb); have n1_ := Aside0.mk (blk_below (g := gb133) (o := .cells #[.bool t125, .int .u32 t126, .int .u32 t127, .int .u64 t128] 25 (0, 0)) (by (with_reducible repeat (first | refine blk_drewN ?_ _ | refine blk_drew ?_ | refine blk_alloc ?_ _)); refine blk_far ?_ NB133_134.out _; (with_reducible repeat (first | refine blk_drewN ?_ _ | refine blk_drew ?_ | refine blk_alloc ?_ _)); refine blk_far ?_ NB133_134.out _; (with_reducible repeat (first | refine blk_drewN ?_ _ | refine blk_drew ?_ | refine blk_alloc ?_ _)); refine blk_far ?_ NB133_134.out _; (with_reducible repeat (first | refine blk_drewN ?_ _ | refine blk_drew ?_ | refine blk_alloc ?_ _)); refine blk_far ?_ NB133_134.out _; (with_reducible repeat (first | refine blk_drewN ?_ _ | refine blk_drew ?_ | refine blk_alloc ?_ _)); refine blk_put (cs := #[.bool t125, .int .u32 t126, .int .u32 t127, .int .u64 0]) ?_ 3 _ rfl; (with_reducible repeat (first | refine blk_drewN ?_ _ | refine blk_drew ?_ | refine blk_alloc ?_ _)); refine blk_put (cs := #[.bool t125, .int .u32 t126, .int .u32 0, .int .u64 0]) ?_ 2 _ rfl; (with_reducible repeat (first | refine blk_drewN ?_ _ | refine blk_drew ?_ | refine blk_alloc ?_ _)); refine blk_put (cs := #[.bool t125, .int .u32 0, .int .u32 0, .int .u64 0]) ?_ 1 _ rfl; (with_reducible repeat (first | refine blk_drewN ?_ _ | refine blk_drew ?_ | refine blk_alloc ?_ _)); refine blk_put (cs := #[.bool false, .int .u32 0, .int .u32 0, .int .u64 0]) ?_ 0 _ rfl; (with_reducible repeat (first | refine blk_drewN ?_ _ | refine blk_drew ?_ | refine blk_alloc ?_ _)); exact BK133.out) hb); have n2_ := Aside0.mk (blk_below (g := gb134) (o := .cells #[.bool t129, .int .u32 t130, .int .u32 t131, .int .u64 t132] 25 (0, 0)) (by (with_reducible repeat (first | refine blk_drewN ?_ _ | refine blk_drew ?_ | refine blk_alloc ?_ _)); refine blk_put (cs := #[.bool t129, .int .u32 t130, .int .u32 t131, .int .u64 0]) ?_ 3 _ rfl; (with_reducible repeat (first | refine blk_drewN ?_ _ | refine blk_drew ?_ | refine blk_alloc ?_ _)); refine blk_put (cs := #[.bool t129, .int .u32 t130, .int .u32 0, .int .u64 0]) ?_ 2 _ rfl; (with_reducible repeat (first | refine blk_drewN ?_ _ | refine blk_drew ?_ | refine blk_alloc ?_ _)); refine blk_put (cs := #[.bool t129, .int .u32 0, .int .u32 0, .int .u64 0]) ?_ 1 _ rfl; (with_reducible repeat (first | refine blk_drewN ?_ _ | refine blk_drew ?_ | refine blk_alloc ?_ _)); refine blk_put (cs := #[.bool false, .int .u32 0, .int .u32 0, .int .u64 0]) ?_ 0 _ rfl; (with_reducible repeat (first | refine blk_drewN ?_ _ | refine blk_drew ?_ | refine blk_alloc ?_ _)); refine blk_far ?_ NB134_133.out _; (with_reducible repeat (first | refine blk_drewN ?_ _ | refine blk_drew ?_ | refine blk_alloc ?_ _)); refine blk_far ?_ NB134_133.out _; (with_reducible repeat (first | refine blk_drewN ?_ _ | refine blk_drew ?_ | refine blk_alloc ?_ _)); refine blk_far ?_ NB134_133.out _; (with_reducible repeat (first | refine blk_drewN ?_ _ | refine blk_drew ?_ | refine blk_alloc ?_ _)); refine blk_far ?_ NB134_133.out _; (with_reducible repeat (first | refine blk_drewN ?_ _ | refine blk_drew ?_ | refine blk_alloc ?_ _)); exact BK134.out) hb); have n3_ := Aside0.mk (below_step (by repeat (first | (with_reducible first | exact HB.out | apply below_alloc | apply pw_below_drewN | apply below_drew1 | refine below_set ?_ GE120.out | refine below_set ?_ GE133.out | refine below_set ?_ GE134.out) | exact HB.out)) hb); clear BK120; clear BK133; clear BK134; clear HB; have BK120 := n0_; have BK133 := n1_; have BK134 := n2_; have HB := n3_; clear n0_ n1_ n2_ n3_; (try clear hb); (try clear hb2); (try clear hk); (try clear hi)))
        go_ret
        exact ⟨by first | rfl | (simp [errW_none, errW_some] <;> rfl) | (simp [*, errW_none, errW_some] <;> rfl), by repeat (first | (with_reducible first | exact HB.out | apply below_alloc | apply pw_below_drewN | apply below_drew1 | refine below_set ?_ GE120.out | refine below_set ?_ GE133.out | refine below_set ?_ GE134.out) | exact HB.out)⟩
       ·rw [if_neg c25] at H
        exact absurd H (by simp)
      ·rw [if_neg c24] at H
       exact absurd H (by simp)
     ·rw [if_neg c23] at H
      exact absurd H (by simp)
    ·rw [if_neg c22] at H
     have c22b0 : (t125 == t129 && (t126 == t130 && (t127 == t131 && (t128 == t132)))) = false := by simpa using c22
     (try (have c22b1 : decide (t125 = t129 && (t126 == t130 && (t127 == t131 && (t128 == t132)))) = false := by simpa using c22))
     (try (have c22b2 : (t125 == t129 && (t126 == t130 && (t127 == t131 && (t128 == t132)))) = false := by simpa using c22))
     (try (have c22b3 : ¬ (t125 = t129 && (t126 == t130 && (t127 == t131 && (t128 == t132)))) := by simpa using c22))
     clear c22
     by_cases c47 : a0_0 = true
     ·subst c47
      have H1 : (if a0_2 < 64 then (if (t125 == t129) = true then (if t126 = t130 then (if t127 = t131 then ((annuletlaw20_awake.f).bind fun t136 => (some t136)) else (none)) else (none)) else (none)) else (none)) = some r := by rw [if_pos rfl] at H; exact H
      clear H
      have H := H1
      clear H1
      by_cases c48 : a0_2 < 64
      ·rw [if_pos c48] at H
       have c48b0 : decide (a0_2 < 64) = true := decide_eq_true c48
       clear c48
       by_cases c49 : (t125 == t129) = true
       ·rw [if_pos c49] at H
        have c49b0 : (t125 == t129) = true := c49
        (try (have c49b1 : decide (t125 = t129) = true := by simpa using c49))
        (try (have c49b2 : (t125 == t129) = true := by simpa using c49))
        clear c49
        by_cases c50 : t126 = t130
        ·rw [if_pos c50] at H
         have c50b0 : (t126 == t130) = true := beq_iff_eq.mpr c50
         have c50b1 : (t126 != t130) = false := bne_eq_false_iff_eq.mpr c50
         clear c50
         by_cases c51 : t127 = t131
         ·rw [if_pos c51] at H
          have c51b0 : (t127 == t131) = true := beq_iff_eq.mpr c51
          have c51b1 : (t127 != t131) = false := bne_eq_false_iff_eq.mpr c51
          clear c51
          replace H := Option.bind_eq_some_iff.mp H
          obtain ⟨t136, A520, H⟩ := H
          replace H : (some t136) = some r := H
          have A52 := Aside0.mk A520
          clear A520
          obtain rfl := Option.some.inj H
          try go_wp2
          have n0_ := Aside0.mk (blk_drew BK120.out)
          have n1_ := Aside0.mk (below_drew1 HB.out)
          clear BK120
          clear HB
          have BK120 := n0_
          have HB := n1_
          clear n0_ n1_
          refine start_ (n := 12) (S := fun w' => w'.cell? ⟨gb120, 0, none⟩ = some (.bool true) ∧ w'.cell? ⟨gb120, 1, none⟩ = some (.int .u32 a0_1) ∧ w'.cell? ⟨gb120, 2, none⟩ = some (.int .u32 a0_2) ∧ w'.cell? ⟨gb120, 3, none⟩ = some (.int .u64 a0_3)) (ds := []) #[false, false, false, false, false, false, false, false, false, false, false, false] (by kernel_rfl) rfl rfl ⟨(blk_cell BK120.out 0).trans rfl, (blk_cell BK120.out 1).trans rfl, (blk_cell BK120.out 2).trans rfl, (blk_cell BK120.out 3).trans rfl⟩ (fun hHeld => ?_); refine with_tabW annuletlaw20_SeenFresh.tab3 annuletlaw20_SeenFresh.bits3 (fun HT_ HW_ => ?_)
          generalize wc.drew = w53 at BK120 HB hHeld ⊢
          refine pure_ (i := 1) (N := some 31) (v := ?_) (a' := ?_) #[false, true, false, false, false, false, false, false, false, false, false, false] rfl rfl (any_of HT_.out (by kernel_rfl)) (fun _ _ _ h => h) (Or.inl ⟨by rfl, ?_⟩) ?_ ?_
          rotate_left
          ·intro w'
           go_simp
           with_reducible rfl
          rotate_left
          ·simp only [Act.put, List.setIfInBounds_toArray, List.set_cons_zero, List.set_cons_succ, i64_w, i32_w]
           rfl
          refine pure_ (i := 2) (N := some 32) (v := ?_) (a' := ?_) #[false, true, true, false, false, false, false, false, false, false, false, false] rfl rfl (any_of HT_.out (by kernel_rfl)) (fun _ _ _ h => h) (Or.inl ⟨by rfl, ?_⟩) ?_ ?_
          rotate_left
          ·intro w'
           go_simp
           with_reducible rfl
          rotate_left
          ·simp only [Act.put, List.setIfInBounds_toArray, List.set_cons_zero, List.set_cons_succ, i64_w, i32_w]
           rfl
          refine pure_ (i := 5) (N := some 35) (v := ?_) (a' := ?_) #[false, true, true, false, false, true, false, false, false, false, false, false] rfl rfl (any_of HT_.out (by kernel_rfl)) (fun _ _ _ h => h) (Or.inl ⟨by rfl, ?_⟩) ?_ ?_
          rotate_left
          ·intro w'
           go_simp
           with_reducible rfl
          rotate_left
          ·simp only [Act.put, List.setIfInBounds_toArray, List.set_cons_zero, List.set_cons_succ, i64_w, i32_w]
           rfl
          refine pure_ (i := 6) (N := some 36) (v := ?_) (a' := ?_) #[false, true, true, false, false, true, true, false, false, false, false, false] rfl rfl (any_of HT_.out (by kernel_rfl)) (fun _ _ _ h => h) (Or.inl ⟨by rfl, ?_⟩) ?_ ?_
          rotate_left
          ·intro w'
           go_simp
           with_reducible rfl
          rotate_left
          ·simp only [Act.put, List.setIfInBounds_toArray, List.set_cons_zero, List.set_cons_succ, i64_w, i32_w]
           rfl
          refine take_ (i := 0) (N := some 30) (v := ?_) (a' := ?_) #[true, true, true, false, false, true, true, false, false, false, false, false] rfl rfl (take_ofW HT_.out HW_.out (by kernel_rfl)) (fun _ _ _ h => h) (Or.inl ⟨by rfl, ?_⟩) hHeld ?_ ?_
          rotate_left
          ·rintro w' ⟨s0, s1, s2, s3⟩
           go_simp
           with_reducible rfl
          rotate_left
          ·simp only [Act.put, List.setIfInBounds_toArray, List.set_cons_zero, List.set_cons_succ, i64_w, i32_w]
           rfl
          refine take_ (i := 4) (N := some 34) (v := ?_) (a' := ?_) #[true, true, true, false, true, true, true, false, false, false, false, false] rfl rfl (take_ofW HT_.out HW_.out (by kernel_rfl)) (fun _ _ _ h => h) (Or.inl ⟨by rfl, ?_⟩) hHeld ?_ ?_
          rotate_left
          ·rintro w' ⟨s0, s1, s2, s3⟩
           go_simp
           with_reducible rfl
          rotate_left
          ·simp only [Act.put, List.setIfInBounds_toArray, List.set_cons_zero, List.set_cons_succ, i64_w, i32_w]
           rfl
          refine join_ (σ := Nat × Nat) 2 #[true, true, true, true, true, true, true, true, true, true, false, false] (fun s_ => [(33, .agg #[.bool t125, .int .u32 t126, .int .u32 t127, .int .u64 t128]), (37, .agg #[.bool t129, .int .u32 t130, .int .u32 t131, .int .u64 t132]), (7, .pointer (some ⟨s_.1, 0, none⟩)), (8, .pointer (some ⟨s_.2, 0, none⟩))]) (fun s_ w' => (w'.cell? ⟨gb120, 0, none⟩ = some (.bool true) ∧ w'.cell? ⟨gb120, 1, none⟩ = some (.int .u32 a0_1) ∧ w'.cell? ⟨gb120, 2, none⟩ = some (.int .u32 a0_2) ∧ w'.cell? ⟨gb120, 3, none⟩ = some (.int .u64 a0_3)) ∧ (w'.heap[gb120]? = some (.cells #[.bool true, .int .u32 a0_1, .int .u32 a0_2, .int .u64 a0_3] 25 (0, 0))) ∧ (w'.heap[s_.1]? = some (.cells #[.bool false, .int .u32 0, .int .u32 0, .int .u64 0] 25 (0, 0))) ∧ (w'.heap[s_.2]? = some (.cells #[.bool false, .int .u32 0, .int .u32 0, .int .u64 0] 25 (0, 0))) ∧ (w.heap.size ≤ s_.1) ∧ (w.heap.size ≤ s_.1) ∧ (gb120 ≠ s_.1) ∧ (s_.1 ≠ gb120) ∧ (s_.2 ≠ s_.1) ∧ (s_.1 ≠ s_.2) ∧ (w.heap.size ≤ s_.2) ∧ (w.heap.size ≤ s_.2) ∧ (gb120 ≠ s_.2) ∧ (s_.2 ≠ gb120) ∧ (Below w.heap.size w w')) ?_ ?_
          rotate_left
          ·intro hJ3_7_8_9
           refine join_ (σ := Nat) 3 #[true, true, true, true, true, true, true, true, true, false, false, false] (fun s_ => [(33, .agg #[.bool t125, .int .u32 t126, .int .u32 t127, .int .u64 t128]), (37, .agg #[.bool t129, .int .u32 t130, .int .u32 t131, .int .u64 t132]), (7, .pointer (some ⟨s_, 0, none⟩))]) (fun s_ w' => (w'.cell? ⟨gb120, 0, none⟩ = some (.bool true) ∧ w'.cell? ⟨gb120, 1, none⟩ = some (.int .u32 a0_1) ∧ w'.cell? ⟨gb120, 2, none⟩ = some (.int .u32 a0_2) ∧ w'.cell? ⟨gb120, 3, none⟩ = some (.int .u64 a0_3)) ∧ (w'.heap[gb120]? = some (.cells #[.bool true, .int .u32 a0_1, .int .u32 a0_2, .int .u64 a0_3] 25 (0, 0))) ∧ (w'.heap[s_]? = some (.cells #[.bool false, .int .u32 0, .int .u32 0, .int .u64 0] 25 (0, 0))) ∧ (w.heap.size ≤ s_) ∧ (w.heap.size ≤ s_) ∧ (gb120 ≠ s_) ∧ (s_ ≠ gb120) ∧ (Below w.heap.size w w')) ?_ ?_
           rotate_left
           ·intro hJ3_7_8
            refine join_ (σ := Nat) 3 #[true, true, true, true, true, true, true, true, false, true, false, false] (fun s_ => [(33, .agg #[.bool t125, .int .u32 t126, .int .u32 t127, .int .u64 t128]), (37, .agg #[.bool t129, .int .u32 t130, .int .u32 t131, .int .u64 t132]), (8, .pointer (some ⟨s_, 0, none⟩))]) (fun s_ w' => (w'.cell? ⟨gb120, 0, none⟩ = some (.bool true) ∧ w'.cell? ⟨gb120, 1, none⟩ = some (.int .u32 a0_1) ∧ w'.cell? ⟨gb120, 2, none⟩ = some (.int .u32 a0_2) ∧ w'.cell? ⟨gb120, 3, none⟩ = some (.int .u64 a0_3)) ∧ (w'.heap[gb120]? = some (.cells #[.bool true, .int .u32 a0_1, .int .u32 a0_2, .int .u64 a0_3] 25 (0, 0))) ∧ (w'.heap[s_]? = some (.cells #[.bool false, .int .u32 0, .int .u32 0, .int .u64 0] 25 (0, 0))) ∧ (w.heap.size ≤ s_) ∧ (w.heap.size ≤ s_) ∧ (gb120 ≠ s_) ∧ (s_ ≠ gb120) ∧ (Below w.heap.size w w')) ?_ ?_
            rotate_left
            ·intro hJ3_7_9
             refine join_ (σ := Nat × Nat) 3 #[true, true, true, true, true, true, true, false, true, true, false, false] (fun s_ => [(33, .agg #[.bool t125, .int .u32 t126, .int .u32 t127, .int .u64 t128]), (7, .pointer (some ⟨s_.1, 0, none⟩)), (8, .pointer (some ⟨s_.2, 0, none⟩))]) (fun s_ w' => (w'.cell? ⟨gb120, 0, none⟩ = some (.bool true) ∧ w'.cell? ⟨gb120, 1, none⟩ = some (.int .u32 a0_1) ∧ w'.cell? ⟨gb120, 2, none⟩ = some (.int .u32 a0_2) ∧ w'.cell? ⟨gb120, 3, none⟩ = some (.int .u64 a0_3)) ∧ (w'.heap[gb120]? = some (.cells #[.bool true, .int .u32 a0_1, .int .u32 a0_2, .int .u64 a0_3] 25 (0, 0))) ∧ (w'.heap[s_.1]? = some (.cells #[.bool false, .int .u32 0, .int .u32 0, .int .u64 0] 25 (0, 0))) ∧ (w'.heap[s_.2]? = some (.cells #[.bool false, .int .u32 0, .int .u32 0, .int .u64 0] 25 (0, 0))) ∧ (w.heap.size ≤ s_.1) ∧ (w.heap.size ≤ s_.1) ∧ (gb120 ≠ s_.1) ∧ (s_.1 ≠ gb120) ∧ (s_.2 ≠ s_.1) ∧ (s_.1 ≠ s_.2) ∧ (w.heap.size ≤ s_.2) ∧ (w.heap.size ≤ s_.2) ∧ (gb120 ≠ s_.2) ∧ (s_.2 ≠ gb120) ∧ (Below w.heap.size w w')) ?_ ?_
             rotate_left
             ·intro hJ3_8_9
              refine join_ (σ := Unit) 4 #[true, true, true, true, true, true, true, true, false, false, false, false] (fun s_ => [(33, .agg #[.bool t125, .int .u32 t126, .int .u32 t127, .int .u64 t128]), (37, .agg #[.bool t129, .int .u32 t130, .int .u32 t131, .int .u64 t132])]) (fun s_ w' => (w'.cell? ⟨gb120, 0, none⟩ = some (.bool true) ∧ w'.cell? ⟨gb120, 1, none⟩ = some (.int .u32 a0_1) ∧ w'.cell? ⟨gb120, 2, none⟩ = some (.int .u32 a0_2) ∧ w'.cell? ⟨gb120, 3, none⟩ = some (.int .u64 a0_3)) ∧ (w'.heap[gb120]? = some (.cells #[.bool true, .int .u32 a0_1, .int .u32 a0_2, .int .u64 a0_3] 25 (0, 0))) ∧ (Below w.heap.size w w')) ?_ ?_
              rotate_left
              ·intro hJ3_7
               refine join_ (σ := Nat) 4 #[true, true, true, true, true, true, true, false, true, false, false, false] (fun s_ => [(33, .agg #[.bool t125, .int .u32 t126, .int .u32 t127, .int .u64 t128]), (7, .pointer (some ⟨s_, 0, none⟩))]) (fun s_ w' => (w'.cell? ⟨gb120, 0, none⟩ = some (.bool true) ∧ w'.cell? ⟨gb120, 1, none⟩ = some (.int .u32 a0_1) ∧ w'.cell? ⟨gb120, 2, none⟩ = some (.int .u32 a0_2) ∧ w'.cell? ⟨gb120, 3, none⟩ = some (.int .u64 a0_3)) ∧ (w'.heap[gb120]? = some (.cells #[.bool true, .int .u32 a0_1, .int .u32 a0_2, .int .u64 a0_3] 25 (0, 0))) ∧ (w'.heap[s_]? = some (.cells #[.bool false, .int .u32 0, .int .u32 0, .int .u64 0] 25 (0, 0))) ∧ (w.heap.size ≤ s_) ∧ (w.heap.size ≤ s_) ∧ (gb120 ≠ s_) ∧ (s_ ≠ gb120) ∧ (Below w.heap.size w w')) ?_ ?_
               rotate_left
               ·intro hJ3_8
                refine join_ (σ := Nat) 4 #[true, true, true, true, true, true, true, false, false, true, false, false] (fun s_ => [(33, .agg #[.bool t125, .int .u32 t126, .int .u32 t127, .int .u64 t128]), (8, .pointer (some ⟨s_, 0, none⟩))]) (fun s_ w' => (w'.cell? ⟨gb120, 0, none⟩ = some (.bool true) ∧ w'.cell? ⟨gb120, 1, none⟩ = some (.int .u32 a0_1) ∧ w'.cell? ⟨gb120, 2, none⟩ = some (.int .u32 a0_2) ∧ w'.cell? ⟨gb120, 3, none⟩ = some (.int .u64 a0_3)) ∧ (w'.heap[gb120]? = some (.cells #[.bool true, .int .u32 a0_1, .int .u32 a0_2, .int .u64 a0_3] 25 (0, 0))) ∧ (w'.heap[s_]? = some (.cells #[.bool false, .int .u32 0, .int .u32 0, .int .u64 0] 25 (0, 0))) ∧ (w.heap.size ≤ s_) ∧ (w.heap.size ≤ s_) ∧ (gb120 ≠ s_) ∧ (s_ ≠ gb120) ∧ (Below w.heap.size w w')) ?_ ?_
                rotate_left
                ·intro hJ3_9
                 refine join_ (σ := Nat × Nat) 4 #[true, true, true, false, true, true, true, false, true, true, false, false] (fun s_ => [(7, .pointer (some ⟨s_.1, 0, none⟩)), (8, .pointer (some ⟨s_.2, 0, none⟩))]) (fun s_ w' => (w'.cell? ⟨gb120, 0, none⟩ = some (.bool true) ∧ w'.cell? ⟨gb120, 1, none⟩ = some (.int .u32 a0_1) ∧ w'.cell? ⟨gb120, 2, none⟩ = some (.int .u32 a0_2) ∧ w'.cell? ⟨gb120, 3, none⟩ = some (.int .u64 a0_3)) ∧ (w'.heap[gb120]? = some (.cells #[.bool true, .int .u32 a0_1, .int .u32 a0_2, .int .u64 a0_3] 25 (0, 0))) ∧ (w'.heap[s_.1]? = some (.cells #[.bool false, .int .u32 0, .int .u32 0, .int .u64 0] 25 (0, 0))) ∧ (w'.heap[s_.2]? = some (.cells #[.bool false, .int .u32 0, .int .u32 0, .int .u64 0] 25 (0, 0))) ∧ (w.heap.size ≤ s_.1) ∧ (w.heap.size ≤ s_.1) ∧ (gb120 ≠ s_.1) ∧ (s_.1 ≠ gb120) ∧ (s_.2 ≠ s_.1) ∧ (s_.1 ≠ s_.2) ∧ (w.heap.size ≤ s_.2) ∧ (w.heap.size ≤ s_.2) ∧ (gb120 ≠ s_.2) ∧ (s_.2 ≠ gb120) ∧ (Below w.heap.size w w')) ?_ ?_
                 rotate_left
                 ·intro hJ8_9
                  refine join_ (σ := Unit) 5 #[true, true, true, true, true, true, true, false, false, false, false, false] (fun s_ => [(33, .agg #[.bool t125, .int .u32 t126, .int .u32 t127, .int .u64 t128])]) (fun s_ w' => (w'.cell? ⟨gb120, 0, none⟩ = some (.bool true) ∧ w'.cell? ⟨gb120, 1, none⟩ = some (.int .u32 a0_1) ∧ w'.cell? ⟨gb120, 2, none⟩ = some (.int .u32 a0_2) ∧ w'.cell? ⟨gb120, 3, none⟩ = some (.int .u64 a0_3)) ∧ (w'.heap[gb120]? = some (.cells #[.bool true, .int .u32 a0_1, .int .u32 a0_2, .int .u64 a0_3] 25 (0, 0))) ∧ (Below w.heap.size w w')) ?_ ?_
                  rotate_left
                  ·intro hJ3
                   refine join_ (σ := Nat) 5 #[true, true, true, false, true, true, true, false, true, false, false, false] (fun s_ => [(7, .pointer (some ⟨s_, 0, none⟩))]) (fun s_ w' => (w'.cell? ⟨gb120, 0, none⟩ = some (.bool true) ∧ w'.cell? ⟨gb120, 1, none⟩ = some (.int .u32 a0_1) ∧ w'.cell? ⟨gb120, 2, none⟩ = some (.int .u32 a0_2) ∧ w'.cell? ⟨gb120, 3, none⟩ = some (.int .u64 a0_3)) ∧ (w'.heap[gb120]? = some (.cells #[.bool true, .int .u32 a0_1, .int .u32 a0_2, .int .u64 a0_3] 25 (0, 0))) ∧ (w'.heap[s_]? = some (.cells #[.bool false, .int .u32 0, .int .u32 0, .int .u64 0] 25 (0, 0))) ∧ (w.heap.size ≤ s_) ∧ (w.heap.size ≤ s_) ∧ (gb120 ≠ s_) ∧ (s_ ≠ gb120) ∧ (Below w.heap.size w w')) ?_ ?_
                   rotate_left
                   ·intro hJ8
                    refine join_ (σ := Nat) 5 #[true, true, true, false, true, true, true, false, false, true, false, false] (fun s_ => [(8, .pointer (some ⟨s_, 0, none⟩))]) (fun s_ w' => (w'.cell? ⟨gb120, 0, none⟩ = some (.bool true) ∧ w'.cell? ⟨gb120, 1, none⟩ = some (.int .u32 a0_1) ∧ w'.cell? ⟨gb120, 2, none⟩ = some (.int .u32 a0_2) ∧ w'.cell? ⟨gb120, 3, none⟩ = some (.int .u64 a0_3)) ∧ (w'.heap[gb120]? = some (.cells #[.bool true, .int .u32 a0_1, .int .u32 a0_2, .int .u64 a0_3] 25 (0, 0))) ∧ (w'.heap[s_]? = some (.cells #[.bool false, .int .u32 0, .int .u32 0, .int .u64 0] 25 (0, 0))) ∧ (w.heap.size ≤ s_) ∧ (w.heap.size ≤ s_) ∧ (gb120 ≠ s_) ∧ (s_ ≠ gb120) ∧ (Below w.heap.size w w')) ?_ ?_
                    rotate_left
                    ·intro hJ9
                     refine three_ (i := 3) (j := 8) (k := 9) (Ni := some 33) (Nj := some 7) (Nk := some 8) #[true, true, true, true, true, true, true, false, false, false, false, false] #[true, true, true, false, true, true, true, false, true, false, false, false] #[true, true, true, false, true, true, true, false, false, true, false, false] rfl rfl rfl rfl rfl rfl (three_of HT_.out (by kernel_rfl)) (by decide) (by decide) (by decide) (fun K hK => ?_) (fun K hK => ?_) (fun K hK => ?_)
                     ·skip
                      refine goes_ Try.func9 (by kernel_rfl) rfl #[.agg #[.bool true, .int .u32 a0_1, .int .u32 a0_2, .int .u64 a0_3], .int .u32 a1, .int .u32 a2] (by rfl) rfl rfl (by (try simp only [List.map_toArray, List.map_cons, List.map_nil]); first | done | rfl | (simp only [List.length_drop, List.length_take]; rfl)) ?_
                      with_reducible refine (seen_Mark.calls true a0_1 a0_2 a0_3 a1 a2 t125 t126 t127 t128 _ A20.out).mono ?_
                      rintro e w54 ⟨rfl, hb⟩
                      refine ⟨_, rfl, ?_⟩
                      have n0_ := Aside0.mk (blk_below (g := gb120) (o := .cells #[.bool true, .int .u32 a0_1, .int .u32 a0_2, .int .u64 a0_3] 25 (0, 0)) (by (with_reducible repeat (first | refine blk_drewN ?_ _ | refine blk_drew ?_ | refine blk_alloc ?_ _)); exact BK120.out) hb)
                      have n1_ := Aside0.mk (below_step (by repeat (first | (with_reducible first | exact HB.out | apply below_alloc | apply pw_below_drewN | apply below_drew1 | refine below_set ?_ GE120.out) | exact HB.out)) hb)
                      clear BK120
                      clear HB
                      have BK120 := n0_
                      have HB := n1_
                      clear n0_ n1_
                      (try clear hb)
                      (try clear hb2)
                      (try clear hk)
                      (try clear hi)
                      refine hK.out _ _ ⟨(blk_cell BK120.out 0).trans rfl, (blk_cell BK120.out 1).trans rfl, (blk_cell BK120.out 2).trans rfl, (blk_cell BK120.out 3).trans rfl⟩ (fun hHeld => ?_)
                      clear hK K
                      refine norm_ (a' := ?_) ?_ ?_
                      rotate_left
                      ·show Act.put _ (some 33) _ = _
                       simp only [Act.put, List.setIfInBounds_toArray, List.set_cons_zero, List.set_cons_succ, i64_w, i32_w]
                       rfl
                      exact norm_ (by first | (simp only [putAll, Act.put, List.setIfInBounds_toArray, List.set_cons_zero, List.set_cons_succ]; done) | (simp only [putAll, Act.put, List.setIfInBounds_toArray, List.set_cons_zero, List.set_cons_succ]; rfl)) (hJ3 () _ ⟨hHeld, (by (with_reducible repeat (first | refine blk_drewN ?_ _ | refine blk_drew ?_ | refine blk_alloc ?_ _)); exact BK120.out), (by repeat (first | (with_reducible first | exact HB.out | apply below_alloc | apply pw_below_drewN | apply below_drew1 | refine below_set ?_ GE120.out) | exact HB.out))⟩)
                     ·skip
                      refine box_step ?hg (N := 7) ?hd (cs := #[.bool false, .int .u32 0, .int .u32 0, .int .u64 0]) (t := 25) ?hr ?_; (case hd => rfl); (case hg => rfl); (case hr => first | (go_simp; done) | (go_simp; rfl))
                      intro gb133 hg w54 hbox hb
                      have n0_ := Aside0.mk (blk_below (g := gb120) (o := .cells #[.bool true, .int .u32 a0_1, .int .u32 a0_2, .int .u64 a0_3] 25 (0, 0)) (by (with_reducible repeat (first | refine blk_drewN ?_ _ | refine blk_drew ?_ | refine blk_alloc ?_ _)); exact BK120.out) hb)
                      have n1_ := Aside0.mk (below_step (by repeat (first | (with_reducible first | exact HB.out | apply below_alloc | apply pw_below_drewN | apply below_drew1 | refine below_set ?_ GE120.out) | exact HB.out)) hb)
                      have n2_ := Aside0.mk (hbox)
                      have n3_ := Aside0.mk ((by rw [hg]; exact (below_size (by repeat (first | (with_reducible first | exact HB.out | apply below_alloc | apply pw_below_drewN | apply below_drew1 | refine below_set ?_ GE120.out) | exact HB.out))) : w.heap.size ≤ gb133))
                      have n4_ := Aside0.mk ((by rw [hg]; exact (below_size (by repeat (first | (with_reducible first | exact HB.out | apply below_alloc | apply pw_below_drewN | apply below_drew1 | refine below_set ?_ GE120.out) | exact HB.out))) : w.heap.size ≤ gb133))
                      have n5_ := Aside0.mk ((by rw [hg]; exact Nat.ne_of_lt (blk_lt (g := gb120) (o := .cells #[.bool true, .int .u32 a0_1, .int .u32 a0_2, .int .u64 a0_3] 25 (0, 0)) (by (with_reducible repeat (first | refine blk_drewN ?_ _ | refine blk_drew ?_ | refine blk_alloc ?_ _)); exact BK120.out)) : gb120 ≠ gb133))
                      have n6_ := Aside0.mk ((by rw [hg]; exact Nat.ne_of_gt (blk_lt (g := gb120) (o := .cells #[.bool true, .int .u32 a0_1, .int .u32 a0_2, .int .u64 a0_3] 25 (0, 0)) (by (with_reducible repeat (first | refine blk_drewN ?_ _ | refine blk_drew ?_ | refine blk_alloc ?_ _)); exact BK120.out)) : gb133 ≠ gb120))
                      clear BK120
                      clear HB
                      have BK120 := n0_
                      have HB := n1_
                      have BK133 := n2_
                      have GW133 := n3_
                      have GE133 := n4_
                      have NB120_133 := n5_
                      have NB133_120 := n6_
                      clear n0_ n1_ n2_ n3_ n4_ n5_ n6_
                      clear hb hbox hg
                      refine hK.out _ _ ⟨(blk_cell BK120.out 0).trans rfl, (blk_cell BK120.out 1).trans rfl, (blk_cell BK120.out 2).trans rfl, (blk_cell BK120.out 3).trans rfl⟩ (fun hHeld => ?_)
                      clear hK K
                      refine norm_ (a' := ?_) ?_ ?_
                      rotate_left
                      ·show Act.put _ (some 7) _ = _
                       simp only [Act.put, List.setIfInBounds_toArray, List.set_cons_zero, List.set_cons_succ, i64_w, i32_w]
                       rfl
                      exact norm_ (by first | (simp only [putAll, Act.put, List.setIfInBounds_toArray, List.set_cons_zero, List.set_cons_succ]; done) | (simp only [putAll, Act.put, List.setIfInBounds_toArray, List.set_cons_zero, List.set_cons_succ]; rfl)) (hJ8 (gb133) _ ⟨hHeld, (by (with_reducible repeat (first | refine blk_drewN ?_ _ | refine blk_drew ?_ | refine blk_alloc ?_ _)); exact BK120.out), (by (with_reducible repeat (first | refine blk_drewN ?_ _ | refine blk_drew ?_ | refine blk_alloc ?_ _)); exact BK133.out), GW133.out, GE133.out, NB120_133.out, NB133_120.out, (by repeat (first | (with_reducible first | exact HB.out | apply below_alloc | apply pw_below_drewN | apply below_drew1 | refine below_set ?_ GE120.out | refine below_set ?_ GE133.out) | exact HB.out))⟩)
                     ·skip
                      refine box_step ?hg (N := 8) ?hd (cs := #[.bool false, .int .u32 0, .int .u32 0, .int .u64 0]) (t := 25) ?hr ?_; (case hd => rfl); (case hg => rfl); (case hr => first | (go_simp; done) | (go_simp; rfl))
                      intro gb134 hg w54 hbox hb
                      have n0_ := Aside0.mk (blk_below (g := gb120) (o := .cells #[.bool true, .int .u32 a0_1, .int .u32 a0_2, .int .u64 a0_3] 25 (0, 0)) (by (with_reducible repeat (first | refine blk_drewN ?_ _ | refine blk_drew ?_ | refine blk_alloc ?_ _)); exact BK120.out) hb)
                      have n1_ := Aside0.mk (below_step (by repeat (first | (with_reducible first | exact HB.out | apply below_alloc | apply pw_below_drewN | apply below_drew1 | refine below_set ?_ GE120.out) | exact HB.out)) hb)
                      have n2_ := Aside0.mk (hbox)
                      have n3_ := Aside0.mk ((by rw [hg]; exact (below_size (by repeat (first | (with_reducible first | exact HB.out | apply below_alloc | apply pw_below_drewN | apply below_drew1 | refine below_set ?_ GE120.out) | exact HB.out))) : w.heap.size ≤ gb134))
                      have n4_ := Aside0.mk ((by rw [hg]; exact (below_size (by repeat (first | (with_reducible first | exact HB.out | apply below_alloc | apply pw_below_drewN | apply below_drew1 | refine below_set ?_ GE120.out) | exact HB.out))) : w.heap.size ≤ gb134))
                      have n5_ := Aside0.mk ((by rw [hg]; exact Nat.ne_of_lt (blk_lt (g := gb120) (o := .cells #[.bool true, .int .u32 a0_1, .int .u32 a0_2, .int .u64 a0_3] 25 (0, 0)) (by (with_reducible repeat (first | refine blk_drewN ?_ _ | refine blk_drew ?_ | refine blk_alloc ?_ _)); exact BK120.out)) : gb120 ≠ gb134))
                      have n6_ := Aside0.mk ((by rw [hg]; exact Nat.ne_of_gt (blk_lt (g := gb120) (o := .cells #[.bool true, .int .u32 a0_1, .int .u32 a0_2, .int .u64 a0_3] 25 (0, 0)) (by (with_reducible repeat (first | refine blk_drewN ?_ _ | refine blk_drew ?_ | refine blk_alloc ?_ _)); exact BK120.out)) : gb134 ≠ gb120))
                      clear BK120
                      clear HB
                      have BK120 := n0_
                      have HB := n1_
                      have BK134 := n2_
                      have GW134 := n3_
                      have GE134 := n4_
                      have NB120_134 := n5_
                      have NB134_120 := n6_
                      clear n0_ n1_ n2_ n3_ n4_ n5_ n6_
                      clear hb hbox hg
                      refine hK.out _ _ ⟨(blk_cell BK120.out 0).trans rfl, (blk_cell BK120.out 1).trans rfl, (blk_cell BK120.out 2).trans rfl, (blk_cell BK120.out 3).trans rfl⟩ (fun hHeld => ?_)
                      clear hK K
                      refine norm_ (a' := ?_) ?_ ?_
                      rotate_left
                      ·show Act.put _ (some 8) _ = _
                       simp only [Act.put, List.setIfInBounds_toArray, List.set_cons_zero, List.set_cons_succ, i64_w, i32_w]
                       rfl
                      exact norm_ (by first | (simp only [putAll, Act.put, List.setIfInBounds_toArray, List.set_cons_zero, List.set_cons_succ]; done) | (simp only [putAll, Act.put, List.setIfInBounds_toArray, List.set_cons_zero, List.set_cons_succ]; rfl)) (hJ9 (gb134) _ ⟨hHeld, (by (with_reducible repeat (first | refine blk_drewN ?_ _ | refine blk_drew ?_ | refine blk_alloc ?_ _)); exact BK120.out), (by (with_reducible repeat (first | refine blk_drewN ?_ _ | refine blk_drew ?_ | refine blk_alloc ?_ _)); exact BK134.out), GW134.out, GE134.out, NB120_134.out, NB134_120.out, (by repeat (first | (with_reducible first | exact HB.out | apply below_alloc | apply pw_below_drewN | apply below_drew1 | refine below_set ?_ GE120.out | refine below_set ?_ GE134.out) | exact HB.out))⟩)
                    ·skip
                     rintro gb134 w55 ⟨hS_, h0_, h1_, h2_, h3_, h4_, h5_, h6_⟩
                     have n0_ : Aside0 (w55.heap[gb120]? = some (.cells #[.bool true, .int .u32 a0_1, .int .u32 a0_2, .int .u64 a0_3] 25 (0, 0))) := ⟨h0_⟩
                     have n1_ : Aside0 (w55.heap[gb134]? = some (.cells #[.bool false, .int .u32 0, .int .u32 0, .int .u64 0] 25 (0, 0))) := ⟨h1_⟩
                     have n2_ : Aside0 (w.heap.size ≤ gb134) := ⟨h2_⟩
                     have n3_ : Aside0 (w.heap.size ≤ gb134) := ⟨h3_⟩
                     have n4_ : Aside0 (gb120 ≠ gb134) := ⟨h4_⟩
                     have n5_ : Aside0 (gb134 ≠ gb120) := ⟨h5_⟩
                     have n6_ : Aside0 (Below w.heap.size w w55) := ⟨h6_⟩
                     clear BK120
                     clear HB
                     clear h0_ h1_ h2_ h3_ h4_ h5_ h6_
                     have BK120 := n0_
                     have BK134 := n1_
                     have GW134 := n2_
                     have GE134 := n3_
                     have NB120_134 := n4_
                     have NB134_120 := n5_
                     have HB := n6_
                     clear n0_ n1_ n2_ n3_ n4_ n5_ n6_
                     have hHeld : w55.cell? ⟨gb120, 0, none⟩ = some (.bool true) ∧ w55.cell? ⟨gb120, 1, none⟩ = some (.int .u32 a0_1) ∧ w55.cell? ⟨gb120, 2, none⟩ = some (.int .u32 a0_2) ∧ w55.cell? ⟨gb120, 3, none⟩ = some (.int .u64 a0_3) := hS_
                     refine norm_ (a' := ?_) ?_ ?_
                     rotate_left
                     ·simp only [putAll, Act.put, List.setIfInBounds_toArray, List.set_cons_zero, List.set_cons_succ]
                      rfl
                     refine two_ (i := 3) (j := 8) (Ni := some 33) (Nj := some 7) #[true, true, true, true, true, true, true, false, false, true, false, false] #[true, true, true, false, true, true, true, false, true, true, false, false] rfl rfl rfl rfl (two_of HT_.out (by kernel_rfl)) (by decide) (by decide) (fun K hK => ?_) (fun K hK => ?_)
                     ·skip
                      refine goes_ Try.func9 (by kernel_rfl) rfl #[.agg #[.bool true, .int .u32 a0_1, .int .u32 a0_2, .int .u64 a0_3], .int .u32 a1, .int .u32 a2] (by rfl) rfl rfl (by (try simp only [List.map_toArray, List.map_cons, List.map_nil]); first | done | rfl | (simp only [List.length_drop, List.length_take]; rfl)) ?_
                      with_reducible refine (seen_Mark.calls true a0_1 a0_2 a0_3 a1 a2 t125 t126 t127 t128 _ A20.out).mono ?_
                      rintro e w56 ⟨rfl, hb⟩
                      refine ⟨_, rfl, ?_⟩
                      have n0_ := Aside0.mk (blk_below (g := gb120) (o := .cells #[.bool true, .int .u32 a0_1, .int .u32 a0_2, .int .u64 a0_3] 25 (0, 0)) (by (with_reducible repeat (first | refine blk_drewN ?_ _ | refine blk_drew ?_ | refine blk_alloc ?_ _)); exact BK120.out) hb)
                      have n1_ := Aside0.mk (blk_below (g := gb134) (o := .cells #[.bool false, .int .u32 0, .int .u32 0, .int .u64 0] 25 (0, 0)) (by (with_reducible repeat (first | refine blk_drewN ?_ _ | refine blk_drew ?_ | refine blk_alloc ?_ _)); exact BK134.out) hb)
                      have n2_ := Aside0.mk (below_step (by repeat (first | (with_reducible first | exact HB.out | apply below_alloc | apply pw_below_drewN | apply below_drew1 | refine below_set ?_ GE120.out | refine below_set ?_ GE134.out) | exact HB.out)) hb)
                      clear BK120
                      clear BK134
                      clear HB
                      have BK120 := n0_
                      have BK134 := n1_
                      have HB := n2_
                      clear n0_ n1_ n2_
                      (try clear hb)
                      (try clear hb2)
                      (try clear hk)
                      (try clear hi)
                      refine hK.out _ _ ⟨(blk_cell BK120.out 0).trans rfl, (blk_cell BK120.out 1).trans rfl, (blk_cell BK120.out 2).trans rfl, (blk_cell BK120.out 3).trans rfl⟩ (fun hHeld => ?_)
                      clear hK K
                      refine norm_ (a' := ?_) ?_ ?_
                      rotate_left
                      ·show Act.put _ (some 33) _ = _
                       simp only [Act.put, List.setIfInBounds_toArray, List.set_cons_zero, List.set_cons_succ, i64_w, i32_w]
                       rfl
                      exact norm_ (by first | (simp only [putAll, Act.put, List.setIfInBounds_toArray, List.set_cons_zero, List.set_cons_succ]; done) | (simp only [putAll, Act.put, List.setIfInBounds_toArray, List.set_cons_zero, List.set_cons_succ]; rfl)) (hJ3_9 (gb134) _ ⟨hHeld, (by (with_reducible repeat (first | refine blk_drewN ?_ _ | refine blk_drew ?_ | refine blk_alloc ?_ _)); exact BK120.out), (by (with_reducible repeat (first | refine blk_drewN ?_ _ | refine blk_drew ?_ | refine blk_alloc ?_ _)); exact BK134.out), GW134.out, GE134.out, NB120_134.out, NB134_120.out, (by repeat (first | (with_reducible first | exact HB.out | apply below_alloc | apply pw_below_drewN | apply below_drew1 | refine below_set ?_ GE120.out | refine below_set ?_ GE134.out) | exact HB.out))⟩)
                     ·skip
                      refine box_step ?hg (N := 7) ?hd (cs := #[.bool false, .int .u32 0, .int .u32 0, .int .u64 0]) (t := 25) ?hr ?_; (case hd => rfl); (case hg => rfl); (case hr => first | (go_simp; done) | (go_simp; rfl))
                      intro gb133 hg w56 hbox hb
                      have n0_ := Aside0.mk (blk_below (g := gb120) (o := .cells #[.bool true, .int .u32 a0_1, .int .u32 a0_2, .int .u64 a0_3] 25 (0, 0)) (by (with_reducible repeat (first | refine blk_drewN ?_ _ | refine blk_drew ?_ | refine blk_alloc ?_ _)); exact BK120.out) hb)
                      have n1_ := Aside0.mk (blk_below (g := gb134) (o := .cells #[.bool false, .int .u32 0, .int .u32 0, .int .u64 0] 25 (0, 0)) (by (with_reducible repeat (first | refine blk_drewN ?_ _ | refine blk_drew ?_ | refine blk_alloc ?_ _)); exact BK134.out) hb)
                      have n2_ := Aside0.mk (below_step (by repeat (first | (with_reducible first | exact HB.out | apply below_alloc | apply pw_below_drewN | apply below_drew1 | refine below_set ?_ GE120.out | refine below_set ?_ GE134.out) | exact HB.out)) hb)
                      have n3_ := Aside0.mk (hbox)
                      have n4_ := Aside0.mk ((by rw [hg]; exact (below_size (by repeat (first | (with_reducible first | exact HB.out | apply below_alloc | apply pw_below_drewN | apply below_drew1 | refine below_set ?_ GE120.out | refine below_set ?_ GE134.out) | exact HB.out))) : w.heap.size ≤ gb133))
                      have n5_ := Aside0.mk ((by rw [hg]; exact (below_size (by repeat (first | (with_reducible first | exact HB.out | apply below_alloc | apply pw_below_drewN | apply below_drew1 | refine below_set ?_ GE120.out | refine below_set ?_ GE134.out) | exact HB.out))) : w.heap.size ≤ gb133))
                      have n6_ := Aside0.mk ((by rw [hg]; exact Nat.ne_of_lt (blk_lt (g := gb120) (o := .cells #[.bool true, .int .u32 a0_1, .int .u32 a0_2, .int .u64 a0_3] 25 (0, 0)) (by (with_reducible repeat (first | refine blk_drewN ?_ _ | refine blk_drew ?_ | refine blk_alloc ?_ _)); exact BK120.out)) : gb120 ≠ gb133))
                      have n7_ := Aside0.mk ((by rw [hg]; exact Nat.ne_of_gt (blk_lt (g := gb120) (o := .cells #[.bool true, .int .u32 a0_1, .int .u32 a0_2, .int .u64 a0_3] 25 (0, 0)) (by (with_reducible repeat (first | refine blk_drewN ?_ _ | refine blk_drew ?_ | refine blk_alloc ?_ _)); exact BK120.out)) : gb133 ≠ gb120))
                      have n8_ := Aside0.mk ((by rw [hg]; exact Nat.ne_of_lt (blk_lt (g := gb134) (o := .cells #[.bool false, .int .u32 0, .int .u32 0, .int .u64 0] 25 (0, 0)) (by (with_reducible repeat (first | refine blk_drewN ?_ _ | refine blk_drew ?_ | refine blk_alloc ?_ _)); exact BK134.out)) : gb134 ≠ gb133))
                      have n9_ := Aside0.mk ((by rw [hg]; exact Nat.ne_of_gt (blk_lt (g := gb134) (o := .cells #[.bool false, .int .u32 0, .int .u32 0, .int .u64 0] 25 (0, 0)) (by (with_reducible repeat (first | refine blk_drewN ?_ _ | refine blk_drew ?_ | refine blk_alloc ?_ _)); exact BK134.out)) : gb133 ≠ gb134))
                      clear BK120
                      clear BK134
                      clear HB
                      have BK120 := n0_
                      have BK134 := n1_
                      have HB := n2_
                      have BK133 := n3_
                      have GW133 := n4_
                      have GE133 := n5_
                      have NB120_133 := n6_
                      have NB133_120 := n7_
                      have NB134_133 := n8_
                      have NB133_134 := n9_
                      clear n0_ n1_ n2_ n3_ n4_ n5_ n6_ n7_ n8_ n9_
                      clear hb hbox hg
                      refine hK.out _ _ ⟨(blk_cell BK120.out 0).trans rfl, (blk_cell BK120.out 1).trans rfl, (blk_cell BK120.out 2).trans rfl, (blk_cell BK120.out 3).trans rfl⟩ (fun hHeld => ?_)
                      clear hK K
                      refine norm_ (a' := ?_) ?_ ?_
                      rotate_left
                      ·show Act.put _ (some 7) _ = _
                       simp only [Act.put, List.setIfInBounds_toArray, List.set_cons_zero, List.set_cons_succ, i64_w, i32_w]
                       rfl
                      exact norm_ (by first | (simp only [putAll, Act.put, List.setIfInBounds_toArray, List.set_cons_zero, List.set_cons_succ]; done) | (simp only [putAll, Act.put, List.setIfInBounds_toArray, List.set_cons_zero, List.set_cons_succ]; rfl)) (hJ8_9 (gb133, gb134) _ ⟨hHeld, (by (with_reducible repeat (first | refine blk_drewN ?_ _ | refine blk_drew ?_ | refine blk_alloc ?_ _)); exact BK120.out), (by (with_reducible repeat (first | refine blk_drewN ?_ _ | refine blk_drew ?_ | refine blk_alloc ?_ _)); exact BK133.out), (by (with_reducible repeat (first | refine blk_drewN ?_ _ | refine blk_drew ?_ | refine blk_alloc ?_ _)); exact BK134.out), GW133.out, GE133.out, NB120_133.out, NB133_120.out, NB134_133.out, NB133_134.out, GW134.out, GE134.out, NB120_134.out, NB134_120.out, (by repeat (first | (with_reducible first | exact HB.out | apply below_alloc | apply pw_below_drewN | apply below_drew1 | refine below_set ?_ GE120.out | refine below_set ?_ GE134.out | refine below_set ?_ GE133.out) | exact HB.out))⟩)
                   ·skip
                    rintro gb133 w55 ⟨hS_, h0_, h1_, h2_, h3_, h4_, h5_, h6_⟩
                    have n0_ : Aside0 (w55.heap[gb120]? = some (.cells #[.bool true, .int .u32 a0_1, .int .u32 a0_2, .int .u64 a0_3] 25 (0, 0))) := ⟨h0_⟩
                    have n1_ : Aside0 (w55.heap[gb133]? = some (.cells #[.bool false, .int .u32 0, .int .u32 0, .int .u64 0] 25 (0, 0))) := ⟨h1_⟩
                    have n2_ : Aside0 (w.heap.size ≤ gb133) := ⟨h2_⟩
                    have n3_ : Aside0 (w.heap.size ≤ gb133) := ⟨h3_⟩
                    have n4_ : Aside0 (gb120 ≠ gb133) := ⟨h4_⟩
                    have n5_ : Aside0 (gb133 ≠ gb120) := ⟨h5_⟩
                    have n6_ : Aside0 (Below w.heap.size w w55) := ⟨h6_⟩
                    clear BK120
                    clear HB
                    clear h0_ h1_ h2_ h3_ h4_ h5_ h6_
                    have BK120 := n0_
                    have BK133 := n1_
                    have GW133 := n2_
                    have GE133 := n3_
                    have NB120_133 := n4_
                    have NB133_120 := n5_
                    have HB := n6_
                    clear n0_ n1_ n2_ n3_ n4_ n5_ n6_
                    have hHeld : w55.cell? ⟨gb120, 0, none⟩ = some (.bool true) ∧ w55.cell? ⟨gb120, 1, none⟩ = some (.int .u32 a0_1) ∧ w55.cell? ⟨gb120, 2, none⟩ = some (.int .u32 a0_2) ∧ w55.cell? ⟨gb120, 3, none⟩ = some (.int .u64 a0_3) := hS_
                    refine norm_ (a' := ?_) ?_ ?_
                    rotate_left
                    ·simp only [putAll, Act.put, List.setIfInBounds_toArray, List.set_cons_zero, List.set_cons_succ]
                     rfl
                    refine two_ (i := 3) (j := 9) (Ni := some 33) (Nj := some 8) #[true, true, true, true, true, true, true, false, true, false, false, false] #[true, true, true, false, true, true, true, false, true, true, false, false] rfl rfl rfl rfl (two_of HT_.out (by kernel_rfl)) (by decide) (by decide) (fun K hK => ?_) (fun K hK => ?_)
                    ·skip
                     refine goes_ Try.func9 (by kernel_rfl) rfl #[.agg #[.bool true, .int .u32 a0_1, .int .u32 a0_2, .int .u64 a0_3], .int .u32 a1, .int .u32 a2] (by rfl) rfl rfl (by (try simp only [List.map_toArray, List.map_cons, List.map_nil]); first | done | rfl | (simp only [List.length_drop, List.length_take]; rfl)) ?_
                     with_reducible refine (seen_Mark.calls true a0_1 a0_2 a0_3 a1 a2 t125 t126 t127 t128 _ A20.out).mono ?_
                     rintro e w56 ⟨rfl, hb⟩
                     refine ⟨_, rfl, ?_⟩
                     have n0_ := Aside0.mk (blk_below (g := gb120) (o := .cells #[.bool true, .int .u32 a0_1, .int .u32 a0_2, .int .u64 a0_3] 25 (0, 0)) (by (with_reducible repeat (first | refine blk_drewN ?_ _ | refine blk_drew ?_ | refine blk_alloc ?_ _)); exact BK120.out) hb)
                     have n1_ := Aside0.mk (blk_below (g := gb133) (o := .cells #[.bool false, .int .u32 0, .int .u32 0, .int .u64 0] 25 (0, 0)) (by (with_reducible repeat (first | refine blk_drewN ?_ _ | refine blk_drew ?_ | refine blk_alloc ?_ _)); exact BK133.out) hb)
                     have n2_ := Aside0.mk (below_step (by repeat (first | (with_reducible first | exact HB.out | apply below_alloc | apply pw_below_drewN | apply below_drew1 | refine below_set ?_ GE120.out | refine below_set ?_ GE133.out) | exact HB.out)) hb)
                     clear BK120
                     clear BK133
                     clear HB
                     have BK120 := n0_
                     have BK133 := n1_
                     have HB := n2_
                     clear n0_ n1_ n2_
                     (try clear hb)
                     (try clear hb2)
                     (try clear hk)
                     (try clear hi)
                     refine hK.out _ _ ⟨(blk_cell BK120.out 0).trans rfl, (blk_cell BK120.out 1).trans rfl, (blk_cell BK120.out 2).trans rfl, (blk_cell BK120.out 3).trans rfl⟩ (fun hHeld => ?_)
                     clear hK K
                     refine norm_ (a' := ?_) ?_ ?_
                     rotate_left
                     ·show Act.put _ (some 33) _ = _
                      simp only [Act.put, List.setIfInBounds_toArray, List.set_cons_zero, List.set_cons_succ, i64_w, i32_w]
                      rfl
                     exact norm_ (by first | (simp only [putAll, Act.put, List.setIfInBounds_toArray, List.set_cons_zero, List.set_cons_succ]; done) | (simp only [putAll, Act.put, List.setIfInBounds_toArray, List.set_cons_zero, List.set_cons_succ]; rfl)) (hJ3_8 (gb133) _ ⟨hHeld, (by (with_reducible repeat (first | refine blk_drewN ?_ _ | refine blk_drew ?_ | refine blk_alloc ?_ _)); exact BK120.out), (by (with_reducible repeat (first | refine blk_drewN ?_ _ | refine blk_drew ?_ | refine blk_alloc ?_ _)); exact BK133.out), GW133.out, GE133.out, NB120_133.out, NB133_120.out, (by repeat (first | (with_reducible first | exact HB.out | apply below_alloc | apply pw_below_drewN | apply below_drew1 | refine below_set ?_ GE120.out | refine below_set ?_ GE133.out) | exact HB.out))⟩)
                    ·skip
                     refine box_step ?hg (N := 8) ?hd (cs := #[.bool false, .int .u32 0, .int .u32 0, .int .u64 0]) (t := 25) ?hr ?_; (case hd => rfl); (case hg => rfl); (case hr => first | (go_simp; done) | (go_simp; rfl))
                     intro gb134 hg w56 hbox hb
                     have n0_ := Aside0.mk (blk_below (g := gb120) (o := .cells #[.bool true, .int .u32 a0_1, .int .u32 a0_2, .int .u64 a0_3] 25 (0, 0)) (by (with_reducible repeat (first | refine blk_drewN ?_ _ | refine blk_drew ?_ | refine blk_alloc ?_ _)); exact BK120.out) hb)
                     have n1_ := Aside0.mk (blk_below (g := gb133) (o := .cells #[.bool false, .int .u32 0, .int .u32 0, .int .u64 0] 25 (0, 0)) (by (with_reducible repeat (first | refine blk_drewN ?_ _ | refine blk_drew ?_ | refine blk_alloc ?_ _)); exact BK133.out) hb)
                     have n2_ := Aside0.mk (below_step (by repeat (first | (with_reducible first | exact HB.out | apply below_alloc | apply pw_below_drewN | apply below_drew1 | refine below_set ?_ GE120.out | refine below_set ?_ GE133.out) | exact HB.out)) hb)
                     have n3_ := Aside0.mk (hbox)
                     have n4_ := Aside0.mk ((by rw [hg]; exact (below_size (by repeat (first | (with_reducible first | exact HB.out | apply below_alloc | apply pw_below_drewN | apply below_drew1 | refine below_set ?_ GE120.out | refine below_set ?_ GE133.out) | exact HB.out))) : w.heap.size ≤ gb134))
                     have n5_ := Aside0.mk ((by rw [hg]; exact (below_size (by repeat (first | (with_reducible first | exact HB.out | apply below_alloc | apply pw_below_drewN | apply below_drew1 | refine below_set ?_ GE120.out | refine below_set ?_ GE133.out) | exact HB.out))) : w.heap.size ≤ gb134))
                     have n6_ := Aside0.mk ((by rw [hg]; exact Nat.ne_of_lt (blk_lt (g := gb120) (o := .cells #[.bool true, .int .u32 a0_1, .int .u32 a0_2, .int .u64 a0_3] 25 (0, 0)) (by (with_reducible repeat (first | refine blk_drewN ?_ _ | refine blk_drew ?_ | refine blk_alloc ?_ _)); exact BK120.out)) : gb120 ≠ gb134))
                     have n7_ := Aside0.mk ((by rw [hg]; exact Nat.ne_of_gt (blk_lt (g := gb120) (o := .cells #[.bool true, .int .u32 a0_1, .int .u32 a0_2, .int .u64 a0_3] 25 (0, 0)) (by (with_reducible repeat (first | refine blk_drewN ?_ _ | refine blk_drew ?_ | refine blk_alloc ?_ _)); exact BK120.out)) : gb134 ≠ gb120))
                     have n8_ := Aside0.mk ((by rw [hg]; exact Nat.ne_of_lt (blk_lt (g := gb133) (o := .cells #[.bool false, .int .u32 0, .int .u32 0, .int .u64 0] 25 (0, 0)) (by (with_reducible repeat (first | refine blk_drewN ?_ _ | refine blk_drew ?_ | refine blk_alloc ?_ _)); exact BK133.out)) : gb133 ≠ gb134))
                     have n9_ := Aside0.mk ((by rw [hg]; exact Nat.ne_of_gt (blk_lt (g := gb133) (o := .cells #[.bool false, .int .u32 0, .int .u32 0, .int .u64 0] 25 (0, 0)) (by (with_reducible repeat (first | refine blk_drewN ?_ _ | refine blk_drew ?_ | refine blk_alloc ?_ _)); exact BK133.out)) : gb134 ≠ gb133))
                     clear BK120
                     clear BK133
                     clear HB
                     have BK120 := n0_
                     have BK133 := n1_
                     have HB := n2_
                     have BK134 := n3_
                     have GW134 := n4_
                     have GE134 := n5_
                     have NB120_134 := n6_
                     have NB134_120 := n7_
                     have NB133_134 := n8_
                     have NB134_133 := n9_
                     clear n0_ n1_ n2_ n3_ n4_ n5_ n6_ n7_ n8_ n9_
                     clear hb hbox hg
                     refine hK.out _ _ ⟨(blk_cell BK120.out 0).trans rfl, (blk_cell BK120.out 1).trans rfl, (blk_cell BK120.out 2).trans rfl, (blk_cell BK120.out 3).trans rfl⟩ (fun hHeld => ?_)
                     clear hK K
                     refine norm_ (a' := ?_) ?_ ?_
                     rotate_left
                     ·show Act.put _ (some 8) _ = _
                      simp only [Act.put, List.setIfInBounds_toArray, List.set_cons_zero, List.set_cons_succ, i64_w, i32_w]
                      rfl
                     exact norm_ (by first | (simp only [putAll, Act.put, List.setIfInBounds_toArray, List.set_cons_zero, List.set_cons_succ]; done) | (simp only [putAll, Act.put, List.setIfInBounds_toArray, List.set_cons_zero, List.set_cons_succ]; rfl)) (hJ8_9 (gb133, gb134) _ ⟨hHeld, (by (with_reducible repeat (first | refine blk_drewN ?_ _ | refine blk_drew ?_ | refine blk_alloc ?_ _)); exact BK120.out), (by (with_reducible repeat (first | refine blk_drewN ?_ _ | refine blk_drew ?_ | refine blk_alloc ?_ _)); exact BK133.out), (by (with_reducible repeat (first | refine blk_drewN ?_ _ | refine blk_drew ?_ | refine blk_alloc ?_ _)); exact BK134.out), GW133.out, GE133.out, NB120_133.out, NB133_120.out, NB134_133.out, NB133_134.out, GW134.out, GE134.out, NB120_134.out, NB134_120.out, (by repeat (first | (with_reducible first | exact HB.out | apply below_alloc | apply pw_below_drewN | apply below_drew1 | refine below_set ?_ GE120.out | refine below_set ?_ GE133.out | refine below_set ?_ GE134.out) | exact HB.out))⟩)
                  ·skip
                   rintro _ w55 ⟨hS_, h0_, h1_⟩
                   have n0_ : Aside0 (w55.heap[gb120]? = some (.cells #[.bool true, .int .u32 a0_1, .int .u32 a0_2, .int .u64 a0_3] 25 (0, 0))) := ⟨h0_⟩
                   have n1_ : Aside0 (Below w.heap.size w w55) := ⟨h1_⟩
                   clear BK120
                   clear HB
                   clear h0_ h1_
                   have BK120 := n0_
                   have HB := n1_
                   clear n0_ n1_
                   have hHeld : w55.cell? ⟨gb120, 0, none⟩ = some (.bool true) ∧ w55.cell? ⟨gb120, 1, none⟩ = some (.int .u32 a0_1) ∧ w55.cell? ⟨gb120, 2, none⟩ = some (.int .u32 a0_2) ∧ w55.cell? ⟨gb120, 3, none⟩ = some (.int .u64 a0_3) := hS_
                   refine norm_ (a' := ?_) ?_ ?_
                   rotate_left
                   ·simp only [putAll, Act.put, List.setIfInBounds_toArray, List.set_cons_zero, List.set_cons_succ]
                    rfl
                   refine three_ (i := 7) (j := 8) (k := 9) (Ni := some 37) (Nj := some 7) (Nk := some 8) #[true, true, true, true, true, true, true, true, false, false, false, false] #[true, true, true, true, true, true, true, false, true, false, false, false] #[true, true, true, true, true, true, true, false, false, true, false, false] rfl rfl rfl rfl rfl rfl (three_of HT_.out (by kernel_rfl)) (by decide) (by decide) (by decide) (fun K hK => ?_) (fun K hK => ?_) (fun K hK => ?_)
                   ·skip
                    refine goes_ Try.func10 (by kernel_rfl) rfl #[.agg #[.bool true, .int .u32 a0_1, .int .u32 a0_2, .int .u64 a0_3], .int .u32 a1, .int .u32 a2] (by rfl) rfl rfl (by (try simp only [List.map_toArray, List.map_cons, List.map_nil]); first | done | rfl | (simp only [List.length_drop, List.length_take]; rfl)) ?_
                    with_reducible refine (annuletref20_Mark.calls kj3 true a0_1 a0_2 a0_3 a1 a2 t129 t130 t131 t132 _ A21.out).mono ?_
                    rintro e w56 ⟨rfl, hb⟩
                    refine ⟨_, rfl, ?_⟩
                    have n0_ := Aside0.mk (blk_below (g := gb120) (o := .cells #[.bool true, .int .u32 a0_1, .int .u32 a0_2, .int .u64 a0_3] 25 (0, 0)) (by (with_reducible repeat (first | refine blk_drewN ?_ _ | refine blk_drew ?_ | refine blk_alloc ?_ _)); exact BK120.out) hb)
                    have n1_ := Aside0.mk (below_step (by repeat (first | (with_reducible first | exact HB.out | apply below_alloc | apply pw_below_drewN | apply below_drew1 | refine below_set ?_ GE120.out) | exact HB.out)) hb)
                    clear BK120
                    clear HB
                    have BK120 := n0_
                    have HB := n1_
                    clear n0_ n1_
                    (try clear hb)
                    (try clear hb2)
                    (try clear hk)
                    (try clear hi)
                    refine hK.out _ _ ⟨(blk_cell BK120.out 0).trans rfl, (blk_cell BK120.out 1).trans rfl, (blk_cell BK120.out 2).trans rfl, (blk_cell BK120.out 3).trans rfl⟩ (fun hHeld => ?_)
                    clear hK K
                    refine norm_ (a' := ?_) ?_ ?_
                    rotate_left
                    ·show Act.put _ (some 37) _ = _
                     simp only [Act.put, List.setIfInBounds_toArray, List.set_cons_zero, List.set_cons_succ, i64_w, i32_w]
                     rfl
                    exact norm_ (by first | (simp only [putAll, Act.put, List.setIfInBounds_toArray, List.set_cons_zero, List.set_cons_succ]; done) | (simp only [putAll, Act.put, List.setIfInBounds_toArray, List.set_cons_zero, List.set_cons_succ]; rfl)) (hJ3_7 () _ ⟨hHeld, (by (with_reducible repeat (first | refine blk_drewN ?_ _ | refine blk_drew ?_ | refine blk_alloc ?_ _)); exact BK120.out), (by repeat (first | (with_reducible first | exact HB.out | apply below_alloc | apply pw_below_drewN | apply below_drew1 | refine below_set ?_ GE120.out) | exact HB.out))⟩)
                   ·skip
                    refine box_step ?hg (N := 7) ?hd (cs := #[.bool false, .int .u32 0, .int .u32 0, .int .u64 0]) (t := 25) ?hr ?_; (case hd => rfl); (case hg => rfl); (case hr => first | (go_simp; done) | (go_simp; rfl))
                    intro gb133 hg w56 hbox hb
                    have n0_ := Aside0.mk (blk_below (g := gb120) (o := .cells #[.bool true, .int .u32 a0_1, .int .u32 a0_2, .int .u64 a0_3] 25 (0, 0)) (by (with_reducible repeat (first | refine blk_drewN ?_ _ | refine blk_drew ?_ | refine blk_alloc ?_ _)); exact BK120.out) hb)
                    have n1_ := Aside0.mk (below_step (by repeat (first | (with_reducible first | exact HB.out | apply below_alloc | apply pw_below_drewN | apply below_drew1 | refine below_set ?_ GE120.out) | exact HB.out)) hb)
                    have n2_ := Aside0.mk (hbox)
                    have n3_ := Aside0.mk ((by rw [hg]; exact (below_size (by repeat (first | (with_reducible first | exact HB.out | apply below_alloc | apply pw_below_drewN | apply below_drew1 | refine below_set ?_ GE120.out) | exact HB.out))) : w.heap.size ≤ gb133))
                    have n4_ := Aside0.mk ((by rw [hg]; exact (below_size (by repeat (first | (with_reducible first | exact HB.out | apply below_alloc | apply pw_below_drewN | apply below_drew1 | refine below_set ?_ GE120.out) | exact HB.out))) : w.heap.size ≤ gb133))
                    have n5_ := Aside0.mk ((by rw [hg]; exact Nat.ne_of_lt (blk_lt (g := gb120) (o := .cells #[.bool true, .int .u32 a0_1, .int .u32 a0_2, .int .u64 a0_3] 25 (0, 0)) (by (with_reducible repeat (first | refine blk_drewN ?_ _ | refine blk_drew ?_ | refine blk_alloc ?_ _)); exact BK120.out)) : gb120 ≠ gb133))
                    have n6_ := Aside0.mk ((by rw [hg]; exact Nat.ne_of_gt (blk_lt (g := gb120) (o := .cells #[.bool true, .int .u32 a0_1, .int .u32 a0_2, .int .u64 a0_3] 25 (0, 0)) (by (with_reducible repeat (first | refine blk_drewN ?_ _ | refine blk_drew ?_ | refine blk_alloc ?_ _)); exact BK120.out)) : gb133 ≠ gb120))
                    clear BK120
                    clear HB
                    have BK120 := n0_
                    have HB := n1_
                    have BK133 := n2_
                    have GW133 := n3_
                    have GE133 := n4_
                    have NB120_133 := n5_
                    have NB133_120 := n6_
                    clear n0_ n1_ n2_ n3_ n4_ n5_ n6_
                    clear hb hbox hg
                    refine hK.out _ _ ⟨(blk_cell BK120.out 0).trans rfl, (blk_cell BK120.out 1).trans rfl, (blk_cell BK120.out 2).trans rfl, (blk_cell BK120.out 3).trans rfl⟩ (fun hHeld => ?_)
                    clear hK K
                    refine norm_ (a' := ?_) ?_ ?_
                    rotate_left
                    ·show Act.put _ (some 7) _ = _
                     simp only [Act.put, List.setIfInBounds_toArray, List.set_cons_zero, List.set_cons_succ, i64_w, i32_w]
                     rfl
                    exact norm_ (by first | (simp only [putAll, Act.put, List.setIfInBounds_toArray, List.set_cons_zero, List.set_cons_succ]; done) | (simp only [putAll, Act.put, List.setIfInBounds_toArray, List.set_cons_zero, List.set_cons_succ]; rfl)) (hJ3_8 (gb133) _ ⟨hHeld, (by (with_reducible repeat (first | refine blk_drewN ?_ _ | refine blk_drew ?_ | refine blk_alloc ?_ _)); exact BK120.out), (by (with_reducible repeat (first | refine blk_drewN ?_ _ | refine blk_drew ?_ | refine blk_alloc ?_ _)); exact BK133.out), GW133.out, GE133.out, NB120_133.out, NB133_120.out, (by repeat (first | (with_reducible first | exact HB.out | apply below_alloc | apply pw_below_drewN | apply below_drew1 | refine below_set ?_ GE120.out | refine below_set ?_ GE133.out) | exact HB.out))⟩)
                   ·skip
                    refine box_step ?hg (N := 8) ?hd (cs := #[.bool false, .int .u32 0, .int .u32 0, .int .u64 0]) (t := 25) ?hr ?_; (case hd => rfl); (case hg => rfl); (case hr => first | (go_simp; done) | (go_simp; rfl))
                    intro gb134 hg w56 hbox hb
                    have n0_ := Aside0.mk (blk_below (g := gb120) (o := .cells #[.bool true, .int .u32 a0_1, .int .u32 a0_2, .int .u64 a0_3] 25 (0, 0)) (by (with_reducible repeat (first | refine blk_drewN ?_ _ | refine blk_drew ?_ | refine blk_alloc ?_ _)); exact BK120.out) hb)
                    have n1_ := Aside0.mk (below_step (by repeat (first | (with_reducible first | exact HB.out | apply below_alloc | apply pw_below_drewN | apply below_drew1 | refine below_set ?_ GE120.out) | exact HB.out)) hb)
                    have n2_ := Aside0.mk (hbox)
                    have n3_ := Aside0.mk ((by rw [hg]; exact (below_size (by repeat (first | (with_reducible first | exact HB.out | apply below_alloc | apply pw_below_drewN | apply below_drew1 | refine below_set ?_ GE120.out) | exact HB.out))) : w.heap.size ≤ gb134))
                    have n4_ := Aside0.mk ((by rw [hg]; exact (below_size (by repeat (first | (with_reducible first | exact HB.out | apply below_alloc | apply pw_below_drewN | apply below_drew1 | refine below_set ?_ GE120.out) | exact HB.out))) : w.heap.size ≤ gb134))
                    have n5_ := Aside0.mk ((by rw [hg]; exact Nat.ne_of_lt (blk_lt (g := gb120) (o := .cells #[.bool true, .int .u32 a0_1, .int .u32 a0_2, .int .u64 a0_3] 25 (0, 0)) (by (with_reducible repeat (first | refine blk_drewN ?_ _ | refine blk_drew ?_ | refine blk_alloc ?_ _)); exact BK120.out)) : gb120 ≠ gb134))
                    have n6_ := Aside0.mk ((by rw [hg]; exact Nat.ne_of_gt (blk_lt (g := gb120) (o := .cells #[.bool true, .int .u32 a0_1, .int .u32 a0_2, .int .u64 a0_3] 25 (0, 0)) (by (with_reducible repeat (first | refine blk_drewN ?_ _ | refine blk_drew ?_ | refine blk_alloc ?_ _)); exact BK120.out)) : gb134 ≠ gb120))
                    clear BK120
                    clear HB
                    have BK120 := n0_
                    have HB := n1_
                    have BK134 := n2_
                    have GW134 := n3_
                    have GE134 := n4_
                    have NB120_134 := n5_
                    have NB134_120 := n6_
                    clear n0_ n1_ n2_ n3_ n4_ n5_ n6_
                    clear hb hbox hg
                    refine hK.out _ _ ⟨(blk_cell BK120.out 0).trans rfl, (blk_cell BK120.out 1).trans rfl, (blk_cell BK120.out 2).trans rfl, (blk_cell BK120.out 3).trans rfl⟩ (fun hHeld => ?_)
                    clear hK K
                    refine norm_ (a' := ?_) ?_ ?_
                    rotate_left
                    ·show Act.put _ (some 8) _ = _
                     simp only [Act.put, List.setIfInBounds_toArray, List.set_cons_zero, List.set_cons_succ, i64_w, i32_w]
                     rfl
                    exact norm_ (by first | (simp only [putAll, Act.put, List.setIfInBounds_toArray, List.set_cons_zero, List.set_cons_succ]; done) | (simp only [putAll, Act.put, List.setIfInBounds_toArray, List.set_cons_zero, List.set_cons_succ]; rfl)) (hJ3_9 (gb134) _ ⟨hHeld, (by (with_reducible repeat (first | refine blk_drewN ?_ _ | refine blk_drew ?_ | refine blk_alloc ?_ _)); exact BK120.out), (by (with_reducible repeat (first | refine blk_drewN ?_ _ | refine blk_drew ?_ | refine blk_alloc ?_ _)); exact BK134.out), GW134.out, GE134.out, NB120_134.out, NB134_120.out, (by repeat (first | (with_reducible first | exact HB.out | apply below_alloc | apply pw_below_drewN | apply below_drew1 | refine below_set ?_ GE120.out | refine below_set ?_ GE134.out) | exact HB.out))⟩)
                 ·skip
                  rintro ⟨gb133, gb134⟩ w56 ⟨hS_, h0_, h1_, h2_, h3_, h4_, h5_, h6_, h7_, h8_, h9_, h10_, h11_, h12_, h13_⟩
                  have n0_ : Aside0 (w56.heap[gb120]? = some (.cells #[.bool true, .int .u32 a0_1, .int .u32 a0_2, .int .u64 a0_3] 25 (0, 0))) := ⟨h0_⟩
                  have n1_ : Aside0 (w56.heap[gb133]? = some (.cells #[.bool false, .int .u32 0, .int .u32 0, .int .u64 0] 25 (0, 0))) := ⟨h1_⟩
                  have n2_ : Aside0 (w56.heap[gb134]? = some (.cells #[.bool false, .int .u32 0, .int .u32 0, .int .u64 0] 25 (0, 0))) := ⟨h2_⟩
                  have n3_ : Aside0 (w.heap.size ≤ gb133) := ⟨h3_⟩
                  have n4_ : Aside0 (w.heap.size ≤ gb133) := ⟨h4_⟩
                  have n5_ : Aside0 (gb120 ≠ gb133) := ⟨h5_⟩
                  have n6_ : Aside0 (gb133 ≠ gb120) := ⟨h6_⟩
                  have n7_ : Aside0 (gb134 ≠ gb133) := ⟨h7_⟩
                  have n8_ : Aside0 (gb133 ≠ gb134) := ⟨h8_⟩
                  have n9_ : Aside0 (w.heap.size ≤ gb134) := ⟨h9_⟩
                  have n10_ : Aside0 (w.heap.size ≤ gb134) := ⟨h10_⟩
                  have n11_ : Aside0 (gb120 ≠ gb134) := ⟨h11_⟩
                  have n12_ : Aside0 (gb134 ≠ gb120) := ⟨h12_⟩
                  have n13_ : Aside0 (Below w.heap.size w w56) := ⟨h13_⟩
                  clear BK120
                  clear HB
                  clear h0_ h1_ h2_ h3_ h4_ h5_ h6_ h7_ h8_ h9_ h10_ h11_ h12_ h13_
                  have BK120 := n0_
                  have BK133 := n1_
                  have BK134 := n2_
                  have GW133 := n3_
                  have GE133 := n4_
                  have NB120_133 := n5_
                  have NB133_120 := n6_
                  have NB134_133 := n7_
                  have NB133_134 := n8_
                  have GW134 := n9_
                  have GE134 := n10_
                  have NB120_134 := n11_
                  have NB134_120 := n12_
                  have HB := n13_
                  clear n0_ n1_ n2_ n3_ n4_ n5_ n6_ n7_ n8_ n9_ n10_ n11_ n12_ n13_
                  have hHeld : w56.cell? ⟨gb120, 0, none⟩ = some (.bool true) ∧ w56.cell? ⟨gb120, 1, none⟩ = some (.int .u32 a0_1) ∧ w56.cell? ⟨gb120, 2, none⟩ = some (.int .u32 a0_2) ∧ w56.cell? ⟨gb120, 3, none⟩ = some (.int .u64 a0_3) := hS_
                  refine norm_ (a' := ?_) ?_ ?_
                  rotate_left
                  ·simp only [putAll, Act.put, List.setIfInBounds_toArray, List.set_cons_zero, List.set_cons_succ]
                   rfl
                  refine one_ (i := 3) (N := some 33) #[true, true, true, true, true, true, true, false, true, true, false, false] rfl rfl (one_of HT_.out (by kernel_rfl)) (by decide) (fun K hK => ?_)
                  refine goes_ Try.func9 (by kernel_rfl) rfl #[.agg #[.bool true, .int .u32 a0_1, .int .u32 a0_2, .int .u64 a0_3], .int .u32 a1, .int .u32 a2] (by rfl) rfl rfl (by (try simp only [List.map_toArray, List.map_cons, List.map_nil]); first | done | rfl | (simp only [List.length_drop, List.length_take]; rfl)) ?_
                  with_reducible refine (seen_Mark.calls true a0_1 a0_2 a0_3 a1 a2 t125 t126 t127 t128 _ A20.out).mono ?_
                  rintro e w57 ⟨rfl, hb⟩
                  refine ⟨_, rfl, ?_⟩
                  have n0_ := Aside0.mk (blk_below (g := gb120) (o := .cells #[.bool true, .int .u32 a0_1, .int .u32 a0_2, .int .u64 a0_3] 25 (0, 0)) (by (with_reducible repeat (first | refine blk_drewN ?_ _ | refine blk_drew ?_ | refine blk_alloc ?_ _)); exact BK120.out) hb)
                  have n1_ := Aside0.mk (blk_below (g := gb133) (o := .cells #[.bool false, .int .u32 0, .int .u32 0, .int .u64 0] 25 (0, 0)) (by (with_reducible repeat (first | refine blk_drewN ?_ _ | refine blk_drew ?_ | refine blk_alloc ?_ _)); exact BK133.out) hb)
                  have n2_ := Aside0.mk (blk_below (g := gb134) (o := .cells #[.bool false, .int .u32 0, .int .u32 0, .int .u64 0] 25 (0, 0)) (by (with_reducible repeat (first | refine blk_drewN ?_ _ | refine blk_drew ?_ | refine blk_alloc ?_ _)); exact BK134.out) hb)
                  have n3_ := Aside0.mk (below_step (by repeat (first | (with_reducible first | exact HB.out | apply below_alloc | apply pw_below_drewN | apply below_drew1 | refine below_set ?_ GE120.out | refine below_set ?_ GE133.out | refine below_set ?_ GE134.out) | exact HB.out)) hb)
                  clear BK120
                  clear BK133
                  clear BK134
                  clear HB
                  have BK120 := n0_
                  have BK133 := n1_
                  have BK134 := n2_
                  have HB := n3_
                  clear n0_ n1_ n2_ n3_
                  (try clear hb)
                  (try clear hb2)
                  (try clear hk)
                  (try clear hi)
                  refine hK.out _ _ ⟨(blk_cell BK120.out 0).trans rfl, (blk_cell BK120.out 1).trans rfl, (blk_cell BK120.out 2).trans rfl, (blk_cell BK120.out 3).trans rfl⟩ (fun hHeld => ?_)
                  clear hK K
                  refine norm_ (a' := ?_) ?_ ?_
                  rotate_left
                  ·show Act.put _ (some 33) _ = _
                   simp only [Act.put, List.setIfInBounds_toArray, List.set_cons_zero, List.set_cons_succ, i64_w, i32_w]
                   rfl
                  exact norm_ (by first | (simp only [putAll, Act.put, List.setIfInBounds_toArray, List.set_cons_zero, List.set_cons_succ]; done) | (simp only [putAll, Act.put, List.setIfInBounds_toArray, List.set_cons_zero, List.set_cons_succ]; rfl)) (hJ3_8_9 (gb133, gb134) _ ⟨hHeld, (by (with_reducible repeat (first | refine blk_drewN ?_ _ | refine blk_drew ?_ | refine blk_alloc ?_ _)); exact BK120.out), (by (with_reducible repeat (first | refine blk_drewN ?_ _ | refine blk_drew ?_ | refine blk_alloc ?_ _)); exact BK133.out), (by (with_reducible repeat (first | refine blk_drewN ?_ _ | refine blk_drew ?_ | refine blk_alloc ?_ _)); exact BK134.out), GW133.out, GE133.out, NB120_133.out, NB133_120.out, NB134_133.out, NB133_134.out, GW134.out, GE134.out, NB120_134.out, NB134_120.out, (by repeat (first | (with_reducible first | exact HB.out | apply below_alloc | apply pw_below_drewN | apply below_drew1 | refine below_set ?_ GE120.out | refine below_set ?_ GE133.out | refine below_set ?_ GE134.out) | exact HB.out))⟩)
                ·skip
                 rintro gb134 w56 ⟨hS_, h0_, h1_, h2_, h3_, h4_, h5_, h6_⟩
                 have n0_ : Aside0 (w56.heap[gb120]? = some (.cells #[.bool true, .int .u32 a0_1, .int .u32 a0_2, .int .u64 a0_3] 25 (0, 0))) := ⟨h0_⟩
                 have n1_ : Aside0 (w56.heap[gb134]? = some (.cells #[.bool false, .int .u32 0, .int .u32 0, .int .u64 0] 25 (0, 0))) := ⟨h1_⟩
                 have n2_ : Aside0 (w.heap.size ≤ gb134) := ⟨h2_⟩
                 have n3_ : Aside0 (w.heap.size ≤ gb134) := ⟨h3_⟩
                 have n4_ : Aside0 (gb120 ≠ gb134) := ⟨h4_⟩
                 have n5_ : Aside0 (gb134 ≠ gb120) := ⟨h5_⟩
                 have n6_ : Aside0 (Below w.heap.size w w56) := ⟨h6_⟩
                 clear BK120
                 clear HB
                 clear h0_ h1_ h2_ h3_ h4_ h5_ h6_
                 have BK120 := n0_
                 have BK134 := n1_
                 have GW134 := n2_
                 have GE134 := n3_
                 have NB120_134 := n4_
                 have NB134_120 := n5_
                 have HB := n6_
                 clear n0_ n1_ n2_ n3_ n4_ n5_ n6_
                 have hHeld : w56.cell? ⟨gb120, 0, none⟩ = some (.bool true) ∧ w56.cell? ⟨gb120, 1, none⟩ = some (.int .u32 a0_1) ∧ w56.cell? ⟨gb120, 2, none⟩ = some (.int .u32 a0_2) ∧ w56.cell? ⟨gb120, 3, none⟩ = some (.int .u64 a0_3) := hS_
                 refine norm_ (a' := ?_) ?_ ?_
                 rotate_left
                 ·simp only [putAll, Act.put, List.setIfInBounds_toArray, List.set_cons_zero, List.set_cons_succ]
                  rfl
                 refine two_ (i := 7) (j := 8) (Ni := some 37) (Nj := some 7) #[true, true, true, true, true, true, true, true, false, true, false, false] #[true, true, true, true, true, true, true, false, true, true, false, false] rfl rfl rfl rfl (two_of HT_.out (by kernel_rfl)) (by decide) (by decide) (fun K hK => ?_) (fun K hK => ?_)
                 ·skip
                  refine goes_ Try.func10 (by kernel_rfl) rfl #[.agg #[.bool true, .int .u32 a0_1, .int .u32 a0_2, .int .u64 a0_3], .int .u32 a1, .int .u32 a2] (by rfl) rfl rfl (by (try simp only [List.map_toArray, List.map_cons, List.map_nil]); first | done | rfl | (simp only [List.length_drop, List.length_take]; rfl)) ?_
                  with_reducible refine (annuletref20_Mark.calls kj3 true a0_1 a0_2 a0_3 a1 a2 t129 t130 t131 t132 _ A21.out).mono ?_
                  rintro e w57 ⟨rfl, hb⟩
                  refine ⟨_, rfl, ?_⟩
                  have n0_ := Aside0.mk (blk_below (g := gb120) (o := .cells #[.bool true, .int .u32 a0_1, .int .u32 a0_2, .int .u64 a0_3] 25 (0, 0)) (by (with_reducible repeat (first | refine blk_drewN ?_ _ | refine blk_drew ?_ | refine blk_alloc ?_ _)); exact BK120.out) hb)
                  have n1_ := Aside0.mk (blk_below (g := gb134) (o := .cells #[.bool false, .int .u32 0, .int .u32 0, .int .u64 0] 25 (0, 0)) (by (with_reducible repeat (first | refine blk_drewN ?_ _ | refine blk_drew ?_ | refine blk_alloc ?_ _)); exact BK134.out) hb)
                  have n2_ := Aside0.mk (below_step (by repeat (first | (with_reducible first | exact HB.out | apply below_alloc | apply pw_below_drewN | apply below_drew1 | refine below_set ?_ GE120.out | refine below_set ?_ GE134.out) | exact HB.out)) hb)
                  clear BK120
                  clear BK134
                  clear HB
                  have BK120 := n0_
                  have BK134 := n1_
                  have HB := n2_
                  clear n0_ n1_ n2_
                  (try clear hb)
                  (try clear hb2)
                  (try clear hk)
                  (try clear hi)
                  refine hK.out _ _ ⟨(blk_cell BK120.out 0).trans rfl, (blk_cell BK120.out 1).trans rfl, (blk_cell BK120.out 2).trans rfl, (blk_cell BK120.out 3).trans rfl⟩ (fun hHeld => ?_)
                  clear hK K
                  refine norm_ (a' := ?_) ?_ ?_
                  rotate_left
                  ·show Act.put _ (some 37) _ = _
                   simp only [Act.put, List.setIfInBounds_toArray, List.set_cons_zero, List.set_cons_succ, i64_w, i32_w]
                   rfl
                  exact norm_ (by first | (simp only [putAll, Act.put, List.setIfInBounds_toArray, List.set_cons_zero, List.set_cons_succ]; done) | (simp only [putAll, Act.put, List.setIfInBounds_toArray, List.set_cons_zero, List.set_cons_succ]; rfl)) (hJ3_7_9 (gb134) _ ⟨hHeld, (by (with_reducible repeat (first | refine blk_drewN ?_ _ | refine blk_drew ?_ | refine blk_alloc ?_ _)); exact BK120.out), (by (with_reducible repeat (first | refine blk_drewN ?_ _ | refine blk_drew ?_ | refine blk_alloc ?_ _)); exact BK134.out), GW134.out, GE134.out, NB120_134.out, NB134_120.out, (by repeat (first | (with_reducible first | exact HB.out | apply below_alloc | apply pw_below_drewN | apply below_drew1 | refine below_set ?_ GE120.out | refine below_set ?_ GE134.out) | exact HB.out))⟩)
                 ·skip
                  refine box_step ?hg (N := 7) ?hd (cs := #[.bool false, .int .u32 0, .int .u32 0, .int .u64 0]) (t := 25) ?hr ?_; (case hd => rfl); (case hg => rfl); (case hr => first | (go_simp; done) | (go_simp; rfl))
                  intro gb133 hg w57 hbox hb
                  have n0_ := Aside0.mk (blk_below (g := gb120) (o := .cells #[.bool true, .int .u32 a0_1, .int .u32 a0_2, .int .u64 a0_3] 25 (0, 0)) (by (with_reducible repeat (first | refine blk_drewN ?_ _ | refine blk_drew ?_ | refine blk_alloc ?_ _)); exact BK120.out) hb)
                  have n1_ := Aside0.mk (blk_below (g := gb134) (o := .cells #[.bool false, .int .u32 0, .int .u32 0, .int .u64 0] 25 (0, 0)) (by (with_reducible repeat (first | refine blk_drewN ?_ _ | refine blk_drew ?_ | refine blk_alloc ?_ _)); exact BK134.out) hb)
                  have n2_ := Aside0.mk (below_step (by repeat (first | (with_reducible first | exact HB.out | apply below_alloc | apply pw_below_drewN | apply below_drew1 | refine below_set ?_ GE120.out | refine below_set ?_ GE134.out) | exact HB.out)) hb)
                  have n3_ := Aside0.mk (hbox)
                  have n4_ := Aside0.mk ((by rw [hg]; exact (below_size (by repeat (first | (with_reducible first | exact HB.out | apply below_alloc | apply pw_below_drewN | apply below_drew1 | refine below_set ?_ GE120.out | refine below_set ?_ GE134.out) | exact HB.out))) : w.heap.size ≤ gb133))
                  have n5_ := Aside0.mk ((by rw [hg]; exact (below_size (by repeat (first | (with_reducible first | exact HB.out | apply below_alloc | apply pw_below_drewN | apply below_drew1 | refine below_set ?_ GE120.out | refine below_set ?_ GE134.out) | exact HB.out))) : w.heap.size ≤ gb133))
                  have n6_ := Aside0.mk ((by rw [hg]; exact Nat.ne_of_lt (blk_lt (g := gb120) (o := .cells #[.bool true, .int .u32 a0_1, .int .u32 a0_2, .int .u64 a0_3] 25 (0, 0)) (by (with_reducible repeat (first | refine blk_drewN ?_ _ | refine blk_drew ?_ | refine blk_alloc ?_ _)); exact BK120.out)) : gb120 ≠ gb133))
                  have n7_ := Aside0.mk ((by rw [hg]; exact Nat.ne_of_gt (blk_lt (g := gb120) (o := .cells #[.bool true, .int .u32 a0_1, .int .u32 a0_2, .int .u64 a0_3] 25 (0, 0)) (by (with_reducible repeat (first | refine blk_drewN ?_ _ | refine blk_drew ?_ | refine blk_alloc ?_ _)); exact BK120.out)) : gb133 ≠ gb120))
                  have n8_ := Aside0.mk ((by rw [hg]; exact Nat.ne_of_lt (blk_lt (g := gb134) (o := .cells #[.bool false, .int .u32 0, .int .u32 0, .int .u64 0] 25 (0, 0)) (by (with_reducible repeat (first | refine blk_drewN ?_ _ | refine blk_drew ?_ | refine blk_alloc ?_ _)); exact BK134.out)) : gb134 ≠ gb133))
                  have n9_ := Aside0.mk ((by rw [hg]; exact Nat.ne_of_gt (blk_lt (g := gb134) (o := .cells #[.bool false, .int .u32 0, .int .u32 0, .int .u64 0] 25 (0, 0)) (by (with_reducible repeat (first | refine blk_drewN ?_ _ | refine blk_drew ?_ | refine blk_alloc ?_ _)); exact BK134.out)) : gb133 ≠ gb134))
                  clear BK120
                  clear BK134
                  clear HB
                  have BK120 := n0_
                  have BK134 := n1_
                  have HB := n2_
                  have BK133 := n3_
                  have GW133 := n4_
                  have GE133 := n5_
                  have NB120_133 := n6_
                  have NB133_120 := n7_
                  have NB134_133 := n8_
                  have NB133_134 := n9_
                  clear n0_ n1_ n2_ n3_ n4_ n5_ n6_ n7_ n8_ n9_
                  clear hb hbox hg
                  refine hK.out _ _ ⟨(blk_cell BK120.out 0).trans rfl, (blk_cell BK120.out 1).trans rfl, (blk_cell BK120.out 2).trans rfl, (blk_cell BK120.out 3).trans rfl⟩ (fun hHeld => ?_)
                  clear hK K
                  refine norm_ (a' := ?_) ?_ ?_
                  rotate_left
                  ·show Act.put _ (some 7) _ = _
                   simp only [Act.put, List.setIfInBounds_toArray, List.set_cons_zero, List.set_cons_succ, i64_w, i32_w]
                   rfl
                  exact norm_ (by first | (simp only [putAll, Act.put, List.setIfInBounds_toArray, List.set_cons_zero, List.set_cons_succ]; done) | (simp only [putAll, Act.put, List.setIfInBounds_toArray, List.set_cons_zero, List.set_cons_succ]; rfl)) (hJ3_8_9 (gb133, gb134) _ ⟨hHeld, (by (with_reducible repeat (first | refine blk_drewN ?_ _ | refine blk_drew ?_ | refine blk_alloc ?_ _)); exact BK120.out), (by (with_reducible repeat (first | refine blk_drewN ?_ _ | refine blk_drew ?_ | refine blk_alloc ?_ _)); exact BK133.out), (by (with_reducible repeat (first | refine blk_drewN ?_ _ | refine blk_drew ?_ | refine blk_alloc ?_ _)); exact BK134.out), GW133.out, GE133.out, NB120_133.out, NB133_120.out, NB134_133.out, NB133_134.out, GW134.out, GE134.out, NB120_134.out, NB134_120.out, (by repeat (first | (with_reducible first | exact HB.out | apply below_alloc | apply pw_below_drewN | apply below_drew1 | refine below_set ?_ GE120.out | refine below_set ?_ GE134.out | refine below_set ?_ GE133.out) | exact HB.out))⟩)
               ·skip
                rintro gb133 w56 ⟨hS_, h0_, h1_, h2_, h3_, h4_, h5_, h6_⟩
                have n0_ : Aside0 (w56.heap[gb120]? = some (.cells #[.bool true, .int .u32 a0_1, .int .u32 a0_2, .int .u64 a0_3] 25 (0, 0))) := ⟨h0_⟩
                have n1_ : Aside0 (w56.heap[gb133]? = some (.cells #[.bool false, .int .u32 0, .int .u32 0, .int .u64 0] 25 (0, 0))) := ⟨h1_⟩
                have n2_ : Aside0 (w.heap.size ≤ gb133) := ⟨h2_⟩
                have n3_ : Aside0 (w.heap.size ≤ gb133) := ⟨h3_⟩
                have n4_ : Aside0 (gb120 ≠ gb133) := ⟨h4_⟩
                have n5_ : Aside0 (gb133 ≠ gb120) := ⟨h5_⟩
                have n6_ : Aside0 (Below w.heap.size w w56) := ⟨h6_⟩
                clear BK120
                clear HB
                clear h0_ h1_ h2_ h3_ h4_ h5_ h6_
                have BK120 := n0_
                have BK133 := n1_
                have GW133 := n2_
                have GE133 := n3_
                have NB120_133 := n4_
                have NB133_120 := n5_
                have HB := n6_
                clear n0_ n1_ n2_ n3_ n4_ n5_ n6_
                have hHeld : w56.cell? ⟨gb120, 0, none⟩ = some (.bool true) ∧ w56.cell? ⟨gb120, 1, none⟩ = some (.int .u32 a0_1) ∧ w56.cell? ⟨gb120, 2, none⟩ = some (.int .u32 a0_2) ∧ w56.cell? ⟨gb120, 3, none⟩ = some (.int .u64 a0_3) := hS_
                refine norm_ (a' := ?_) ?_ ?_
                rotate_left
                ·simp only [putAll, Act.put, List.setIfInBounds_toArray, List.set_cons_zero, List.set_cons_succ]
                 rfl
                refine two_ (i := 7) (j := 9) (Ni := some 37) (Nj := some 8) #[true, true, true, true, true, true, true, true, true, false, false, false] #[true, true, true, true, true, true, true, false, true, true, false, false] rfl rfl rfl rfl (two_of HT_.out (by kernel_rfl)) (by decide) (by decide) (fun K hK => ?_) (fun K hK => ?_)
                ·skip
                 refine goes_ Try.func10 (by kernel_rfl) rfl #[.agg #[.bool true, .int .u32 a0_1, .int .u32 a0_2, .int .u64 a0_3], .int .u32 a1, .int .u32 a2] (by rfl) rfl rfl (by (try simp only [List.map_toArray, List.map_cons, List.map_nil]); first | done | rfl | (simp only [List.length_drop, List.length_take]; rfl)) ?_
                 with_reducible refine (annuletref20_Mark.calls kj3 true a0_1 a0_2 a0_3 a1 a2 t129 t130 t131 t132 _ A21.out).mono ?_
                 rintro e w57 ⟨rfl, hb⟩
                 refine ⟨_, rfl, ?_⟩
                 have n0_ := Aside0.mk (blk_below (g := gb120) (o := .cells #[.bool true, .int .u32 a0_1, .int .u32 a0_2, .int .u64 a0_3] 25 (0, 0)) (by (with_reducible repeat (first | refine blk_drewN ?_ _ | refine blk_drew ?_ | refine blk_alloc ?_ _)); exact BK120.out) hb)
                 have n1_ := Aside0.mk (blk_below (g := gb133) (o := .cells #[.bool false, .int .u32 0, .int .u32 0, .int .u64 0] 25 (0, 0)) (by (with_reducible repeat (first | refine blk_drewN ?_ _ | refine blk_drew ?_ | refine blk_alloc ?_ _)); exact BK133.out) hb)
                 have n2_ := Aside0.mk (below_step (by repeat (first | (with_reducible first | exact HB.out | apply below_alloc | apply pw_below_drewN | apply below_drew1 | refine below_set ?_ GE120.out | refine below_set ?_ GE133.out) | exact HB.out)) hb)
                 clear BK120
                 clear BK133
                 clear HB
                 have BK120 := n0_
                 have BK133 := n1_
                 have HB := n2_
                 clear n0_ n1_ n2_
                 (try clear hb)
                 (try clear hb2)
                 (try clear hk)
                 (try clear hi)
                 refine hK.out _ _ ⟨(blk_cell BK120.out 0).trans rfl, (blk_cell BK120.out 1).trans rfl, (blk_cell BK120.out 2).trans rfl, (blk_cell BK120.out 3).trans rfl⟩ (fun hHeld => ?_)
                 clear hK K
                 refine norm_ (a' := ?_) ?_ ?_
                 rotate_left
                 ·show Act.put _ (some 37) _ = _
                  simp only [Act.put, List.setIfInBounds_toArray, List.set_cons_zero, List.set_cons_succ, i64_w, i32_w]
                  rfl
                 exact norm_ (by first | (simp only [putAll, Act.put, List.setIfInBounds_toArray, List.set_cons_zero, List.set_cons_succ]; done) | (simp only [putAll, Act.put, List.setIfInBounds_toArray, List.set_cons_zero, List.set_cons_succ]; rfl)) (hJ3_7_8 (gb133) _ ⟨hHeld, (by (with_reducible repeat (first | refine blk_drewN ?_ _ | refine blk_drew ?_ | refine blk_alloc ?_ _)); exact BK120.out), (by (with_reducible repeat (first | refine blk_drewN ?_ _ | refine blk_drew ?_ | refine blk_alloc ?_ _)); exact BK133.out), GW133.out, GE133.out, NB120_133.out, NB133_120.out, (by repeat (first | (with_reducible first | exact HB.out | apply below_alloc | apply pw_below_drewN | apply below_drew1 | refine below_set ?_ GE120.out | refine below_set ?_ GE133.out) | exact HB.out))⟩)
                ·skip
                 refine box_step ?hg (N := 8) ?hd (cs := #[.bool false, .int .u32 0, .int .u32 0, .int .u64 0]) (t := 25) ?hr ?_; (case hd => rfl); (case hg => rfl); (case hr => first | (go_simp; done) | (go_simp; rfl))
                 intro gb134 hg w57 hbox hb
                 have n0_ := Aside0.mk (blk_below (g := gb120) (o := .cells #[.bool true, .int .u32 a0_1, .int .u32 a0_2, .int .u64 a0_3] 25 (0, 0)) (by (with_reducible repeat (first | refine blk_drewN ?_ _ | refine blk_drew ?_ | refine blk_alloc ?_ _)); exact BK120.out) hb)
                 have n1_ := Aside0.mk (blk_below (g := gb133) (o := .cells #[.bool false, .int .u32 0, .int .u32 0, .int .u64 0] 25 (0, 0)) (by (with_reducible repeat (first | refine blk_drewN ?_ _ | refine blk_drew ?_ | refine blk_alloc ?_ _)); exact BK133.out) hb)
                 have n2_ := Aside0.mk (below_step (by repeat (first | (with_reducible first | exact HB.out | apply below_alloc | apply pw_below_drewN | apply below_drew1 | refine below_set ?_ GE120.out | refine below_set ?_ GE133.out) | exact HB.out)) hb)
                 have n3_ := Aside0.mk (hbox)
                 have n4_ := Aside0.mk ((by rw [hg]; exact (below_size (by repeat (first | (with_reducible first | exact HB.out | apply below_alloc | apply pw_below_drewN | apply below_drew1 | refine below_set ?_ GE120.out | refine below_set ?_ GE133.out) | exact HB.out))) : w.heap.size ≤ gb134))
                 have n5_ := Aside0.mk ((by rw [hg]; exact (below_size (by repeat (first | (with_reducible first | exact HB.out | apply below_alloc | apply pw_below_drewN | apply below_drew1 | refine below_set ?_ GE120.out | refine below_set ?_ GE133.out) | exact HB.out))) : w.heap.size ≤ gb134))
                 have n6_ := Aside0.mk ((by rw [hg]; exact Nat.ne_of_lt (blk_lt (g := gb120) (o := .cells #[.bool true, .int .u32 a0_1, .int .u32 a0_2, .int .u64 a0_3] 25 (0, 0)) (by (with_reducible repeat (first | refine blk_drewN ?_ _ | refine blk_drew ?_ | refine blk_alloc ?_ _)); exact BK120.out)) : gb120 ≠ gb134))
                 have n7_ := Aside0.mk ((by rw [hg]; exact Nat.ne_of_gt (blk_lt (g := gb120) (o := .cells #[.bool true, .int .u32 a0_1, .int .u32 a0_2, .int .u64 a0_3] 25 (0, 0)) (by (with_reducible repeat (first | refine blk_drewN ?_ _ | refine blk_drew ?_ | refine blk_alloc ?_ _)); exact BK120.out)) : gb134 ≠ gb120))
                 have n8_ := Aside0.mk ((by rw [hg]; exact Nat.ne_of_lt (blk_lt (g := gb133) (o := .cells #[.bool false, .int .u32 0, .int .u32 0, .int .u64 0] 25 (0, 0)) (by (with_reducible repeat (first | refine blk_drewN ?_ _ | refine blk_drew ?_ | refine blk_alloc ?_ _)); exact BK133.out)) : gb133 ≠ gb134))
                 have n9_ := Aside0.mk ((by rw [hg]; exact Nat.ne_of_gt (blk_lt (g := gb133) (o := .cells #[.bool false, .int .u32 0, .int .u32 0, .int .u64 0] 25 (0, 0)) (by (with_reducible repeat (first | refine blk_drewN ?_ _ | refine blk_drew ?_ | refine blk_alloc ?_ _)); exact BK133.out)) : gb134 ≠ gb133))
                 clear BK120
                 clear BK133
                 clear HB
                 have BK120 := n0_
                 have BK133 := n1_
                 have HB := n2_
                 have BK134 := n3_
                 have GW134 := n4_
                 have GE134 := n5_
                 have NB120_134 := n6_
                 have NB134_120 := n7_
                 have NB133_134 := n8_
                 have NB134_133 := n9_
                 clear n0_ n1_ n2_ n3_ n4_ n5_ n6_ n7_ n8_ n9_
                 clear hb hbox hg
                 refine hK.out _ _ ⟨(blk_cell BK120.out 0).trans rfl, (blk_cell BK120.out 1).trans rfl, (blk_cell BK120.out 2).trans rfl, (blk_cell BK120.out 3).trans rfl⟩ (fun hHeld => ?_)
                 clear hK K
                 refine norm_ (a' := ?_) ?_ ?_
                 rotate_left
                 ·show Act.put _ (some 8) _ = _
                  simp only [Act.put, List.setIfInBounds_toArray, List.set_cons_zero, List.set_cons_succ, i64_w, i32_w]
                  rfl
                 exact norm_ (by first | (simp only [putAll, Act.put, List.setIfInBounds_toArray, List.set_cons_zero, List.set_cons_succ]; done) | (simp only [putAll, Act.put, List.setIfInBounds_toArray, List.set_cons_zero, List.set_cons_succ]; rfl)) (hJ3_8_9 (gb133, gb134) _ ⟨hHeld, (by (with_reducible repeat (first | refine blk_drewN ?_ _ | refine blk_drew ?_ | refine blk_alloc ?_ _)); exact BK120.out), (by (with_reducible repeat (first | refine blk_drewN ?_ _ | refine blk_drew ?_ | refine blk_alloc ?_ _)); exact BK133.out), (by (with_reducible repeat (first | refine blk_drewN ?_ _ | refine blk_drew ?_ | refine blk_alloc ?_ _)); exact BK134.out), GW133.out, GE133.out, NB120_133.out, NB133_120.out, NB134_133.out, NB133_134.out, GW134.out, GE134.out, NB120_134.out, NB134_120.out, (by repeat (first | (with_reducible first | exact HB.out | apply below_alloc | apply pw_below_drewN | apply below_drew1 | refine below_set ?_ GE120.out | refine below_set ?_ GE133.out | refine below_set ?_ GE134.out) | exact HB.out))⟩)
              ·skip
               rintro _ w56 ⟨hS_, h0_, h1_⟩
               have n0_ : Aside0 (w56.heap[gb120]? = some (.cells #[.bool true, .int .u32 a0_1, .int .u32 a0_2, .int .u64 a0_3] 25 (0, 0))) := ⟨h0_⟩
               have n1_ : Aside0 (Below w.heap.size w w56) := ⟨h1_⟩
               clear BK120
               clear HB
               clear h0_ h1_
               have BK120 := n0_
               have HB := n1_
               clear n0_ n1_
               have hHeld : w56.cell? ⟨gb120, 0, none⟩ = some (.bool true) ∧ w56.cell? ⟨gb120, 1, none⟩ = some (.int .u32 a0_1) ∧ w56.cell? ⟨gb120, 2, none⟩ = some (.int .u32 a0_2) ∧ w56.cell? ⟨gb120, 3, none⟩ = some (.int .u64 a0_3) := hS_
               refine norm_ (a' := ?_) ?_ ?_
               rotate_left
               ·simp only [putAll, Act.put, List.setIfInBounds_toArray, List.set_cons_zero, List.set_cons_succ]
                rfl
               refine two_ (i := 8) (j := 9) (Ni := some 7) (Nj := some 8) #[true, true, true, true, true, true, true, true, true, false, false, false] #[true, true, true, true, true, true, true, true, false, true, false, false] rfl rfl rfl rfl (two_of HT_.out (by kernel_rfl)) (by decide) (by decide) (fun K hK => ?_) (fun K hK => ?_)
               ·skip
                refine box_step ?hg (N := 7) ?hd (cs := #[.bool false, .int .u32 0, .int .u32 0, .int .u64 0]) (t := 25) ?hr ?_; (case hd => rfl); (case hg => rfl); (case hr => first | (go_simp; done) | (go_simp; rfl))
                intro gb133 hg w57 hbox hb
                have n0_ := Aside0.mk (blk_below (g := gb120) (o := .cells #[.bool true, .int .u32 a0_1, .int .u32 a0_2, .int .u64 a0_3] 25 (0, 0)) (by (with_reducible repeat (first | refine blk_drewN ?_ _ | refine blk_drew ?_ | refine blk_alloc ?_ _)); exact BK120.out) hb)
                have n1_ := Aside0.mk (below_step (by repeat (first | (with_reducible first | exact HB.out | apply below_alloc | apply pw_below_drewN | apply below_drew1 | refine below_set ?_ GE120.out) | exact HB.out)) hb)
                have n2_ := Aside0.mk (hbox)
                have n3_ := Aside0.mk ((by rw [hg]; exact (below_size (by repeat (first | (with_reducible first | exact HB.out | apply below_alloc | apply pw_below_drewN | apply below_drew1 | refine below_set ?_ GE120.out) | exact HB.out))) : w.heap.size ≤ gb133))
                have n4_ := Aside0.mk ((by rw [hg]; exact (below_size (by repeat (first | (with_reducible first | exact HB.out | apply below_alloc | apply pw_below_drewN | apply below_drew1 | refine below_set ?_ GE120.out) | exact HB.out))) : w.heap.size ≤ gb133))
                have n5_ := Aside0.mk ((by rw [hg]; exact Nat.ne_of_lt (blk_lt (g := gb120) (o := .cells #[.bool true, .int .u32 a0_1, .int .u32 a0_2, .int .u64 a0_3] 25 (0, 0)) (by (with_reducible repeat (first | refine blk_drewN ?_ _ | refine blk_drew ?_ | refine blk_alloc ?_ _)); exact BK120.out)) : gb120 ≠ gb133))
                have n6_ := Aside0.mk ((by rw [hg]; exact Nat.ne_of_gt (blk_lt (g := gb120) (o := .cells #[.bool true, .int .u32 a0_1, .int .u32 a0_2, .int .u64 a0_3] 25 (0, 0)) (by (with_reducible repeat (first | refine blk_drewN ?_ _ | refine blk_drew ?_ | refine blk_alloc ?_ _)); exact BK120.out)) : gb133 ≠ gb120))
                clear BK120
                clear HB
                have BK120 := n0_
                have HB := n1_
                have BK133 := n2_
                have GW133 := n3_
                have GE133 := n4_
                have NB120_133 := n5_
                have NB133_120 := n6_
                clear n0_ n1_ n2_ n3_ n4_ n5_ n6_
                clear hb hbox hg
                refine hK.out _ _ ⟨(blk_cell BK120.out 0).trans rfl, (blk_cell BK120.out 1).trans rfl, (blk_cell BK120.out 2).trans rfl, (blk_cell BK120.out 3).trans rfl⟩ (fun hHeld => ?_)
                clear hK K
                refine norm_ (a' := ?_) ?_ ?_
                rotate_left
                ·show Act.put _ (some 7) _ = _
                 simp only [Act.put, List.setIfInBounds_toArray, List.set_cons_zero, List.set_cons_succ, i64_w, i32_w]
                 rfl
                exact norm_ (by first | (simp only [putAll, Act.put, List.setIfInBounds_toArray, List.set_cons_zero, List.set_cons_succ]; done) | (simp only [putAll, Act.put, List.setIfInBounds_toArray, List.set_cons_zero, List.set_cons_succ]; rfl)) (hJ3_7_8 (gb133) _ ⟨hHeld, (by (with_reducible repeat (first | refine blk_drewN ?_ _ | refine blk_drew ?_ | refine blk_alloc ?_ _)); exact BK120.out), (by (with_reducible repeat (first | refine blk_drewN ?_ _ | refine blk_drew ?_ | refine blk_alloc ?_ _)); exact BK133.out), GW133.out, GE133.out, NB120_133.out, NB133_120.out, (by repeat (first | (with_reducible first | exact HB.out | apply below_alloc | apply pw_below_drewN | apply below_drew1 | refine below_set ?_ GE120.out | refine below_set ?_ GE133.out) | exact HB.out))⟩)
               ·skip
                refine box_step ?hg (N := 8) ?hd (cs := #[.bool false, .int .u32 0, .int .u32 0, .int .u64 0]) (t := 25) ?hr ?_; (case hd => rfl); (case hg => rfl); (case hr => first | (go_simp; done) | (go_simp; rfl))
                intro gb134 hg w57 hbox hb
                have n0_ := Aside0.mk (blk_below (g := gb120) (o := .cells #[.bool true, .int .u32 a0_1, .int .u32 a0_2, .int .u64 a0_3] 25 (0, 0)) (by (with_reducible repeat (first | refine blk_drewN ?_ _ | refine blk_drew ?_ | refine blk_alloc ?_ _)); exact BK120.out) hb)
                have n1_ := Aside0.mk (below_step (by repeat (first | (with_reducible first | exact HB.out | apply below_alloc | apply pw_below_drewN | apply below_drew1 | refine below_set ?_ GE120.out) | exact HB.out)) hb)
                have n2_ := Aside0.mk (hbox)
                have n3_ := Aside0.mk ((by rw [hg]; exact (below_size (by repeat (first | (with_reducible first | exact HB.out | apply below_alloc | apply pw_below_drewN | apply below_drew1 | refine below_set ?_ GE120.out) | exact HB.out))) : w.heap.size ≤ gb134))
                have n4_ := Aside0.mk ((by rw [hg]; exact (below_size (by repeat (first | (with_reducible first | exact HB.out | apply below_alloc | apply pw_below_drewN | apply below_drew1 | refine below_set ?_ GE120.out) | exact HB.out))) : w.heap.size ≤ gb134))
                have n5_ := Aside0.mk ((by rw [hg]; exact Nat.ne_of_lt (blk_lt (g := gb120) (o := .cells #[.bool true, .int .u32 a0_1, .int .u32 a0_2, .int .u64 a0_3] 25 (0, 0)) (by (with_reducible repeat (first | refine blk_drewN ?_ _ | refine blk_drew ?_ | refine blk_alloc ?_ _)); exact BK120.out)) : gb120 ≠ gb134))
                have n6_ := Aside0.mk ((by rw [hg]; exact Nat.ne_of_gt (blk_lt (g := gb120) (o := .cells #[.bool true, .int .u32 a0_1, .int .u32 a0_2, .int .u64 a0_3] 25 (0, 0)) (by (with_reducible repeat (first | refine blk_drewN ?_ _ | refine blk_drew ?_ | refine blk_alloc ?_ _)); exact BK120.out)) : gb134 ≠ gb120))
                clear BK120
                clear HB
                have BK120 := n0_
                have HB := n1_
                have BK134 := n2_
                have GW134 := n3_
                have GE134 := n4_
                have NB120_134 := n5_
                have NB134_120 := n6_
                clear n0_ n1_ n2_ n3_ n4_ n5_ n6_
                clear hb hbox hg
                refine hK.out _ _ ⟨(blk_cell BK120.out 0).trans rfl, (blk_cell BK120.out 1).trans rfl, (blk_cell BK120.out 2).trans rfl, (blk_cell BK120.out 3).trans rfl⟩ (fun hHeld => ?_)
                clear hK K
                refine norm_ (a' := ?_) ?_ ?_
                rotate_left
                ·show Act.put _ (some 8) _ = _
                 simp only [Act.put, List.setIfInBounds_toArray, List.set_cons_zero, List.set_cons_succ, i64_w, i32_w]
                 rfl
                exact norm_ (by first | (simp only [putAll, Act.put, List.setIfInBounds_toArray, List.set_cons_zero, List.set_cons_succ]; done) | (simp only [putAll, Act.put, List.setIfInBounds_toArray, List.set_cons_zero, List.set_cons_succ]; rfl)) (hJ3_7_9 (gb134) _ ⟨hHeld, (by (with_reducible repeat (first | refine blk_drewN ?_ _ | refine blk_drew ?_ | refine blk_alloc ?_ _)); exact BK120.out), (by (with_reducible repeat (first | refine blk_drewN ?_ _ | refine blk_drew ?_ | refine blk_alloc ?_ _)); exact BK134.out), GW134.out, GE134.out, NB120_134.out, NB134_120.out, (by repeat (first | (with_reducible first | exact HB.out | apply below_alloc | apply pw_below_drewN | apply below_drew1 | refine below_set ?_ GE120.out | refine below_set ?_ GE134.out) | exact HB.out))⟩)
             ·skip
              rintro ⟨gb133, gb134⟩ w57 ⟨hS_, h0_, h1_, h2_, h3_, h4_, h5_, h6_, h7_, h8_, h9_, h10_, h11_, h12_, h13_⟩
              have n0_ : Aside0 (w57.heap[gb120]? = some (.cells #[.bool true, .int .u32 a0_1, .int .u32 a0_2, .int .u64 a0_3] 25 (0, 0))) := ⟨h0_⟩
              have n1_ : Aside0 (w57.heap[gb133]? = some (.cells #[.bool false, .int .u32 0, .int .u32 0, .int .u64 0] 25 (0, 0))) := ⟨h1_⟩
              have n2_ : Aside0 (w57.heap[gb134]? = some (.cells #[.bool false, .int .u32 0, .int .u32 0, .int .u64 0] 25 (0, 0))) := ⟨h2_⟩
              have n3_ : Aside0 (w.heap.size ≤ gb133) := ⟨h3_⟩
              have n4_ : Aside0 (w.heap.size ≤ gb133) := ⟨h4_⟩
              have n5_ : Aside0 (gb120 ≠ gb133) := ⟨h5_⟩
              have n6_ : Aside0 (gb133 ≠ gb120) := ⟨h6_⟩
              have n7_ : Aside0 (gb134 ≠ gb133) := ⟨h7_⟩
              have n8_ : Aside0 (gb133 ≠ gb134) := ⟨h8_⟩
              have n9_ : Aside0 (w.heap.size ≤ gb134) := ⟨h9_⟩
              have n10_ : Aside0 (w.heap.size ≤ gb134) := ⟨h10_⟩
              have n11_ : Aside0 (gb120 ≠ gb134) := ⟨h11_⟩
              have n12_ : Aside0 (gb134 ≠ gb120) := ⟨h12_⟩
              have n13_ : Aside0 (Below w.heap.size w w57) := ⟨h13_⟩
              clear BK120
              clear HB
              clear h0_ h1_ h2_ h3_ h4_ h5_ h6_ h7_ h8_ h9_ h10_ h11_ h12_ h13_
              have BK120 := n0_
              have BK133 := n1_
              have BK134 := n2_
              have GW133 := n3_
              have GE133 := n4_
              have NB120_133 := n5_
              have NB133_120 := n6_
              have NB134_133 := n7_
              have NB133_134 := n8_
              have GW134 := n9_
              have GE134 := n10_
              have NB120_134 := n11_
              have NB134_120 := n12_
              have HB := n13_
              clear n0_ n1_ n2_ n3_ n4_ n5_ n6_ n7_ n8_ n9_ n10_ n11_ n12_ n13_
              have hHeld : w57.cell? ⟨gb120, 0, none⟩ = some (.bool true) ∧ w57.cell? ⟨gb120, 1, none⟩ = some (.int .u32 a0_1) ∧ w57.cell? ⟨gb120, 2, none⟩ = some (.int .u32 a0_2) ∧ w57.cell? ⟨gb120, 3, none⟩ = some (.int .u64 a0_3) := hS_
              refine norm_ (a' := ?_) ?_ ?_
              rotate_left
              ·simp only [putAll, Act.put, List.setIfInBounds_toArray, List.set_cons_zero, List.set_cons_succ]
               rfl
              refine one_ (i := 7) (N := some 37) #[true, true, true, true, true, true, true, true, true, true, false, false] rfl rfl (one_of HT_.out (by kernel_rfl)) (by decide) (fun K hK => ?_)
              refine goes_ Try.func10 (by kernel_rfl) rfl #[.agg #[.bool true, .int .u32 a0_1, .int .u32 a0_2, .int .u64 a0_3], .int .u32 a1, .int .u32 a2] (by rfl) rfl rfl (by (try simp only [List.map_toArray, List.map_cons, List.map_nil]); first | done | rfl | (simp only [List.length_drop, List.length_take]; rfl)) ?_
              with_reducible refine (annuletref20_Mark.calls kj3 true a0_1 a0_2 a0_3 a1 a2 t129 t130 t131 t132 _ A21.out).mono ?_
              rintro e w58 ⟨rfl, hb⟩
              refine ⟨_, rfl, ?_⟩
              have n0_ := Aside0.mk (blk_below (g := gb120) (o := .cells #[.bool true, .int .u32 a0_1, .int .u32 a0_2, .int .u64 a0_3] 25 (0, 0)) (by (with_reducible repeat (first | refine blk_drewN ?_ _ | refine blk_drew ?_ | refine blk_alloc ?_ _)); exact BK120.out) hb)
              have n1_ := Aside0.mk (blk_below (g := gb133) (o := .cells #[.bool false, .int .u32 0, .int .u32 0, .int .u64 0] 25 (0, 0)) (by (with_reducible repeat (first | refine blk_drewN ?_ _ | refine blk_drew ?_ | refine blk_alloc ?_ _)); exact BK133.out) hb)
              have n2_ := Aside0.mk (blk_below (g := gb134) (o := .cells #[.bool false, .int .u32 0, .int .u32 0, .int .u64 0] 25 (0, 0)) (by (with_reducible repeat (first | refine blk_drewN ?_ _ | refine blk_drew ?_ | refine blk_alloc ?_ _)); exact BK134.out) hb)
              have n3_ := Aside0.mk (below_step (by repeat (first | (with_reducible first | exact HB.out | apply below_alloc | apply pw_below_drewN | apply below_drew1 | refine below_set ?_ GE120.out | refine below_set ?_ GE133.out | refine below_set ?_ GE134.out) | exact HB.out)) hb)
              clear BK120
              clear BK133
              clear BK134
              clear HB
              have BK120 := n0_
              have BK133 := n1_
              have BK134 := n2_
              have HB := n3_
              clear n0_ n1_ n2_ n3_
              (try clear hb)
              (try clear hb2)
              (try clear hk)
              (try clear hi)
              refine hK.out _ _ ⟨(blk_cell BK120.out 0).trans rfl, (blk_cell BK120.out 1).trans rfl, (blk_cell BK120.out 2).trans rfl, (blk_cell BK120.out 3).trans rfl⟩ (fun hHeld => ?_)
              clear hK K
              refine norm_ (a' := ?_) ?_ ?_
              rotate_left
              ·show Act.put _ (some 37) _ = _
               simp only [Act.put, List.setIfInBounds_toArray, List.set_cons_zero, List.set_cons_succ, i64_w, i32_w]
               rfl
              exact norm_ (by first | (simp only [putAll, Act.put, List.setIfInBounds_toArray, List.set_cons_zero, List.set_cons_succ]; done) | (simp only [putAll, Act.put, List.setIfInBounds_toArray, List.set_cons_zero, List.set_cons_succ]; rfl)) (hJ3_7_8_9 (gb133, gb134) _ ⟨hHeld, (by (with_reducible repeat (first | refine blk_drewN ?_ _ | refine blk_drew ?_ | refine blk_alloc ?_ _)); exact BK120.out), (by (with_reducible repeat (first | refine blk_drewN ?_ _ | refine blk_drew ?_ | refine blk_alloc ?_ _)); exact BK133.out), (by (with_reducible repeat (first | refine blk_drewN ?_ _ | refine blk_drew ?_ | refine blk_alloc ?_ _)); exact BK134.out), GW133.out, GE133.out, NB120_133.out, NB133_120.out, NB134_133.out, NB133_134.out, GW134.out, GE134.out, NB120_134.out, NB134_120.out, (by repeat (first | (with_reducible first | exact HB.out | apply below_alloc | apply pw_below_drewN | apply below_drew1 | refine below_set ?_ GE120.out | refine below_set ?_ GE133.out | refine below_set ?_ GE134.out) | exact HB.out))⟩)
            ·skip
             rintro gb134 w57 ⟨hS_, h0_, h1_, h2_, h3_, h4_, h5_, h6_⟩
             have n0_ : Aside0 (w57.heap[gb120]? = some (.cells #[.bool true, .int .u32 a0_1, .int .u32 a0_2, .int .u64 a0_3] 25 (0, 0))) := ⟨h0_⟩
             have n1_ : Aside0 (w57.heap[gb134]? = some (.cells #[.bool false, .int .u32 0, .int .u32 0, .int .u64 0] 25 (0, 0))) := ⟨h1_⟩
             have n2_ : Aside0 (w.heap.size ≤ gb134) := ⟨h2_⟩
             have n3_ : Aside0 (w.heap.size ≤ gb134) := ⟨h3_⟩
             have n4_ : Aside0 (gb120 ≠ gb134) := ⟨h4_⟩
             have n5_ : Aside0 (gb134 ≠ gb120) := ⟨h5_⟩
             have n6_ : Aside0 (Below w.heap.size w w57) := ⟨h6_⟩
             clear BK120
             clear HB
             clear h0_ h1_ h2_ h3_ h4_ h5_ h6_
             have BK120 := n0_
             have BK134 := n1_
             have GW134 := n2_
             have GE134 := n3_
             have NB120_134 := n4_
             have NB134_120 := n5_
             have HB := n6_
             clear n0_ n1_ n2_ n3_ n4_ n5_ n6_
             have hHeld : w57.cell? ⟨gb120, 0, none⟩ = some (.bool true) ∧ w57.cell? ⟨gb120, 1, none⟩ = some (.int .u32 a0_1) ∧ w57.cell? ⟨gb120, 2, none⟩ = some (.int .u32 a0_2) ∧ w57.cell? ⟨gb120, 3, none⟩ = some (.int .u64 a0_3) := hS_
             refine norm_ (a' := ?_) ?_ ?_
             rotate_left
             ·simp only [putAll, Act.put, List.setIfInBounds_toArray, List.set_cons_zero, List.set_cons_succ]
              rfl
             refine one_ (i := 8) (N := some 7) #[true, true, true, true, true, true, true, true, true, true, false, false] rfl rfl (one_of HT_.out (by kernel_rfl)) (by decide) (fun K hK => ?_)
             refine box_step ?hg (N := 7) ?hd (cs := #[.bool false, .int .u32 0, .int .u32 0, .int .u64 0]) (t := 25) ?hr ?_; (case hd => rfl); (case hg => rfl); (case hr => first | (go_simp; done) | (go_simp; rfl))
             intro gb133 hg w58 hbox hb
             have n0_ := Aside0.mk (blk_below (g := gb120) (o := .cells #[.bool true, .int .u32 a0_1, .int .u32 a0_2, .int .u64 a0_3] 25 (0, 0)) (by (with_reducible repeat (first | refine blk_drewN ?_ _ | refine blk_drew ?_ | refine blk_alloc ?_ _)); exact BK120.out) hb)
             have n1_ := Aside0.mk (blk_below (g := gb134) (o := .cells #[.bool false, .int .u32 0, .int .u32 0, .int .u64 0] 25 (0, 0)) (by (with_reducible repeat (first | refine blk_drewN ?_ _ | refine blk_drew ?_ | refine blk_alloc ?_ _)); exact BK134.out) hb)
             have n2_ := Aside0.mk (below_step (by repeat (first | (with_reducible first | exact HB.out | apply below_alloc | apply pw_below_drewN | apply below_drew1 | refine below_set ?_ GE120.out | refine below_set ?_ GE134.out) | exact HB.out)) hb)
             have n3_ := Aside0.mk (hbox)
             have n4_ := Aside0.mk ((by rw [hg]; exact (below_size (by repeat (first | (with_reducible first | exact HB.out | apply below_alloc | apply pw_below_drewN | apply below_drew1 | refine below_set ?_ GE120.out | refine below_set ?_ GE134.out) | exact HB.out))) : w.heap.size ≤ gb133))
             have n5_ := Aside0.mk ((by rw [hg]; exact (below_size (by repeat (first | (with_reducible first | exact HB.out | apply below_alloc | apply pw_below_drewN | apply below_drew1 | refine below_set ?_ GE120.out | refine below_set ?_ GE134.out) | exact HB.out))) : w.heap.size ≤ gb133))
             have n6_ := Aside0.mk ((by rw [hg]; exact Nat.ne_of_lt (blk_lt (g := gb120) (o := .cells #[.bool true, .int .u32 a0_1, .int .u32 a0_2, .int .u64 a0_3] 25 (0, 0)) (by (with_reducible repeat (first | refine blk_drewN ?_ _ | refine blk_drew ?_ | refine blk_alloc ?_ _)); exact BK120.out)) : gb120 ≠ gb133))
             have n7_ := Aside0.mk ((by rw [hg]; exact Nat.ne_of_gt (blk_lt (g := gb120) (o := .cells #[.bool true, .int .u32 a0_1, .int .u32 a0_2, .int .u64 a0_3] 25 (0, 0)) (by (with_reducible repeat (first | refine blk_drewN ?_ _ | refine blk_drew ?_ | refine blk_alloc ?_ _)); exact BK120.out)) : gb133 ≠ gb120))
             have n8_ := Aside0.mk ((by rw [hg]; exact Nat.ne_of_lt (blk_lt (g := gb134) (o := .cells #[.bool false, .int .u32 0, .int .u32 0, .int .u64 0] 25 (0, 0)) (by (with_reducible repeat (first | refine blk_drewN ?_ _ | refine blk_drew ?_ | refine blk_alloc ?_ _)); exact BK134.out)) : gb134 ≠ gb133))
             have n9_ := Aside0.mk ((by rw [hg]; exact Nat.ne_of_gt (blk_lt (g := gb134) (o := .cells #[.bool false, .int .u32 0, .int .u32 0, .int .u64 0] 25 (0, 0)) (by (with_reducible repeat (first | refine blk_drewN ?_ _ | refine blk_drew ?_ | refine blk_alloc ?_ _)); exact BK134.out)) : gb133 ≠ gb134))
             clear BK120
             clear BK134
             clear HB
             have BK120 := n0_
             have BK134 := n1_
             have HB := n2_
             have BK133 := n3_
             have GW133 := n4_
             have GE133 := n5_
             have NB120_133 := n6_
             have NB133_120 := n7_
             have NB134_133 := n8_
             have NB133_134 := n9_
             clear n0_ n1_ n2_ n3_ n4_ n5_ n6_ n7_ n8_ n9_
             clear hb hbox hg
             refine hK.out _ _ ⟨(blk_cell BK120.out 0).trans rfl, (blk_cell BK120.out 1).trans rfl, (blk_cell BK120.out 2).trans rfl, (blk_cell BK120.out 3).trans rfl⟩ (fun hHeld => ?_)
             clear hK K
             refine norm_ (a' := ?_) ?_ ?_
             rotate_left
             ·show Act.put _ (some 7) _ = _
              simp only [Act.put, List.setIfInBounds_toArray, List.set_cons_zero, List.set_cons_succ, i64_w, i32_w]
              rfl
             exact norm_ (by first | (simp only [putAll, Act.put, List.setIfInBounds_toArray, List.set_cons_zero, List.set_cons_succ]; done) | (simp only [putAll, Act.put, List.setIfInBounds_toArray, List.set_cons_zero, List.set_cons_succ]; rfl)) (hJ3_7_8_9 (gb133, gb134) _ ⟨hHeld, (by (with_reducible repeat (first | refine blk_drewN ?_ _ | refine blk_drew ?_ | refine blk_alloc ?_ _)); exact BK120.out), (by (with_reducible repeat (first | refine blk_drewN ?_ _ | refine blk_drew ?_ | refine blk_alloc ?_ _)); exact BK133.out), (by (with_reducible repeat (first | refine blk_drewN ?_ _ | refine blk_drew ?_ | refine blk_alloc ?_ _)); exact BK134.out), GW133.out, GE133.out, NB120_133.out, NB133_120.out, NB134_133.out, NB133_134.out, GW134.out, GE134.out, NB120_134.out, NB134_120.out, (by repeat (first | (with_reducible first | exact HB.out | apply below_alloc | apply pw_below_drewN | apply below_drew1 | refine below_set ?_ GE120.out | refine below_set ?_ GE134.out | refine below_set ?_ GE133.out) | exact HB.out))⟩)
           ·skip
            rintro gb133 w57 ⟨hS_, h0_, h1_, h2_, h3_, h4_, h5_, h6_⟩
            have n0_ : Aside0 (w57.heap[gb120]? = some (.cells #[.bool true, .int .u32 a0_1, .int .u32 a0_2, .int .u64 a0_3] 25 (0, 0))) := ⟨h0_⟩
            have n1_ : Aside0 (w57.heap[gb133]? = some (.cells #[.bool false, .int .u32 0, .int .u32 0, .int .u64 0] 25 (0, 0))) := ⟨h1_⟩
            have n2_ : Aside0 (w.heap.size ≤ gb133) := ⟨h2_⟩
            have n3_ : Aside0 (w.heap.size ≤ gb133) := ⟨h3_⟩
            have n4_ : Aside0 (gb120 ≠ gb133) := ⟨h4_⟩
            have n5_ : Aside0 (gb133 ≠ gb120) := ⟨h5_⟩
            have n6_ : Aside0 (Below w.heap.size w w57) := ⟨h6_⟩
            clear BK120
            clear HB
            clear h0_ h1_ h2_ h3_ h4_ h5_ h6_
            have BK120 := n0_
            have BK133 := n1_
            have GW133 := n2_
            have GE133 := n3_
            have NB120_133 := n4_
            have NB133_120 := n5_
            have HB := n6_
            clear n0_ n1_ n2_ n3_ n4_ n5_ n6_
            have hHeld : w57.cell? ⟨gb120, 0, none⟩ = some (.bool true) ∧ w57.cell? ⟨gb120, 1, none⟩ = some (.int .u32 a0_1) ∧ w57.cell? ⟨gb120, 2, none⟩ = some (.int .u32 a0_2) ∧ w57.cell? ⟨gb120, 3, none⟩ = some (.int .u64 a0_3) := hS_
            refine norm_ (a' := ?_) ?_ ?_
            rotate_left
            ·simp only [putAll, Act.put, List.setIfInBounds_toArray, List.set_cons_zero, List.set_cons_succ]
             rfl
            refine one_ (i := 9) (N := some 8) #[true, true, true, true, true, true, true, true, true, true, false, false] rfl rfl (one_of HT_.out (by kernel_rfl)) (by decide) (fun K hK => ?_)
            refine box_step ?hg (N := 8) ?hd (cs := #[.bool false, .int .u32 0, .int .u32 0, .int .u64 0]) (t := 25) ?hr ?_; (case hd => rfl); (case hg => rfl); (case hr => first | (go_simp; done) | (go_simp; rfl))
            intro gb134 hg w58 hbox hb
            have n0_ := Aside0.mk (blk_below (g := gb120) (o := .cells #[.bool true, .int .u32 a0_1, .int .u32 a0_2, .int .u64 a0_3] 25 (0, 0)) (by (with_reducible repeat (first | refine blk_drewN ?_ _ | refine blk_drew ?_ | refine blk_alloc ?_ _)); exact BK120.out) hb)
            have n1_ := Aside0.mk (blk_below (g := gb133) (o := .cells #[.bool false, .int .u32 0, .int .u32 0, .int .u64 0] 25 (0, 0)) (by (with_reducible repeat (first | refine blk_drewN ?_ _ | refine blk_drew ?_ | refine blk_alloc ?_ _)); exact BK133.out) hb)
            have n2_ := Aside0.mk (below_step (by repeat (first | (with_reducible first | exact HB.out | apply below_alloc | apply pw_below_drewN | apply below_drew1 | refine below_set ?_ GE120.out | refine below_set ?_ GE133.out) | exact HB.out)) hb)
            have n3_ := Aside0.mk (hbox)
            have n4_ := Aside0.mk ((by rw [hg]; exact (below_size (by repeat (first | (with_reducible first | exact HB.out | apply below_alloc | apply pw_below_drewN | apply below_drew1 | refine below_set ?_ GE120.out | refine below_set ?_ GE133.out) | exact HB.out))) : w.heap.size ≤ gb134))
            have n5_ := Aside0.mk ((by rw [hg]; exact (below_size (by repeat (first | (with_reducible first | exact HB.out | apply below_alloc | apply pw_below_drewN | apply below_drew1 | refine below_set ?_ GE120.out | refine below_set ?_ GE133.out) | exact HB.out))) : w.heap.size ≤ gb134))
            have n6_ := Aside0.mk ((by rw [hg]; exact Nat.ne_of_lt (blk_lt (g := gb120) (o := .cells #[.bool true, .int .u32 a0_1, .int .u32 a0_2, .int .u64 a0_3] 25 (0, 0)) (by (with_reducible repeat (first | refine blk_drewN ?_ _ | refine blk_drew ?_ | refine blk_alloc ?_ _)); exact BK120.out)) : gb120 ≠ gb134))
            have n7_ := Aside0.mk ((by rw [hg]; exact Nat.ne_of_gt (blk_lt (g := gb120) (o := .cells #[.bool true, .int .u32 a0_1, .int .u32 a0_2, .int .u64 a0_3] 25 (0, 0)) (by (with_reducible repeat (first | refine blk_drewN ?_ _ | refine blk_drew ?_ | refine blk_alloc ?_ _)); exact BK120.out)) : gb134 ≠ gb120))
            have n8_ := Aside0.mk ((by rw [hg]; exact Nat.ne_of_lt (blk_lt (g := gb133) (o := .cells #[.bool false, .int .u32 0, .int .u32 0, .int .u64 0] 25 (0, 0)) (by (with_reducible repeat (first | refine blk_drewN ?_ _ | refine blk_drew ?_ | refine blk_alloc ?_ _)); exact BK133.out)) : gb133 ≠ gb134))
            have n9_ := Aside0.mk ((by rw [hg]; exact Nat.ne_of_gt (blk_lt (g := gb133) (o := .cells #[.bool false, .int .u32 0, .int .u32 0, .int .u64 0] 25 (0, 0)) (by (with_reducible repeat (first | refine blk_drewN ?_ _ | refine blk_drew ?_ | refine blk_alloc ?_ _)); exact BK133.out)) : gb134 ≠ gb133))
            clear BK120
            clear BK133
            clear HB
            have BK120 := n0_
            have BK133 := n1_
            have HB := n2_
            have BK134 := n3_
            have GW134 := n4_
            have GE134 := n5_
            have NB120_134 := n6_
            have NB134_120 := n7_
            have NB133_134 := n8_
            have NB134_133 := n9_
            clear n0_ n1_ n2_ n3_ n4_ n5_ n6_ n7_ n8_ n9_
            clear hb hbox hg
            refine hK.out _ _ ⟨(blk_cell BK120.out 0).trans rfl, (blk_cell BK120.out 1).trans rfl, (blk_cell BK120.out 2).trans rfl, (blk_cell BK120.out 3).trans rfl⟩ (fun hHeld => ?_)
            clear hK K
            refine norm_ (a' := ?_) ?_ ?_
            rotate_left
            ·show Act.put _ (some 8) _ = _
             simp only [Act.put, List.setIfInBounds_toArray, List.set_cons_zero, List.set_cons_succ, i64_w, i32_w]
             rfl
            exact norm_ (by first | (simp only [putAll, Act.put, List.setIfInBounds_toArray, List.set_cons_zero, List.set_cons_succ]; done) | (simp only [putAll, Act.put, List.setIfInBounds_toArray, List.set_cons_zero, List.set_cons_succ]; rfl)) (hJ3_7_8_9 (gb133, gb134) _ ⟨hHeld, (by (with_reducible repeat (first | refine blk_drewN ?_ _ | refine blk_drew ?_ | refine blk_alloc ?_ _)); exact BK120.out), (by (with_reducible repeat (first | refine blk_drewN ?_ _ | refine blk_drew ?_ | refine blk_alloc ?_ _)); exact BK133.out), (by (with_reducible repeat (first | refine blk_drewN ?_ _ | refine blk_drew ?_ | refine blk_alloc ?_ _)); exact BK134.out), GW133.out, GE133.out, NB120_133.out, NB133_120.out, NB134_133.out, NB133_134.out, GW134.out, GE134.out, NB120_134.out, NB134_120.out, (by repeat (first | (with_reducible first | exact HB.out | apply below_alloc | apply pw_below_drewN | apply below_drew1 | refine below_set ?_ GE120.out | refine below_set ?_ GE133.out | refine below_set ?_ GE134.out) | exact HB.out))⟩)
          rintro ⟨gb133, gb134⟩ w58 ⟨hS_, h0_, h1_, h2_, h3_, h4_, h5_, h6_, h7_, h8_, h9_, h10_, h11_, h12_, h13_⟩
          have n0_ : Aside0 (w58.heap[gb120]? = some (.cells #[.bool true, .int .u32 a0_1, .int .u32 a0_2, .int .u64 a0_3] 25 (0, 0))) := ⟨h0_⟩
          have n1_ : Aside0 (w58.heap[gb133]? = some (.cells #[.bool false, .int .u32 0, .int .u32 0, .int .u64 0] 25 (0, 0))) := ⟨h1_⟩
          have n2_ : Aside0 (w58.heap[gb134]? = some (.cells #[.bool false, .int .u32 0, .int .u32 0, .int .u64 0] 25 (0, 0))) := ⟨h2_⟩
          have n3_ : Aside0 (w.heap.size ≤ gb133) := ⟨h3_⟩
          have n4_ : Aside0 (w.heap.size ≤ gb133) := ⟨h4_⟩
          have n5_ : Aside0 (gb120 ≠ gb133) := ⟨h5_⟩
          have n6_ : Aside0 (gb133 ≠ gb120) := ⟨h6_⟩
          have n7_ : Aside0 (gb134 ≠ gb133) := ⟨h7_⟩
          have n8_ : Aside0 (gb133 ≠ gb134) := ⟨h8_⟩
          have n9_ : Aside0 (w.heap.size ≤ gb134) := ⟨h9_⟩
          have n10_ : Aside0 (w.heap.size ≤ gb134) := ⟨h10_⟩
          have n11_ : Aside0 (gb120 ≠ gb134) := ⟨h11_⟩
          have n12_ : Aside0 (gb134 ≠ gb120) := ⟨h12_⟩
          have n13_ : Aside0 (Below w.heap.size w w58) := ⟨h13_⟩
          clear BK120
          clear HB
          clear h0_ h1_ h2_ h3_ h4_ h5_ h6_ h7_ h8_ h9_ h10_ h11_ h12_ h13_
          have BK120 := n0_
          have BK133 := n1_
          have BK134 := n2_
          have GW133 := n3_
          have GE133 := n4_
          have NB120_133 := n5_
          have NB133_120 := n6_
          have NB134_133 := n7_
          have NB133_134 := n8_
          have GW134 := n9_
          have GE134 := n10_
          have NB120_134 := n11_
          have NB134_120 := n12_
          have HB := n13_
          clear n0_ n1_ n2_ n3_ n4_ n5_ n6_ n7_ n8_ n9_ n10_ n11_ n12_ n13_
          have hHeld : w58.cell? ⟨gb120, 0, none⟩ = some (.bool true) ∧ w58.cell? ⟨gb120, 1, none⟩ = some (.int .u32 a0_1) ∧ w58.cell? ⟨gb120, 2, none⟩ = some (.int .u32 a0_2) ∧ w58.cell? ⟨gb120, 3, none⟩ = some (.int .u64 a0_3) := hS_
          refine norm_ (a' := ?_) ?_ ?_
          rotate_left
          ·simp only [putAll, Act.put, List.setIfInBounds_toArray, List.set_cons_zero, List.set_cons_succ]
           rfl
          refine one_ (i := 10) (N := none) #[true, true, true, true, true, true, true, true, true, true, true, false] rfl rfl (one_of HT_.out (by kernel_rfl)) (by decide) (fun K hK => ?_)
          have hs59 : w58.cell? ⟨gb133, 0, none⟩ = some (.bool false) := (blk_cell BK133.out 0).trans rfl
          have hfs59 := blk_frozen BK133.out 0
          have hns59_0 := NB120_133.out
          have hns59_2 := NB134_133.out
          have hms59_0 := NB133_120.out
          have hms59_2 := NB133_134.out
          have hs60 : w58.cell? ⟨gb133, 1, none⟩ = some (.int .u32 0) := (blk_cell BK133.out 1).trans rfl
          have hfs60 := blk_frozen BK133.out 1
          have hns60_0 := NB120_133.out
          have hns60_2 := NB134_133.out
          have hms60_0 := NB133_120.out
          have hms60_2 := NB133_134.out
          have hs61 : w58.cell? ⟨gb133, 2, none⟩ = some (.int .u32 0) := (blk_cell BK133.out 2).trans rfl
          have hfs61 := blk_frozen BK133.out 2
          have hns61_0 := NB120_133.out
          have hns61_2 := NB134_133.out
          have hms61_0 := NB133_120.out
          have hms61_2 := NB133_134.out
          have hs62 : w58.cell? ⟨gb133, 3, none⟩ = some (.int .u64 0) := (blk_cell BK133.out 3).trans rfl
          have hfs62 := blk_frozen BK133.out 3
          have hns62_0 := NB120_133.out
          have hns62_2 := NB134_133.out
          have hms62_0 := NB133_120.out
          have hms62_2 := NB133_134.out
          refine skip_ (w1 := ?_) (by rfl) rfl ?_ ?_
          rotate_left
          ·go_simp
           rfl
          refine hK.out _ _ ⟨((cell_far (p := ⟨gb133, _, none⟩) NB120_133.out _).trans (((cell_far (p := ⟨gb133, _, none⟩) NB120_133.out _).trans (((cell_far (p := ⟨gb133, _, none⟩) NB120_133.out _).trans (((cell_far (p := ⟨gb133, _, none⟩) NB120_133.out _).trans (hHeld.1)))))))), ((cell_far (p := ⟨gb133, _, none⟩) NB120_133.out _).trans (((cell_far (p := ⟨gb133, _, none⟩) NB120_133.out _).trans (((cell_far (p := ⟨gb133, _, none⟩) NB120_133.out _).trans (((cell_far (p := ⟨gb133, _, none⟩) NB120_133.out _).trans (hHeld.2.1)))))))), ((cell_far (p := ⟨gb133, _, none⟩) NB120_133.out _).trans (((cell_far (p := ⟨gb133, _, none⟩) NB120_133.out _).trans (((cell_far (p := ⟨gb133, _, none⟩) NB120_133.out _).trans (((cell_far (p := ⟨gb133, _, none⟩) NB120_133.out _).trans (hHeld.2.2.1)))))))), ((cell_far (p := ⟨gb133, _, none⟩) NB120_133.out _).trans (((cell_far (p := ⟨gb133, _, none⟩) NB120_133.out _).trans (((cell_far (p := ⟨gb133, _, none⟩) NB120_133.out _).trans (((cell_far (p := ⟨gb133, _, none⟩) NB120_133.out _).trans (hHeld.2.2.2))))))))⟩ (fun hHeld => ?_)
          clear hK K
          refine one_ (i := 11) (N := none) #[true, true, true, true, true, true, true, true, true, true, true, true] rfl rfl (one_of HT_.out (by kernel_rfl)) (by decide) (fun K hK => ?_)
          have hs63 : w58.cell? ⟨gb134, 0, none⟩ = some (.bool false) := (blk_cell BK134.out 0).trans rfl
          have hfs63 := blk_frozen BK134.out 0
          have hns63_0 := NB120_134.out
          have hns63_1 := NB133_134.out
          have hms63_0 := NB134_120.out
          have hms63_1 := NB134_133.out
          have hs64 : w58.cell? ⟨gb134, 1, none⟩ = some (.int .u32 0) := (blk_cell BK134.out 1).trans rfl
          have hfs64 := blk_frozen BK134.out 1
          have hns64_0 := NB120_134.out
          have hns64_1 := NB133_134.out
          have hms64_0 := NB134_120.out
          have hms64_1 := NB134_133.out
          have hs65 : w58.cell? ⟨gb134, 2, none⟩ = some (.int .u32 0) := (blk_cell BK134.out 2).trans rfl
          have hfs65 := blk_frozen BK134.out 2
          have hns65_0 := NB120_134.out
          have hns65_1 := NB133_134.out
          have hms65_0 := NB134_120.out
          have hms65_1 := NB134_133.out
          have hs66 : w58.cell? ⟨gb134, 3, none⟩ = some (.int .u64 0) := (blk_cell BK134.out 3).trans rfl
          have hfs66 := blk_frozen BK134.out 3
          have hns66_0 := NB120_134.out
          have hns66_1 := NB133_134.out
          have hms66_0 := NB134_120.out
          have hms66_1 := NB134_133.out
          refine skip_ (w1 := ?_) (by rfl) rfl ?_ ?_
          rotate_left
          ·go_simp
           rfl
          refine hK.out _ _ ⟨((cell_far (p := ⟨gb134, _, none⟩) NB120_134.out _).trans (((cell_far (p := ⟨gb134, _, none⟩) NB120_134.out _).trans (((cell_far (p := ⟨gb134, _, none⟩) NB120_134.out _).trans (((cell_far (p := ⟨gb134, _, none⟩) NB120_134.out _).trans (hHeld.1)))))))), ((cell_far (p := ⟨gb134, _, none⟩) NB120_134.out _).trans (((cell_far (p := ⟨gb134, _, none⟩) NB120_134.out _).trans (((cell_far (p := ⟨gb134, _, none⟩) NB120_134.out _).trans (((cell_far (p := ⟨gb134, _, none⟩) NB120_134.out _).trans (hHeld.2.1)))))))), ((cell_far (p := ⟨gb134, _, none⟩) NB120_134.out _).trans (((cell_far (p := ⟨gb134, _, none⟩) NB120_134.out _).trans (((cell_far (p := ⟨gb134, _, none⟩) NB120_134.out _).trans (((cell_far (p := ⟨gb134, _, none⟩) NB120_134.out _).trans (hHeld.2.2.1)))))))), ((cell_far (p := ⟨gb134, _, none⟩) NB120_134.out _).trans (((cell_far (p := ⟨gb134, _, none⟩) NB120_134.out _).trans (((cell_far (p := ⟨gb134, _, none⟩) NB120_134.out _).trans (((cell_far (p := ⟨gb134, _, none⟩) NB120_134.out _).trans (hHeld.2.2.2))))))))⟩ (fun hHeld => ?_)
          clear hK K
          refine done_ (done_of HT_.out (by kernel_rfl)) ?_
          have hnb67 := NB133_120.out
          have hnc67 := NB120_133.out
          have hnb68 := NB133_134.out
          have hnc68 := NB134_133.out
          have hcz69_0 : w58.cell? ⟨gb133, 0, none⟩ = some (.bool false) := (blk_cell BK133.out 0).trans rfl
          have hcz69_1 : w58.cell? ⟨gb133, 1, none⟩ = some (.int .u32 0) := (blk_cell BK133.out 1).trans rfl
          have hcz69_2 : w58.cell? ⟨gb133, 2, none⟩ = some (.int .u32 0) := (blk_cell BK133.out 2).trans rfl
          have hcz69_3 : w58.cell? ⟨gb133, 3, none⟩ = some (.int .u64 0) := (blk_cell BK133.out 3).trans rfl
          have hfz69_0 := blk_frozen BK133.out 0
          have hfz69_1 := blk_frozen BK133.out 1
          have hfz69_2 := blk_frozen BK133.out 2
          have hfz69_3 := blk_frozen BK133.out 3
          have hnb70 := NB134_120.out
          have hnc70 := NB120_134.out
          have hcz71_0 : w58.cell? ⟨gb134, 0, none⟩ = some (.bool false) := (blk_cell BK134.out 0).trans rfl
          have hcz71_1 : w58.cell? ⟨gb134, 1, none⟩ = some (.int .u32 0) := (blk_cell BK134.out 1).trans rfl
          have hcz71_2 : w58.cell? ⟨gb134, 2, none⟩ = some (.int .u32 0) := (blk_cell BK134.out 2).trans rfl
          have hcz71_3 : w58.cell? ⟨gb134, 3, none⟩ = some (.int .u64 0) := (blk_cell BK134.out 3).trans rfl
          have hfz71_0 := blk_frozen BK134.out 0
          have hfz71_1 := blk_frozen BK134.out 1
          have hfz71_2 := blk_frozen BK134.out 2
          have hfz71_3 := blk_frozen BK134.out 3
          have hcz72_0 : w58.cell? ⟨gb120, 0, none⟩ = some (.bool true) := (blk_cell BK120.out 0).trans rfl
          have hcz72_1 : w58.cell? ⟨gb120, 1, none⟩ = some (.int .u32 a0_1) := (blk_cell BK120.out 1).trans rfl
          have hcz72_2 : w58.cell? ⟨gb120, 2, none⟩ = some (.int .u32 a0_2) := (blk_cell BK120.out 2).trans rfl
          have hcz72_3 : w58.cell? ⟨gb120, 3, none⟩ = some (.int .u64 a0_3) := (blk_cell BK120.out 3).trans rfl
          have hfz72_0 := blk_frozen BK120.out 0
          have hfz72_1 := blk_frozen BK120.out 1
          have hfz72_2 := blk_frozen BK120.out 2
          have hfz72_3 := blk_frozen BK120.out 3
          have e_ := eq_false (show ¬ t128 = t132 by intro h_; simp_all)
          try go_wp2_with (first | (go_at_call 11; (with_reducible refine (annuletlaw20_awake.calls  t136 _ A52.out).mono ?_); rintro e w73 ⟨rfl, hb⟩; have n0_ := Aside0.mk (blk_below (g := gb120) (o := .cells #[.bool true, .int .u32 a0_1, .int .u32 a0_2, .int .u64 a0_3] 25 (0, 0)) (by (with_reducible repeat (first | refine blk_drewN ?_ _ | refine blk_drew ?_ | refine blk_alloc ?_ _)); refine blk_far ?_ NB120_134.out _; (with_reducible repeat (first | refine blk_drewN ?_ _ | refine blk_drew ?_ | refine blk_alloc ?_ _)); refine blk_far ?_ NB120_134.out _; (with_reducible repeat (first | refine blk_drewN ?_ _ | refine blk_drew ?_ | refine blk_alloc ?_ _)); refine blk_far ?_ NB120_134.out _; (with_reducible repeat (first | refine blk_drewN ?_ _ | refine blk_drew ?_ | refine blk_alloc ?_ _)); refine blk_far ?_ NB120_134.out _; (with_reducible repeat (first | refine blk_drewN ?_ _ | refine blk_drew ?_ | refine blk_alloc ?_ _)); refine blk_far ?_ NB120_133.out _; (with_reducible repeat (first | refine blk_drewN ?_ _ | refine blk_drew ?_ | refine blk_alloc ?_ _)); refine blk_far ?_ NB120_133.out _; (with_reducible repeat (first | refine blk_drewN ?_ _ | refine blk_drew ?_ | refine blk_alloc ?_ _)); refine blk_far ?_ NB120_133.out _; (with_reducible repeat (first | refine blk_drewN ?_ _ | refine blk_drew ?_ | refine blk_alloc ?_ _)); refine blk_far ?_ NB120_133.out _; (with_reducible repeat (first | refine blk_drewN ?_ _ | refine blk_drew ?_ | refine blk_alloc ?_ _)); exact BK120.out) hb); have n1_ := Aside0.mk (blk_below (g := gb133) (o := .cells #[.bool t125, .int .u32 t126, .int .u32 t127, .int .u64 t128] 25 (0, 0)) (by (with_reducible repeat (first | refine blk_drewN ?_ _ | refine blk_drew ?_ | refine blk_alloc ?_ _)); refine blk_far ?_ NB133_134.out _; (with_reducible repeat (first | refine blk_drewN ?_ _ | refine blk_drew ?_ | refine blk_alloc ?_ _)); refine blk_far ?_ NB133_134.out _; (with_reducible repeat (first | refine blk_drewN ?_ _ | refine blk_drew ?_ | refine blk_alloc ?_ _)); refine blk_far ?_ NB133_134.out _; (with_reducible repeat (first | refine blk_drewN ?_ _ | refine blk_drew ?_ | refine blk_alloc ?_ _)); refine blk_far ?_ NB133_134.out _; (with_reducible repeat (first | refine blk_drewN ?_ _ | refine blk_drew ?_ | refine blk_alloc ?_ _)); refine blk_put (cs := #[.bool t125, .int .u32 t126, .int .u32 t127, .int .u64 0]) ?_ 3 _ rfl; (with_reducible repeat (first | refine blk_drewN ?_ _ | refine blk_drew ?_ | refine blk_alloc ?_ _)); refine blk_put (cs := #[.bool t125, .int .u32 t126, .int .u32 0, .int .u64 0]) ?_ 2 _ rfl; (with_reducible repeat (first | refine blk_drewN ?_ _ | refine blk_drew ?_ | refine blk_alloc ?_ _)); refine blk_put (cs := #[.bool t125, .int .u32 0, .int .u32 0, .int .u64 0]) ?_ 1 _ rfl; (with_reducible repeat (first | refine blk_drewN ?_ _ | refine blk_drew ?_ | refine blk_alloc ?_ _)); refine blk_put (cs := #[.bool false, .int .u32 0, .int .u32 0, .int .u64 0]) ?_ 0 _ rfl; (with_reducible repeat (first | refine blk_drewN ?_ _ | refine blk_drew ?_ | refine blk_alloc ?_ _)); exact BK133.out) hb); have n2_ := Aside0.mk (blk_below (g := gb134) (o := .cells #[.bool t129, .int .u32 t130, .int .u32 t131, .int .u64 t132] 25 (0, 0)) (by (with_reducible repeat (first | refine blk_drewN ?_ _ | refine blk_drew ?_ | refine blk_alloc ?_ _)); refine blk_put (cs := #[.bool t129, .int .u32 t130, .int .u32 t131, .int .u64 0]) ?_ 3 _ rfl; (with_reducible repeat (first | refine blk_drewN ?_ _ | refine blk_drew ?_ | refine blk_alloc ?_ _)); refine blk_put (cs := #[.bool t129, .int .u32 t130, .int .u32 0, .int .u64 0]) ?_ 2 _ rfl; (with_reducible repeat (first | refine blk_drewN ?_ _ | refine blk_drew ?_ | refine blk_alloc ?_ _)); refine blk_put (cs := #[.bool t129, .int .u32 0, .int .u32 0, .int .u64 0]) ?_ 1 _ rfl; (with_reducible repeat (first | refine blk_drewN ?_ _ | refine blk_drew ?_ | refine blk_alloc ?_ _)); refine blk_put (cs := #[.bool false, .int .u32 0, .int .u32 0, .int .u64 0]) ?_ 0 _ rfl; (with_reducible repeat (first | refine blk_drewN ?_ _ | refine blk_drew ?_ | refine blk_alloc ?_ _)); refine blk_far ?_ NB134_133.out _; (with_reducible repeat (first | refine blk_drewN ?_ _ | refine blk_drew ?_ | refine blk_alloc ?_ _)); refine blk_far ?_ NB134_133.out _; (with_reducible repeat (first | refine blk_drewN ?_ _ | refine blk_drew ?_ | refine blk_alloc ?_ _)); refine blk_far ?_ NB134_133.out _; (with_reducible repeat (first | refine blk_drewN ?_ _ | refine blk_drew ?_ | refine blk_alloc ?_ _)); refine blk_far ?_ NB134_133.out _; (with_reducible repeat (first | refine blk_drewN ?_ _ | refine blk_drew ?_ | refine blk_alloc ?_ _)); exact BK134.out) hb); have n3_ := Aside0.mk (below_step (by repeat (first | (with_reducible first | exact HB.out | apply below_alloc | apply pw_below_drewN | apply below_drew1 | refine below_set ?_ GE120.out | refine below_set ?_ GE133.out | refine below_set ?_ GE134.out) | exact HB.out)) hb); clear BK120; clear BK133; clear BK134; clear HB; have BK120 := n0_; have BK133 := n1_; have BK134 := n2_; have HB := n3_; clear n0_ n1_ n2_ n3_; (try clear hb); (try clear hb2); (try clear hk); (try clear hi)))
          go_ret
          exact ⟨by first | rfl | (simp [errW_none, errW_some] <;> rfl) | (simp [*, errW_none, errW_some] <;> rfl), by repeat (first | (with_reducible first | exact HB.out | apply below_alloc | apply pw_below_drewN | apply below_drew1 | refine below_set ?_ GE120.out | refine below_set ?_ GE133.out | refine below_set ?_ GE134.out) | exact HB.out)⟩
         ·rw [if_neg c51] at H
          exact absurd H (by simp)
        ·rw [if_neg c50] at H
         exact absurd H (by simp)
       ·rw [if_neg c49] at H
        exact absurd H (by simp)
      ·rw [if_neg c48] at H
       exact absurd H (by simp)
     ·replace c47 := Bool.eq_false_iff.mpr c47
      subst c47
      have H1 : (none) = some r := by rw [if_neg (show ¬ (false = true) by decide)] at H; exact H
      clear H
      have H := H1
      clear H1
      exact absurd H (by simp)

end Go.Proofs.Ytnkgniokppafhaa.Q
