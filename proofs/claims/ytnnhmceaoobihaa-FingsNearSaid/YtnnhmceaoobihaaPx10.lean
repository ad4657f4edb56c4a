-- Printed by fprint.py (a program of this session's, over the kit's print), for this claim.
import Derived.Test.YtnnhmceaoobihaaPx0
import Derived.Test.YtnnhmceaoobihaaPx3
import Derived.Test.YtnnhmceaoobihaaPx4
import Derived.Test.YtnnhmceaoobihaaPx5
namespace Go.Proofs.Ytnnhmceaoobihaa.P
open Go.RowKit Go.Proofs.YtnnhmceaoobihaaW.PrintWords Go.Proofs.YtnnhmceaoobihaaW.PrintLast Go.Proofs.YtnnhmceaoobihaaW.PrintMore
attribute [local go_sem] max2_int min2_int max_two min_two max_three min_three max_four min_four   -- for this text's walks alone
set_option linter.unusedVariables false
set_option linter.unusedSimpArgs false

/-! ### annuletlaw28_FingsNear: function 5 -/
mutual
def annuletlaw28_FingsNear.j0 : Nat → List (S43) → List (S45) → Int → Bool → Int → Int → Option (Bool)
 | 0, _, _, _, _, _, _ => none
 | k + 1, x1, x2, x3, x19, x300000, x300001 => if x19 = true then ((annuletlaw28_awake.f k).bind fun t300 => (some t300)) else ((fings_Hops.f x300000 x300001 x1 x2 x3 200).bind fun t301 => (annuletlaw28_FingsNear.l0 k x3 t301 0 x300000 x300001))
def annuletlaw28_FingsNear.l0 : Nat → Int → List (S26) → Int → Int → Int → Option (Bool)
 | 0, _, _, _, _, _ => none
 | k + 1, x3, x9, x10, x300000, x300001 => if x10 < (x9.length : Int) then (if 0 ≤ x10 then ((ring_Between.f x300000 ((rd_T26 x9 x10).f0) x3).bind fun t306 => (if t306 = true then (if x10 > 0 then (if 0 ≤ (wrap64 (x10 - 1)) then (if (wrap64 (x10 - 1)) < (x9.length : Int) then ((ring_Dist.f ((rd_T26 x9 (wrap64 (x10 - 1))).f0) x3).bind fun t308 => ((ring_Dist.f ((rd_T26 x9 x10).f0) x3).bind fun t310 => (annuletlaw28_FingsNear.j2 k x3 x9 x10 (decide (t308 > t310)) x300000 x300001))) else (none)) else (none)) else (annuletlaw28_FingsNear.j2 k x3 x9 x10 false x300000 x300001)) else (annuletlaw28_FingsNear.j2 k x3 x9 x10 true x300000 x300001))) else (none)) else ((annuletlaw28_awake.f k).bind fun t304 => (some t304))
def annuletlaw28_FingsNear.j2 : Nat → Int → List (S26) → Int → Bool → Int → Int → Option (Bool)
 | 0, _, _, _, _, _, _ => none
 | k + 1, x3, x9, x10, x63, x300000, x300001 => if x63 = true then (none) else (annuletlaw28_FingsNear.l1 k x3 x9 x10 0 x300000 x300001)
def annuletlaw28_FingsNear.l1 : Nat → Int → List (S26) → Int → Int → Int → Int → Option (Bool)
 | 0, _, _, _, _, _, _ => none
 | k + 1, x3, x9, x10, x11, x300000, x300001 => if x11 < x10 then (if 0 ≤ x11 then (if x11 < (x9.length : Int) then (if 0 ≤ x10 then (if x10 < (x9.length : Int) then (if ((rd_T26 x9 x11).f1) = ((rd_T26 x9 x10).f1) then (none) else (annuletlaw28_FingsNear.l1 k x3 x9 x10 (wrap64 (x11 + 1)) x300000 x300001)) else (none)) else (none)) else (none)) else (none)) else (annuletlaw28_FingsNear.l0 k x3 x9 (wrap64 (x10 + 1)) x300000 x300001)
end
def annuletlaw28_FingsNear.f (k : Nat) (a0_0 : Int) (a0_1 : Int) (l1 : List (S43)) (l2 : List (S45)) (a3 : Int) : Option (Bool) := if (l1.length : Int) > 60 then (annuletlaw28_FingsNear.j0 k l1 l2 a3 true a0_0 a0_1) else (annuletlaw28_FingsNear.j0 k l1 l2 a3 (decide ((l2.length : Int) > 100)) a0_0 a0_1)
theorem annuletlaw28_FingsNear.mono_l : ∀ k, (∀ y0 y1 y2 y3 y4 y5, LeO (annuletlaw28_FingsNear.j0 k y0 y1 y2 y3 y4 y5) (annuletlaw28_FingsNear.j0 (k + 1) y0 y1 y2 y3 y4 y5)) ∧ (∀ y0 y1 y2 y3 y4, LeO (annuletlaw28_FingsNear.l0 k y0 y1 y2 y3 y4) (annuletlaw28_FingsNear.l0 (k + 1) y0 y1 y2 y3 y4)) ∧ (∀ y0 y1 y2 y3 y4 y5, LeO (annuletlaw28_FingsNear.j2 k y0 y1 y2 y3 y4 y5) (annuletlaw28_FingsNear.j2 (k + 1) y0 y1 y2 y3 y4 y5)) ∧ (∀ y0 y1 y2 y3 y4 y5, LeO (annuletlaw28_FingsNear.l1 k y0 y1 y2 y3 y4 y5) (annuletlaw28_FingsNear.l1 (k + 1) y0 y1 y2 y3 y4 y5))
 | 0 => ⟨fun _ _ _ _ _ _ r h => by simp [annuletlaw28_FingsNear.j0] at h, fun _ _ _ _ _ r h => by simp [annuletlaw28_FingsNear.l0] at h, fun _ _ _ _ _ _ r h => by simp [annuletlaw28_FingsNear.j2] at h, fun _ _ _ _ _ _ r h => by simp [annuletlaw28_FingsNear.l1] at h⟩
 | k + 1 => by
  obtain ⟨ih0, ih1, ih2, ih3⟩ := annuletlaw28_FingsNear.mono_l k
  refine ⟨?_, ?_, ?_, ?_⟩
  ·intro y0 y1 y2 y3 y4 y5
   unfold annuletlaw28_FingsNear.j0
   repeat' first
   | (with_reducible exact ih0 _ _ _ _ _ _)
   | (with_reducible exact ih1 _ _ _ _ _)
   | (with_reducible exact ih2 _ _ _ _ _ _)
   | (with_reducible exact ih3 _ _ _ _ _ _)
   | (with_reducible exact annuletlaw28_awake.mono _)
   | (with_reducible exact LeO.refl _)
   | (with_reducible exact LeO.none _)
   | (with_reducible refine LeO.ite ?_ ?_)
   | (with_reducible refine LeO.bind ?_ (fun _ => ?_))
   | exact ih0 _ _ _ _ _ _
   | exact ih1 _ _ _ _ _
   | exact ih2 _ _ _ _ _ _
   | exact ih3 _ _ _ _ _ _
   | exact annuletlaw28_awake.mono _
   | exact LeO.none _
   | refine LeO.ite ?_ ?_
   | refine LeO.bind ?_ (fun _ => ?_)
  ·intro y0 y1 y2 y3 y4
   unfold annuletlaw28_FingsNear.l0
   repeat' first
   | (with_reducible exact ih0 _ _ _ _ _ _)
   | (with_reducible exact ih1 _ _ _ _ _)
   | (with_reducible exact ih2 _ _ _ _ _ _)
   | (with_reducible exact ih3 _ _ _ _ _ _)
   | (with_reducible exact annuletlaw28_awake.mono _)
   | (with_reducible exact LeO.refl _)
   | (with_reducible exact LeO.none _)
   | (with_reducible refine LeO.ite ?_ ?_)
   | (with_reducible refine LeO.bind ?_ (fun _ => ?_))
   | exact ih0 _ _ _ _ _ _
   | exact ih1 _ _ _ _ _
   | exact ih2 _ _ _ _ _ _
   | exact ih3 _ _ _ _ _ _
   | exact annuletlaw28_awake.mono _
   | exact LeO.none _
   | refine LeO.ite ?_ ?_
   | refine LeO.bind ?_ (fun _ => ?_)
  ·intro y0 y1 y2 y3 y4 y5
   unfold annuletlaw28_FingsNear.j2
   repeat' first
   | (with_reducible exact ih0 _ _ _ _ _ _)
   | (with_reducible exact ih1 _ _ _ _ _)
   | (with_reducible exact ih2 _ _ _ _ _ _)
   | (with_reducible exact ih3 _ _ _ _ _ _)
   | (with_reducible exact annuletlaw28_awake.mono _)
   | (with_reducible exact LeO.refl _)
   | (with_reducible exact LeO.none _)
   | (with_reducible refine LeO.ite ?_ ?_)
   | (with_reducible refine LeO.bind ?_ (fun _ => ?_))
   | exact ih0 _ _ _ _ _ _
   | exact ih1 _ _ _ _ _
   | exact ih2 _ _ _ _ _ _
   | exact ih3 _ _ _ _ _ _
   | exact annuletlaw28_awake.mono _
   | exact LeO.none _
   | refine LeO.ite ?_ ?_
   | refine LeO.bind ?_ (fun _ => ?_)
  ·intro y0 y1 y2 y3 y4 y5
   unfold annuletlaw28_FingsNear.l1
   repeat' first
   | (with_reducible exact ih0 _ _ _ _ _ _)
   | (with_reducible exact ih1 _ _ _ _ _)
   | (with_reducible exact ih2 _ _ _ _ _ _)
   | (with_reducible exact ih3 _ _ _ _ _ _)
   | (with_reducible exact annuletlaw28_awake.mono _)
   | (with_reducible exact LeO.refl _)
   | (with_reducible exact LeO.none _)
   | (with_reducible refine LeO.ite ?_ ?_)
   | (with_reducible refine LeO.bind ?_ (fun _ => ?_))
   | exact ih0 _ _ _ _ _ _
   | exact ih1 _ _ _ _ _
   | exact ih2 _ _ _ _ _ _
   | exact ih3 _ _ _ _ _ _
   | exact annuletlaw28_awake.mono _
   | exact LeO.none _
   | refine LeO.ite ?_ ?_
   | refine LeO.bind ?_ (fun _ => ?_)
theorem annuletlaw28_FingsNear.mono : ∀ a0 a1 a2 a3 a4 k, LeO (annuletlaw28_FingsNear.f k a0 a1 a2 a3 a4) (annuletlaw28_FingsNear.f (k + 1) a0 a1 a2 a3 a4) := by
 intro a0 a1 a2 a3 a4 k
 obtain ⟨ih0, ih1, ih2, ih3⟩ := annuletlaw28_FingsNear.mono_l k
 unfold annuletlaw28_FingsNear.f
 repeat' first
   | (with_reducible exact ih0 _ _ _ _ _ _)
   | (with_reducible exact ih1 _ _ _ _ _)
   | (with_reducible exact ih2 _ _ _ _ _ _)
   | (with_reducible exact ih3 _ _ _ _ _ _)
   | (with_reducible exact annuletlaw28_awake.mono _)
   | (with_reducible exact LeO.refl _)
   | (with_reducible exact LeO.none _)
   | (with_reducible refine LeO.ite ?_ ?_)
   | (with_reducible refine LeO.bind ?_ (fun _ => ?_))
   | exact ih0 _ _ _ _ _ _
   | exact ih1 _ _ _ _ _
   | exact ih2 _ _ _ _ _ _
   | exact ih3 _ _ _ _ _ _
   | exact annuletlaw28_awake.mono _
   | exact LeO.none _
   | refine LeO.ite ?_ ?_
   | refine LeO.bind ?_ (fun _ => ?_)
def annuletlaw28_FingsNear.T7 : Bool × List (List Nat × List Nat) := (true, [([], []), ([0], [0]), ([], []), ([], []), ([2, 3], [2, 3]), ([4], [4]), ([5], [5]), ([], []), ([1, 6, 7], [1, 6, 7]), ([8], [8]), ([9, 8], [9]), ([10], [10]), ([11, 10], [10, 11]), ([12, 10, 10], [10, 12]), ([13], [13]), ([13], [13]), ([15, 13], [13, 15]), ([14, 16, 13], [13, 14, 16]), ([17, 13], [13, 17]), ([18, 13], [13, 18]), ([13], [13]), ([19, 20, 13, 13], [13, 19, 20]), ([13], [13]), ([13], [13]), ([22, 23, 13], [13, 22, 23]), ([24, 13], [13, 24]), ([25, 13], [13, 25]), ([13], [13]), ([26, 27, 21, 13], [13, 26, 27]), ([21, 28, 13], [13, 21, 28]), ([13, 29, 10], [10, 13, 29]), ([10, 30], [10, 30])])
def annuletlaw28_FingsNear.B7 : List Nat := [0, 1, 0, 0, 12, 28, 60, 0, 255, 511, 1023, 2047, 4095, 8191, 16383, 16383, 49151, 131071, 262143, 524287, 16383, 2097151, 16383, 16383, 12599295, 29376511, 62930943, 16383, 268435455, 536870911, 1073741823, 2147483647]
theorem annuletlaw28_FingsNear.tab7 : rtab .any (opsOf Try.f5 7) = annuletlaw28_FingsNear.T7 := by kernel_rfl
theorem annuletlaw28_FingsNear.bits7 : waitsOk annuletlaw28_FingsNear.T7.2 annuletlaw28_FingsNear.B7 = true := by kernel_rfl
def annuletlaw28_FingsNear.T12 : Bool × List (List Nat × List Nat) := (true, [([], []), ([], []), ([0, 1], [0, 1]), ([2], [2]), ([3], [3]), ([], []), ([], []), ([5, 6], [5, 6]), ([7], [7]), ([8], [8]), ([4, 9], [4, 9])])
def annuletlaw28_FingsNear.B12 : List Nat := [0, 0, 3, 7, 15, 0, 0, 96, 224, 480, 1023]
theorem annuletlaw28_FingsNear.tab12 : rtab .any (opsOf Try.f5 12) = annuletlaw28_FingsNear.T12 := by kernel_rfl
theorem annuletlaw28_FingsNear.bits12 : waitsOk annuletlaw28_FingsNear.T12.2 annuletlaw28_FingsNear.B12 = true := by kernel_rfl
set_option maxHeartbeats 8000000 in
set_option maxRecDepth 100000 in
theorem annuletlaw28_FingsNear.calls (k : Nat) (a0_0 : Int) (a0_1 : Int) (A1 : Option Addr) (c1 : Nat) (l1 : List (S43)) (A2 : Option Addr) (c2 : Nat) (l2 : List (S45)) (a3 : Int) (r : Bool) (w : World) (hr1 : Kd.C k43 w A1 l1.length l1) (hc1 : l1.length ≤ c1) (hr2 : Kd.C k45 w A2 l2.length l2) (hc2 : l2.length ≤ c2) (h : annuletlaw28_FingsNear.f k a0_0 a0_1 l1 l2 a3 = some r) :
  Calls Try.prog 5 #[.agg #[.int .u64 a0_0, .int .u16 a0_1], .slice A1 l1.length c1, .slice A2 l2.length c2, .int .u64 a3] w fun e w' => e = .returned (.bool r) ∧ Below w.heap.size w w' := by
 have hu26 := Try.underlying26
 have HR1 := Aside0.mk hr1
 have HC1 := Aside0.mk hc1
 clear hr1 hc1
 have HR2 := Aside0.mk hr2
 have HC2 := Aside0.mk hc2
 clear hr2 hc2
 have HB := Aside0.mk (Below.refl w.heap.size w)
 have H : (if (l1.length : Int) > 60 then (annuletlaw28_FingsNear.j0 k l1 l2 a3 true a0_0 a0_1) else (annuletlaw28_FingsNear.j0 k l1 l2 a3 (decide ((l2.length : Int) > 100)) a0_0 a0_1)) = some r := h
 clear h
 have HC5 := Aside0.mk H
 clear H
 go_enter Try.func5, Try.ntmps5
 go_upto_region 1 with (first | ((with_reducible refine gate_dst (N := 4) rfl ?_); (try (refine gate_guard (by rfl) ?_; dsimp only)); refine box_event ?hg (N := 4) ?hd (cs := #[.int .u64 a0_0, .int .u16 a0_1]) (t := 26) ?hr ?_; (case hd => rfl); (case hg => rfl); (case hr => first | (go_simp; done) | (go_simp; rfl)); intro gb299 hg w6 hbox hb; have n0_ := Aside0.mk (below_step (by repeat (first | (with_reducible first | exact HB.out | apply below_alloc | apply pw_below_drewN | apply below_drew1) | exact HB.out)) hb); have n1_ := Aside0.mk (hbox); have n2_ := Aside0.mk ((by rw [hg]; exact (below_size (by repeat (first | (with_reducible first | exact HB.out | apply below_alloc | apply pw_below_drewN | apply below_drew1) | exact HB.out))) : w.heap.size ≤ gb299)); have n3_ := Aside0.mk ((by rw [hg]; exact (below_size (by repeat (first | (with_reducible first | exact HB.out | apply below_alloc | apply pw_below_drewN | apply below_drew1) | exact HB.out))) : w.heap.size ≤ gb299)); clear HB; have HB := n0_; have BK299 := n1_; have GW299 := n2_; have GE299 := n3_; clear n0_ n1_ n2_ n3_; clear hb hbox hg))
 (try simp only [Act.put, la_, lz_, ls_])
 go_cut [19] (fun v19 wc => ∃ (kq : Nat) (x19_4 : Bool), v19 = .bool x19_4 ∧ Aside0 (annuletlaw28_FingsNear.j0 kq l1 l2 a3 x19_4 a0_0 a0_1 = some r) ∧ Aside0 (kq ≤ k) ∧ Aside0 (wc.heap[gb299]? = some (.cells #[.int .u64 a0_0, .int .u16 a0_1] 26 (0, 0))) ∧ Aside0 (Below w.heap.size w wc))
 case first =>
  have H := HC5.out
  clear HC5
  by_cases c7 : (l1.length : Int) > 60
  ·rw [if_pos c7] at H
   have c7b0 : decide (60 < (l1.length : Int)) = true := decide_eq_true c7
   have c7b1 : decide (60 < l1.length) = true := decide_eq_true (by omega)
   clear c7
   (first | rw [c7b0] | (simp only [i64_w, i32_w]; rw [c7b0]) | skip)
   have H' := Aside0.mk H
   clear H
   go_wp2
   go_meet
   case rel => exact ⟨_, (true), (by first | rfl | (simp; done) | (simp [*]; done)), H', ⟨by first | omega | exact Nat.le_refl _⟩, ⟨by (with_reducible repeat (first | refine blk_drewN ?_ _ | refine blk_drew ?_ | refine blk_alloc ?_ _)); exact BK299.out⟩, ⟨by repeat (first | (with_reducible first | exact HB.out | apply below_alloc | apply pw_below_drewN | apply below_drew1 | refine below_set ?_ GE299.out) | exact HB.out)⟩⟩
  ·rw [if_neg c7] at H
   have c7b0 : decide (60 < (l1.length : Int)) = false := decide_eq_false c7
   have c7b1 : decide (60 < l1.length) = false := decide_eq_false (by omega)
   clear c7
   (first | rw [c7b0] | (simp only [i64_w, i32_w]; rw [c7b0]) | skip)
   have H' := Aside0.mk H
   clear H
   go_wp2
   go_meet
   case rel => exact ⟨_, (decide ((l2.length : Int) > 100)), (by first | rfl | (simp; done) | (simp [*]; done)), H', ⟨by first | omega | exact Nat.le_refl _⟩, ⟨by (with_reducible repeat (first | refine blk_drewN ?_ _ | refine blk_drew ?_ | refine blk_alloc ?_ _)); exact BK299.out⟩, ⟨by repeat (first | (with_reducible first | exact HB.out | apply below_alloc | apply pw_below_drewN | apply below_drew1 | refine below_set ?_ GE299.out) | exact HB.out)⟩⟩
 case rest =>
  clear HC5
  try clear c1
  try clear c2
  try clear p2
  try clear c5
  try clear c7
  try clear c7b0
  try clear c7b1
  obtain ⟨kq, x19_4, rfl, HA, HJ4, BK299, HB⟩ := hcut
  cases kq with
  | zero => exact absurd HA.out (by simp [annuletlaw28_FingsNear.j0])
  | succ kj4 =>
   have H := HA.out
   clear HA
   simp only [annuletlaw28_FingsNear.j0] at H
   by_cases c8 : x19_4 = true
   ·subst c8
    have H1 : ((annuletlaw28_awake.f kj4).bind fun t300 => (some t300)) = some r := by rw [if_pos rfl] at H; exact H
    clear H
    have H := H1
    clear H1
    replace H := Option.bind_eq_some_iff.mp H
    obtain ⟨t300, A90, H⟩ := H
    replace H : (some t300) = some r := H
    have A9 := Aside0.mk A90
    clear A90
    obtain rfl := Option.some.inj H
    go_wp2_with (first | ((with_reducible refine gate_callee (f := 6) rfl ?_); refine goesL_ (some 20) rfl rfl Try.func6 (by kernel_rfl) rfl #[] rfl (by (try simp only [List.map_toArray, List.map_cons, List.map_nil]); first | done | rfl | (simp only [List.length_drop, List.length_take]; rfl)) ?_; (with_reducible refine (annuletlaw28_awake.calls kj4  t300 _ A9.out).mono ?_); rintro e w10 ⟨rfl, hb⟩; refine ⟨_, rfl, ?_⟩; have n0_ := Aside0.mk (blk_below (g := gb299) (o := .cells #[.int .u64 a0_0, .int .u16 a0_1] 26 (0, 0)) (by (with_reducible repeat (first | refine blk_drewN ?_ _ | refine blk_drew ?_ | refine blk_alloc ?_ _)); exact BK299.out) hb); have n1_ := Aside0.mk (below_step (by repeat (first | (with_reducible first | exact HB.out | apply below_alloc | apply pw_below_drewN | apply below_drew1 | refine below_set ?_ GE299.out) | exact HB.out)) hb); clear BK299; clear HB; have BK299 := n0_; have HB := n1_; clear n0_ n1_; (try clear hb); (try clear hb2); (try clear hk); (try clear hi)))
    go_ret
    exact ⟨by first | rfl | (simp [errW_none, errW_some] <;> rfl) | (simp [*, errW_none, errW_some] <;> rfl), by repeat (first | (with_reducible first | exact HB.out | apply below_alloc | apply pw_below_drewN | apply below_drew1 | refine below_set ?_ GE299.out) | exact HB.out)⟩
   ·replace c8 := Bool.eq_false_iff.mpr c8
    subst c8
    have H1 : ((fings_Hops.f a0_0 a0_1 l1 l2 a3 200).bind fun t301 => (annuletlaw28_FingsNear.l0 kj4 a3 t301 0 a0_0 a0_1)) = some r := by rw [if_neg (show ¬ (false = true) by decide)] at H; exact H
    clear H
    have H := H1
    clear H1
    replace H := Option.bind_eq_some_iff.mp H
    obtain ⟨t301, A110, H⟩ := H
    replace H : (annuletlaw28_FingsNear.l0 kj4 a3 t301 0 a0_0 a0_1) = some r := H
    have A11 := Aside0.mk A110
    clear A110
    have H' := Aside0.mk H
    clear H
    obtain ⟨hcz12_0, hcz12_1, hfz12_0, hfz12_1⟩ := box2f (w := wc) (g := gb299) BK299.out
    go_wp2_with (first | ((with_reducible refine gate_callee (f := 15) rfl ?_); refine goesL_ (some 25) rfl rfl Try.func15 (by kernel_rfl) rfl #[.agg #[.int .u64 a0_0, .int .u16 a0_1], .slice A1 l1.length c1, .slice A2 l2.length c2, .int .u64 a3, .int .i64 200] rfl (by (try simp only [List.map_toArray, List.map_cons, List.map_nil]); first | done | rfl | (simp only [List.length_drop, List.length_take]; rfl)) ?_; (with_reducible refine (fings_Hops.calls a0_0 a0_1 _ _ l1 _ _ l2 a3 200 t301 _ ?side1 ?side2 ?side3 ?side4 A11.out).mono ?_); (case side1 => repeat (first | exact (Kd.C_below HR1.out HB.out) | (with_reducible refine Kd.C_alloc ?_ _) | (with_reducible refine Kd.C_drewN ?_ _) | (with_reducible refine Kd.C_drew ?_))); (case side2 => exact HC1.out); (case side3 => repeat (first | exact (Kd.C_below HR2.out HB.out) | (with_reducible refine Kd.C_alloc ?_ _) | (with_reducible refine Kd.C_drewN ?_ _) | (with_reducible refine Kd.C_drew ?_))); (case side4 => exact HC2.out); rintro e w13 ⟨v302, rfl, ho0, hb⟩; refine ⟨_, rfl, ?_⟩; have n0_ := Aside0.mk (Kd.R_lower (Kd.R_newB ho0 (g := gb299) (o := .cells #[.int .u64 a0_0, .int .u16 a0_1] 26 (0, 0)) (by (with_reducible repeat (first | refine blk_drewN ?_ _ | refine blk_drew ?_ | refine blk_alloc ?_ _)); exact BK299.out)) (below_size (by repeat (first | (with_reducible first | exact HB.out | apply below_alloc | apply pw_below_drewN | apply below_drew1 | refine below_set ?_ GE299.out) | exact HB.out)))); have n1_ := Aside0.mk (blk_below (g := gb299) (o := .cells #[.int .u64 a0_0, .int .u16 a0_1] 26 (0, 0)) (by (with_reducible repeat (first | refine blk_drewN ?_ _ | refine blk_drew ?_ | refine blk_alloc ?_ _)); exact BK299.out) hb); have n2_ := Aside0.mk (below_step (by repeat (first | (with_reducible first | exact HB.out | apply below_alloc | apply pw_below_drewN | apply below_drew1 | refine below_set ?_ GE299.out) | exact HB.out)) hb); clear BK299; clear HB; have HO303 := n0_; have BK299 := n1_; have HB := n2_; clear n0_ n1_ n2_; (try clear hb); (try clear hb2); (try clear hk); (try clear hi); (try clear ho0)))
    go_loopg [10] kj4 (fun kq v10 w' => ∃ (x10_2 : Int), v10 = .int .i64 x10_2 ∧ Aside0 (annuletlaw28_FingsNear.l0 kq a3 t301 x10_2 a0_0 a0_1 = some r) ∧ Aside0 (kq ≤ kj4) ∧ Aside0 (Kd.R k26 26 w' w.heap.size (fun k_ => k_ ≠ gb299) v302 t301) ∧ Aside0 (w'.heap[gb299]? = some (.cells #[.int .u64 a0_0, .int .u16 a0_1] 26 (0, 0))) ∧ Aside0 (Below w.heap.size w w'))
    case atStart => exact ⟨(0), (by first | rfl | (simp; done) | (simp [*]; done)), H', ⟨Nat.le_refl _⟩, ⟨by (with_reducible repeat (first | apply Kd.R_alloc | apply Kd.R_drewN | apply Kd.R_drew)); exact Kd.R_mono HO303.out (fun _ hk => hk.2)⟩, ⟨by (with_reducible repeat (first | refine blk_drewN ?_ _ | refine blk_drew ?_ | refine blk_alloc ?_ _)); exact BK299.out⟩, ⟨by repeat (first | (with_reducible first | exact HB.out | apply below_alloc | apply pw_below_drewN | apply below_drew1 | refine below_set ?_ GE299.out) | exact HB.out)⟩⟩
    case round =>
     clear H'
     try clear c1
     try clear c2
     try clear p2
     try clear c5
     try clear c6
     try clear c7
     try clear c7b0
     try clear c7b1
     try clear c8
     try clear hcz12_0
     try clear hcz12_1
     try clear hfz12_0
     try clear hfz12_1
     try clear p2
     obtain ⟨x10_2, rfl, HA, HK2, HO_9, BK299, HB⟩ := hrel
     cases gk with
     | zero => exact absurd HA.out (by simp [annuletlaw28_FingsNear.l0])
     | succ k2 =>
      have H := HA.out
      clear HA
      simp only [annuletlaw28_FingsNear.l0] at H
      by_cases c14 : x10_2 < (t301.length : Int)
      ·rw [if_pos c14] at H
       have c14b0 : decide (x10_2 < (t301.length : Int)) = true := decide_eq_true c14
       clear c14
       have HC15 := Aside0.mk H
       clear H
       obtain ⟨Ao16, co16, eo16⟩ := Kd.R_slice HO_9.out
       subst eo16
       go_upto_region 7 with (fail)
       go_cut [63] (fun v63 wc => ∃ (kq : Nat) (x63_14 : Bool), v63 = .bool x63_14 ∧ Aside0 (annuletlaw28_FingsNear.j2 kq a3 t301 x10_2 x63_14 a0_0 a0_1 = some r) ∧ Aside0 (kq ≤ k2) ∧ Aside0 (Kd.R k26 26 wc w.heap.size (fun k_ => k_ ≠ gb299) (.slice Ao16 t301.length co16) t301) ∧ Aside0 (wc.heap[gb299]? = some (.cells #[.int .u64 a0_0, .int .u16 a0_1] 26 (0, 0))) ∧ Aside0 (Below w.heap.size w wc))
       case first =>
        have H := HC15.out
        clear HC15
        by_cases c17 : 0 ≤ x10_2
        ·rw [if_pos c17] at H
         have c17b0 : decide (0 ≤ x10_2) = true := decide_eq_true c17
         clear c17
         (first | rw [c17b0] | (simp only [i64_w, i32_w]; rw [c17b0]) | skip)
         replace H := Option.bind_eq_some_iff.mp H
         obtain ⟨t306, A180, H⟩ := H
         replace H : (if t306 = true then (if x10_2 > 0 then (if 0 ≤ (wrap64 (x10_2 - 1)) then (if (wrap64 (x10_2 - 1)) < (t301.length : Int) then ((ring_Dist.f ((rd_T26 t301 (wrap64 (x10_2 - 1))).f0) a3).bind fun t308 => ((ring_Dist.f ((rd_T26 t301 x10_2).f0) a3).bind fun t310 => (annuletlaw28_FingsNear.j2 k2 a3 t301 x10_2 (decide (t308 > t310)) a0_0 a0_1))) else (none)) else (none)) else (annuletlaw28_FingsNear.j2 k2 a3 t301 x10_2 false a0_0 a0_1)) else (annuletlaw28_FingsNear.j2 k2 a3 t301 x10_2 true a0_0 a0_1)) = some r := H
         have A18 := Aside0.mk A180
         clear A180
         by_cases c19 : t306 = true
         ·subst c19
          have H1 : (if x10_2 > 0 then (if 0 ≤ (wrap64 (x10_2 - 1)) then (if (wrap64 (x10_2 - 1)) < (t301.length : Int) then ((ring_Dist.f ((rd_T26 t301 (wrap64 (x10_2 - 1))).f0) a3).bind fun t308 => ((ring_Dist.f ((rd_T26 t301 x10_2).f0) a3).bind fun t310 => (annuletlaw28_FingsNear.j2 k2 a3 t301 x10_2 (decide (t308 > t310)) a0_0 a0_1))) else (none)) else (none)) else (annuletlaw28_FingsNear.j2 k2 a3 t301 x10_2 false a0_0 a0_1)) = some r := by rw [if_pos rfl] at H; exact H
          clear H
          have H := H1
          clear H1
          by_cases c20 : x10_2 > 0
          ·rw [if_pos c20] at H
           have c20b0 : decide (0 < x10_2) = true := decide_eq_true c20
           clear c20
           obtain ⟨ji21, hji21⟩ : ∃ j_ : Int, (wrap64 (x10_2 - 1)) = j_ := ⟨_, rfl⟩
           replace H : (if 0 ≤ (ji21) then (if (ji21) < (t301.length : Int) then ((ring_Dist.f ((rd_T26 t301 (ji21)).f0) a3).bind fun t308 => ((ring_Dist.f ((rd_T26 t301 x10_2).f0) a3).bind fun t310 => (annuletlaw28_FingsNear.j2 k2 a3 t301 x10_2 (decide (t308 > t310)) a0_0 a0_1))) else (none)) else (none)) = some r := by first | (rw [hji21] at H; exact H) | (simp only [hji21] at H ⊢; exact H)
           (try rw [hji21] at A18)
           have hji21w : (IntKind.i64.wrap (x10_2 - 1)) = ji21 := (i64_w _).trans hji21
           by_cases c22 : 0 ≤ (ji21)
           ·rw [if_pos c22] at H
            have c22b0 : decide (0 ≤ (ji21)) = true := decide_eq_true c22
            clear c22
            by_cases c23 : (ji21) < (t301.length : Int)
            ·rw [if_pos c23] at H
             have c23b0 : decide ((ji21) < (t301.length : Int)) = true := decide_eq_true c23
             clear c23
             replace H := Option.bind_eq_some_iff.mp H
             obtain ⟨t308, A240, H⟩ := H
             replace H : ((ring_Dist.f ((rd_T26 t301 x10_2).f0) a3).bind fun t310 => (annuletlaw28_FingsNear.j2 k2 a3 t301 x10_2 (decide (t308 > t310)) a0_0 a0_1)) = some r := H
             have A24 := Aside0.mk A240
             clear A240
             replace H := Option.bind_eq_some_iff.mp H
             obtain ⟨t310, A250, H⟩ := H
             replace H : (annuletlaw28_FingsNear.j2 k2 a3 t301 x10_2 (decide (t308 > t310)) a0_0 a0_1) = some r := H
             have A25 := Aside0.mk A250
             clear A250
             have H' := Aside0.mk H
             clear H
             try go_wp2
             have n0_ := Aside0.mk (Kd.R_drew HO_9.out)
             have n1_ := Aside0.mk (blk_drew BK299.out)
             have n2_ := Aside0.mk (below_drew1 HB.out)
             clear HO_9
             clear BK299
             clear HB
             have HO_9 := n0_
             have BK299 := n1_
             have HB := n2_
             clear n0_ n1_ n2_
             have p305 : 0 ≤ (x10_2 : Int) := of_decide_eq_true (by first | (with_reducible assumption) | assumption)
             have q305 : x10_2 < (t301.length : Int) := of_decide_eq_true (by first | (with_reducible assumption) | assumption)
             obtain ⟨ad305, e305, hx305_0, hx305_1⟩ := at_T26 (Kd.R_reads' HO_9.out).2.2 x10_2 p305 q305
             cases e305
             replace p305 := eq_true p305
             replace q305 := eq_true q305
             have p307 : 0 ≤ ((ji21) : Int) := of_decide_eq_true (by first | (with_reducible assumption) | assumption)
             have q307 : (ji21) < (t301.length : Int) := of_decide_eq_true (by first | (with_reducible assumption) | assumption)
             obtain ⟨ad307, e307, hx307_0, hx307_1⟩ := at_T26 (Kd.R_reads' HO_9.out).2.2 (ji21) p307 q307
             obtain rfl : ad305 = ad307 := (by injection e307)
             replace p307 := eq_true p307
             replace q307 := eq_true q307
             have p309 : 0 ≤ (x10_2 : Int) := of_decide_eq_true (by first | (with_reducible assumption) | assumption)
             have q309 : x10_2 < (t301.length : Int) := of_decide_eq_true (by first | (with_reducible assumption) | assumption)
             obtain ⟨ad309, e309, hx309_0, hx309_1⟩ := at_T26 (Kd.R_reads' HO_9.out).2.2 x10_2 p309 q309
             obtain rfl : ad305 = ad309 := (by injection e309)
             replace p309 := eq_true p309
             replace q309 := eq_true q309
             refine start_ (n := 32) (S := fun w' => w'.cell? ⟨gb299, 0, none⟩ = some (.int .u64 a0_0) ∧ w'.cell? ⟨gb299, 1, none⟩ = some (.int .u16 a0_1) ∧ w'.cell? (ad305.add ((x10_2).toNat * 2)) = some (.int .u64 ((rd_T26 t301 x10_2).f0)) ∧ w'.cell? ⟨(ad305.add ((x10_2).toNat * 2)).block, (ad305.add ((x10_2).toNat * 2)).off + 1, none⟩ = some (.int .u16 ((rd_T26 t301 x10_2).f1)) ∧ w'.cell? (ad305.add (((ji21)).toNat * 2)) = some (.int .u64 ((rd_T26 t301 (ji21)).f0)) ∧ w'.cell? ⟨(ad305.add (((ji21)).toNat * 2)).block, (ad305.add (((ji21)).toNat * 2)).off + 1, none⟩ = some (.int .u16 ((rd_T26 t301 (ji21)).f1)) ∧ w'.cell? (ad305.add ((x10_2).toNat * 2)) = some (.int .u64 ((rd_T26 t301 x10_2).f0)) ∧ w'.cell? ⟨(ad305.add ((x10_2).toNat * 2)).block, (ad305.add ((x10_2).toNat * 2)).off + 1, none⟩ = some (.int .u16 ((rd_T26 t301 x10_2).f1))) (ds := []) #[F',F',F',F',F',F',F',F',F',F',F',F',F',F',F',F',F',F',F',F',F',F',F',F',F',F',F',F',F',F',F',F'] (by kernel_rfl) rfl rfl ⟨(blk_cell BK299.out 0).trans rfl, (blk_cell BK299.out 1).trans rfl, hx305_0, hx305_1, hx307_0, hx307_1, hx309_0, hx309_1⟩ (fun hHeld => ?_); refine with_tabW annuletlaw28_FingsNear.tab7 annuletlaw28_FingsNear.bits7 (fun HT_ HW_ => ?_)
             generalize wr.drew = w26 at HO_9 BK299 HB hx305_0 hx305_1 hx307_0 hx307_1 hx309_0 hx309_1 hHeld ⊢
             refine pure_ (i := 0) (N := some 32) (v := ?_) (a' := ?_) #[T',F',F',F',F',F',F',F',F',F',F',F',F',F',F',F',F',F',F',F',F',F',F',F',F',F',F',F',F',F',F',F'] rfl rfl (any_of HT_.out (by kernel_rfl)) (fun _ _ _ h => h) (Or.inl ⟨by rfl, ?_⟩) ?_ ?_
             rotate_left
             ·intro w'
              go_simp
              with_reducible rfl
             rotate_left
             ·simp only [Act.put, la_, lz_, ls_, i64_w, i32_w]
              rfl
             refine pure_ (i := 2) (N := some 34) (v := ?_) (a' := ?_) #[T',F',T',F',F',F',F',F',F',F',F',F',F',F',F',F',F',F',F',F',F',F',F',F',F',F',F',F',F',F',F',F'] rfl rfl (any_of HT_.out (by kernel_rfl)) (fun _ _ _ h => h) (Or.inl ⟨by rfl, ?_⟩) ?_ ?_
             rotate_left
             ·intro w'
              go_simp
              with_reducible rfl
             rotate_left
             ·simp only [Act.put, la_, lz_, ls_, i64_w, i32_w]
              rfl
             refine pure_ (i := 3) (N := some 35) (v := ?_) (a' := ?_) #[T',F',T',T',F',F',F',F',F',F',F',F',F',F',F',F',F',F',F',F',F',F',F',F',F',F',F',F',F',F',F',F'] rfl rfl (any_of HT_.out (by kernel_rfl)) (fun _ _ _ h => h) (Or.inl ⟨by rfl, ?_⟩) ?_ ?_
             rotate_left
             ·intro w'
              go_simp
              with_reducible rfl
             rotate_left
             ·simp only [Act.put, la_, lz_, ls_, i64_w, i32_w]
              rfl
             refine pure_ (i := 4) (N := some 36) (v := ?_) (a' := ?_) #[T',F',T',T',T',F',F',F',F',F',F',F',F',F',F',F',F',F',F',F',F',F',F',F',F',F',F',F',F',F',F',F'] rfl rfl (any_of HT_.out (by kernel_rfl)) (fun _ _ _ h => h) (Or.inl ⟨by rfl, ?_⟩) ?_ ?_
             rotate_left
             ·intro w'
              go_simp
              with_reducible rfl
             rotate_left
             ·simp only [Act.put, la_, lz_, ls_, i64_w, i32_w]
              rfl
             refine pure_ (i := 5) (N := some 37) (v := ?_) (a' := ?_) #[T',F',T',T',T',T',F',F',F',F',F',F',F',F',F',F',F',F',F',F',F',F',F',F',F',F',F',F',F',F',F',F'] rfl rfl (any_of HT_.out (by kernel_rfl)) (fun _ _ _ h => h) (Or.inl ⟨by rfl, ?_⟩) ?_ ?_
             rotate_left
             ·intro w'
              go_simp
              with_reducible rfl
             rotate_left
             ·simp only [Act.put, la_, lz_, ls_, i64_w, i32_w]
              rfl
             refine pure_ (i := 7) (N := some 39) (v := ?_) (a' := ?_) #[T',F',T',T',T',T',F',T',F',F',F',F',F',F',F',F',F',F',F',F',F',F',F',F',F',F',F',F',F',F',F',F'] rfl rfl (any_of HT_.out (by kernel_rfl)) (fun _ _ _ h => h) (Or.inl ⟨by rfl, ?_⟩) ?_ ?_
             rotate_left
             ·intro w'
              go_simp
              with_reducible rfl
             rotate_left
             ·simp only [Act.put, la_, lz_, ls_, i64_w, i32_w]
              rfl
             refine take_ (i := 1) (N := some 33) (v := ?_) (a' := ?_) #[T',T',T',T',T',T',F',T',F',F',F',F',F',F',F',F',F',F',F',F',F',F',F',F',F',F',F',F',F',F',F',F'] rfl rfl (take_ofW HT_.out HW_.out (by kernel_rfl)) (fun _ _ _ h => h) (Or.inl ⟨by rfl, ?_⟩) hHeld ?_ ?_
             rotate_left
             ·rintro w' ⟨s0, s1, s2, s3, s4, s5, s6, s7⟩
              go_simp
              with_reducible rfl
             rotate_left
             ·simp only [Act.put, la_, lz_, ls_, i64_w, i32_w]
              rfl
             refine take_ (i := 6) (N := some 38) (v := ?_) (a' := ?_) #[T',T',T',T',T',T',T',T',F',F',F',F',F',F',F',F',F',F',F',F',F',F',F',F',F',F',F',F',F',F',F',F'] rfl rfl (take_ofW HT_.out HW_.out (by kernel_rfl)) (fun _ _ _ h => h) (Or.inl ⟨by rfl, ?_⟩) hHeld ?_ ?_
             rotate_left
             ·rintro w' ⟨s0, s1, s2, s3, s4, s5, s6, s7⟩
              go_simp
              with_reducible rfl
             rotate_left
             ·simp only [Act.put, la_, lz_, ls_, i64_w, i32_w]
              rfl
             refine one_ (i := 8) (N := some 40) #[T',T',T',T',T',T',T',T',T',F',F',F',F',F',F',F',F',F',F',F',F',F',F',F',F',F',F',F',F',F',F',F'] rfl rfl (one_of HT_.out (by kernel_rfl)) (by decide) (fun K hK => ?_)
             refine goes_ Try.func17 (by kernel_rfl) rfl #[.int .u64 a0_0, .int .u64 ((rd_T26 t301 x10_2).f0), .int .u64 a3] (by rfl) rfl rfl (by (try simp only [List.map_toArray, List.map_cons, List.map_nil]); first | done | rfl | (simp only [List.length_drop, List.length_take]; rfl)) ?_
             with_reducible refine (ring_Between.calls a0_0 ((rd_T26 t301 x10_2).f0) a3 true _ A18.out).mono ?_
             rintro e w' ⟨rfl, ⟨nd, rfl⟩⟩
             refine ⟨_, rfl, ?_⟩
             refine hK.out _ _ ⟨(blk_cell BK299.out 0).trans rfl, (blk_cell BK299.out 1).trans rfl, hHeld.2.2.1, hHeld.2.2.2.1, hHeld.2.2.2.2.1, hHeld.2.2.2.2.2.1, hHeld.2.2.2.2.2.2.1, hHeld.2.2.2.2.2.2.2⟩ (fun hHeld => ?_)
             clear hK K
             refine norm_ (a' := ?_) ?_ ?_
             rotate_left
             ·show Act.put _ (some 40) _ = _
              simp only [Act.put, la_, lz_, ls_, i64_w, i32_w]
              rfl
             refine pure_ (i := 9) (N := some 41) (v := ?_) (a' := ?_) #[T',T',T',T',T',T',T',T',T',T',F',F',F',F',F',F',F',F',F',F',F',F',F',F',F',F',F',F',F',F',F',F'] rfl rfl (any_of HT_.out (by kernel_rfl)) (fun _ _ _ h => h) (Or.inl ⟨by rfl, ?_⟩) ?_ ?_
             rotate_left
             ·intro w'
              go_simp
              with_reducible rfl
             rotate_left
             ·simp only [Act.put, la_, lz_, ls_, i64_w, i32_w]
              rfl
             refine pure_ (i := 10) (N := some 42) (v := ?_) (a' := ?_) #[T',T',T',T',T',T',T',T',T',T',T',F',F',F',F',F',F',F',F',F',F',F',F',F',F',F',F',F',F',F',F',F'] rfl rfl (any_of HT_.out (by kernel_rfl)) (fun _ _ _ h => h) (Or.inl ⟨by rfl, ?_⟩) ?_ ?_
             rotate_left
             ·intro w'
              go_simp
              with_reducible rfl
             rotate_left
             ·simp only [Act.put, la_, lz_, ls_, i64_w, i32_w]
              rfl
             refine pure_ (i := 11) (N := some 43) (v := ?_) (a' := ?_) #[T',T',T',T',T',T',T',T',T',T',T',T',F',F',F',F',F',F',F',F',F',F',F',F',F',F',F',F',F',F',F',F'] rfl rfl (any_of HT_.out (by kernel_rfl)) (fun _ _ _ h => h) (Or.inl ⟨by rfl, ?_⟩) ?_ ?_
             rotate_left
             ·intro w'
              go_simp
              with_reducible rfl
             rotate_left
             ·simp only [Act.put, la_, lz_, ls_, i64_w, i32_w]
              rfl
             refine pure_ (i := 12) (N := some 44) (v := ?_) (a' := ?_) #[T',T',T',T',T',T',T',T',T',T',T',T',T',F',F',F',F',F',F',F',F',F',F',F',F',F',F',F',F',F',F',F'] rfl rfl (any_of HT_.out (by kernel_rfl)) (fun _ _ _ h => h) (Or.inl ⟨by rfl, ?_⟩) ?_ ?_
             rotate_left
             ·intro w'
              go_simp
              with_reducible rfl
             rotate_left
             ·simp only [Act.put, la_, lz_, ls_, i64_w, i32_w]
              rfl
             refine pure_ (i := 13) (N := some 45) (v := ?_) (a' := ?_) #[T',T',T',T',T',T',T',T',T',T',T',T',T',T',F',F',F',F',F',F',F',F',F',F',F',F',F',F',F',F',F',F'] rfl rfl (any_of HT_.out (by kernel_rfl)) (fun _ _ _ h => h) (Or.inl ⟨by rfl, ?_⟩) ?_ ?_
             rotate_left
             ·intro w'
              go_simp
              with_reducible rfl
             rotate_left
             ·simp only [Act.put, la_, lz_, ls_, i64_w, i32_w]
              rfl
             refine pure_ (i := 14) (N := some 46) (v := ?_) (a' := ?_) #[T',T',T',T',T',T',T',T',T',T',T',T',T',T',T',F',F',F',F',F',F',F',F',F',F',F',F',F',F',F',F',F'] rfl rfl (any_of HT_.out (by kernel_rfl)) (fun _ _ _ h => h) (Or.inl ⟨by rfl, ?_⟩) ?_ ?_
             rotate_left
             ·intro w'
              go_simp
              with_reducible rfl
             rotate_left
             ·simp only [Act.put, la_, lz_, ls_, i64_w, i32_w]
              rfl
             refine pure_ (i := 15) (N := some 47) (v := ?_) (a' := ?_) #[T',T',T',T',T',T',T',T',T',T',T',T',T',T',T',T',F',F',F',F',F',F',F',F',F',F',F',F',F',F',F',F'] rfl rfl (any_of HT_.out (by kernel_rfl)) (fun _ _ _ h => h) (Or.inl ⟨by rfl, ?_⟩) ?_ ?_
             rotate_left
             ·intro w'
              go_simp
              with_reducible rfl
             rotate_left
             ·simp only [Act.put, la_, lz_, ls_, i64_w, i32_w]
              rfl
             refine pure_ (i := 16) (N := some 48) (v := ?_) (a' := ?_) #[T',T',T',T',T',T',T',T',T',T',T',T',T',T',T',T',T',F',F',F',F',F',F',F',F',F',F',F',F',F',F',F'] rfl rfl (any_of HT_.out (by kernel_rfl)) (fun _ _ _ h => h) (Or.inl ⟨by rfl, ?_⟩) ?_ ?_
             rotate_left
             ·intro w'
              go_simp
              with_reducible rfl
             rotate_left
             ·simp only [Act.put, la_, lz_, ls_, i64_w, i32_w]
              rfl
             refine pure_ (i := 17) (N := some 49) (v := ?_) (a' := ?_) #[T',T',T',T',T',T',T',T',T',T',T',T',T',T',T',T',T',T',F',F',F',F',F',F',F',F',F',F',F',F',F',F'] rfl rfl (any_of HT_.out (by kernel_rfl)) (fun _ _ _ h => h) (Or.inl ⟨by rfl, ?_⟩) ?_ ?_
             rotate_left
             ·intro w'
              go_simp
              with_reducible rfl
             rotate_left
             ·simp only [Act.put, la_, lz_, ls_, i64_w, i32_w]
              rfl
             refine pure_ (i := 18) (N := some 50) (v := ?_) (a' := ?_) #[T',T',T',T',T',T',T',T',T',T',T',T',T',T',T',T',T',T',T',F',F',F',F',F',F',F',F',F',F',F',F',F'] rfl rfl (any_of HT_.out (by kernel_rfl)) (fun _ _ _ h => h) (Or.inl ⟨by rfl, ?_⟩) ?_ ?_
             rotate_left
             ·intro w'
              go_simp
              with_reducible rfl
             rotate_left
             ·simp only [Act.put, la_, lz_, ls_, i64_w, i32_w]
              rfl
             refine pure_ (i := 20) (N := some 52) (v := ?_) (a' := ?_) #[T',T',T',T',T',T',T',T',T',T',T',T',T',T',T',T',T',T',T',F',T',F',F',F',F',F',F',F',F',F',F',F'] rfl rfl (any_of HT_.out (by kernel_rfl)) (fun _ _ _ h => h) (Or.inl ⟨by rfl, ?_⟩) ?_ ?_
             rotate_left
             ·intro w'
              go_simp
              with_reducible rfl
             rotate_left
             ·simp only [Act.put, la_, lz_, ls_, i64_w, i32_w]
              rfl
             refine pure_ (i := 22) (N := some 54) (v := ?_) (a' := ?_) #[T',T',T',T',T',T',T',T',T',T',T',T',T',T',T',T',T',T',T',F',T',F',T',F',F',F',F',F',F',F',F',F'] rfl rfl (any_of HT_.out (by kernel_rfl)) (fun _ _ _ h => h) (Or.inl ⟨by rfl, ?_⟩) ?_ ?_
             rotate_left
             ·intro w'
              go_simp
              with_reducible rfl
             rotate_left
             ·simp only [Act.put, la_, lz_, ls_, i64_w, i32_w]
              rfl
             refine pure_ (i := 23) (N := some 55) (v := ?_) (a' := ?_) #[T',T',T',T',T',T',T',T',T',T',T',T',T',T',T',T',T',T',T',F',T',F',T',T',F',F',F',F',F',F',F',F'] rfl rfl (any_of HT_.out (by kernel_rfl)) (fun _ _ _ h => h) (Or.inl ⟨by rfl, ?_⟩) ?_ ?_
             rotate_left
             ·intro w'
              go_simp
              with_reducible rfl
             rotate_left
             ·simp only [Act.put, la_, lz_, ls_, i64_w, i32_w]
              rfl
             refine pure_ (i := 24) (N := some 56) (v := ?_) (a' := ?_) #[T',T',T',T',T',T',T',T',T',T',T',T',T',T',T',T',T',T',T',F',T',F',T',T',T',F',F',F',F',F',F',F'] rfl rfl (any_of HT_.out (by kernel_rfl)) (fun _ _ _ h => h) (Or.inl ⟨by rfl, ?_⟩) ?_ ?_
             rotate_left
             ·intro w'
              go_simp
              with_reducible rfl
             rotate_left
             ·simp only [Act.put, la_, lz_, ls_, i64_w, i32_w]
              rfl
             refine pure_ (i := 25) (N := some 57) (v := ?_) (a' := ?_) #[T',T',T',T',T',T',T',T',T',T',T',T',T',T',T',T',T',T',T',F',T',F',T',T',T',T',F',F',F',F',F',F'] rfl rfl (any_of HT_.out (by kernel_rfl)) (fun _ _ _ h => h) (Or.inl ⟨by rfl, ?_⟩) ?_ ?_
             rotate_left
             ·intro w'
              go_simp
              with_reducible rfl
             rotate_left
             ·simp only [Act.put, la_, lz_, ls_, i64_w, i32_w]
              rfl
             refine pure_ (i := 27) (N := some 59) (v := ?_) (a' := ?_) #[T',T',T',T',T',T',T',T',T',T',T',T',T',T',T',T',T',T',T',F',T',F',T',T',T',T',F',T',F',F',F',F'] rfl rfl (any_of HT_.out (by kernel_rfl)) (fun _ _ _ h => h) (Or.inl ⟨by rfl, ?_⟩) ?_ ?_
             rotate_left
             ·intro w'
              go_simp
              with_reducible rfl
             rotate_left
             ·simp only [Act.put, la_, lz_, ls_, i64_w, i32_w]
              rfl
             refine take_ (i := 19) (N := some 51) (v := ?_) (a' := ?_) #[T',T',T',T',T',T',T',T',T',T',T',T',T',T',T',T',T',T',T',T',T',F',T',T',T',T',F',T',F',F',F',F'] rfl rfl (take_ofW HT_.out HW_.out (by kernel_rfl)) (fun _ _ _ h => h) (Or.inl ⟨by rfl, ?_⟩) hHeld ?_ ?_
             rotate_left
             ·rintro w' ⟨s0, s1, s2, s3, s4, s5, s6, s7⟩
              go_simp
              with_reducible rfl
             rotate_left
             ·simp only [Act.put, la_, lz_, ls_, i64_w, i32_w]
              rfl
             refine take_ (i := 26) (N := some 58) (v := ?_) (a' := ?_) #[T',T',T',T',T',T',T',T',T',T',T',T',T',T',T',T',T',T',T',T',T',F',T',T',T',T',T',T',F',F',F',F'] rfl rfl (take_ofW HT_.out HW_.out (by kernel_rfl)) (fun _ _ _ h => h) (Or.inl ⟨by rfl, ?_⟩) hHeld ?_ ?_
             rotate_left
             ·rintro w' ⟨s0, s1, s2, s3, s4, s5, s6, s7⟩
              go_simp
              with_reducible rfl
             rotate_left
             ·simp only [Act.put, la_, lz_, ls_, i64_w, i32_w]
              rfl
             refine one_ (i := 21) (N := some 53) #[T',T',T',T',T',T',T',T',T',T',T',T',T',T',T',T',T',T',T',T',T',T',T',T',T',T',T',T',F',F',F',F'] rfl rfl (one_of HT_.out (by kernel_rfl)) (by decide) (fun K hK => ?_)
             refine goes_ Try.func18 (by kernel_rfl) rfl #[.int .u64 ((rd_T26 t301 (ji21)).f0), .int .u64 a3] (by rfl) rfl rfl (by (try simp only [List.map_toArray, List.map_cons, List.map_nil]); first | done | (simp only [hji21]; rfl) | rfl | (simp only [List.length_drop, List.length_take]; rfl)) ?_
             with_reducible refine (ring_Dist.calls ((rd_T26 t301 (ji21)).f0) a3 t308 _ A24.out).mono ?_
             rintro e w' ⟨rfl, ⟨nd, rfl⟩⟩
             refine ⟨_, rfl, ?_⟩
             refine hK.out _ _ ⟨(blk_cell BK299.out 0).trans rfl, (blk_cell BK299.out 1).trans rfl, hHeld.2.2.1, hHeld.2.2.2.1, hHeld.2.2.2.2.1, hHeld.2.2.2.2.2.1, hHeld.2.2.2.2.2.2.1, hHeld.2.2.2.2.2.2.2⟩ (fun hHeld => ?_)
             clear hK K
             refine norm_ (a' := ?_) ?_ ?_
             rotate_left
             ·show Act.put _ (some 53) _ = _
              simp only [Act.put, la_, lz_, ls_, i64_w, i32_w]
              rfl
             refine one_ (i := 28) (N := some 60) #[T',T',T',T',T',T',T',T',T',T',T',T',T',T',T',T',T',T',T',T',T',T',T',T',T',T',T',T',T',F',F',F'] rfl rfl (one_of HT_.out (by kernel_rfl)) (by decide) (fun K hK => ?_)
             refine goes_ Try.func18 (by kernel_rfl) rfl #[.int .u64 ((rd_T26 t301 x10_2).f0), .int .u64 a3] (by rfl) rfl rfl (by (try simp only [List.map_toArray, List.map_cons, List.map_nil]); first | done | rfl | (simp only [List.length_drop, List.length_take]; rfl)) ?_
             with_reducible refine (ring_Dist.calls ((rd_T26 t301 x10_2).f0) a3 t310 _ A25.out).mono ?_
             rintro e w' ⟨rfl, ⟨nd, rfl⟩⟩
             refine ⟨_, rfl, ?_⟩
             refine hK.out _ _ ⟨(blk_cell BK299.out 0).trans rfl, (blk_cell BK299.out 1).trans rfl, hHeld.2.2.1, hHeld.2.2.2.1, hHeld.2.2.2.2.1, hHeld.2.2.2.2.2.1, hHeld.2.2.2.2.2.2.1, hHeld.2.2.2.2.2.2.2⟩ (fun hHeld => ?_)
             clear hK K
             refine norm_ (a' := ?_) ?_ ?_
             rotate_left
             ·show Act.put _ (some 60) _ = _
              simp only [Act.put, la_, lz_, ls_, i64_w, i32_w]
              rfl
             refine pure_ (i := 29) (N := some 61) (v := ?_) (a' := ?_) #[T',T',T',T',T',T',T',T',T',T',T',T',T',T',T',T',T',T',T',T',T',T',T',T',T',T',T',T',T',T',F',F'] rfl rfl (any_of HT_.out (by kernel_rfl)) (fun _ _ _ h => h) (Or.inl ⟨by rfl, ?_⟩) ?_ ?_
             rotate_left
             ·intro w'
              go_simp
              with_reducible rfl
             rotate_left
             ·simp only [Act.put, la_, lz_, ls_, i64_w, i32_w]
              rfl
             refine pure_ (i := 30) (N := some 62) (v := ?_) (a' := ?_) #[T',T',T',T',T',T',T',T',T',T',T',T',T',T',T',T',T',T',T',T',T',T',T',T',T',T',T',T',T',T',T',F'] rfl rfl (any_of HT_.out (by kernel_rfl)) (fun _ _ _ h => h) (Or.inl ⟨by rfl, ?_⟩) ?_ ?_
             rotate_left
             ·intro w'
              go_simp
              with_reducible rfl
             rotate_left
             ·simp only [Act.put, la_, lz_, ls_, i64_w, i32_w]
              rfl
             refine pure_ (i := 31) (N := some 63) (v := ?_) (a' := ?_) #[T',T',T',T',T',T',T',T',T',T',T',T',T',T',T',T',T',T',T',T',T',T',T',T',T',T',T',T',T',T',T',T'] rfl rfl (any_of HT_.out (by kernel_rfl)) (fun _ _ _ h => h) (Or.inl ⟨by rfl, ?_⟩) ?_ ?_
             rotate_left
             ·intro w'
              go_simp
              with_reducible rfl
             rotate_left
             ·simp only [Act.put, la_, lz_, ls_, i64_w, i32_w]
              rfl
             refine done_ (done_of HT_.out (by kernel_rfl)) ?_
             try go_wp2
             go_meet
             case rel => exact ⟨_, (decide (t308 > t310)), (by first | rfl | (simp; done) | (simp [*]; done)), H', ⟨by have := HJ4.out; have := HK2.out; first | omega | exact Nat.le_refl _⟩, ⟨by (with_reducible repeat (first | apply Kd.R_alloc | apply Kd.R_drewN | apply Kd.R_drew)); exact HO_9.out⟩, ⟨by (with_reducible repeat (first | refine blk_drewN ?_ _ | refine blk_drew ?_ | refine blk_alloc ?_ _)); exact BK299.out⟩, ⟨by repeat (first | (with_reducible first | exact HB.out | apply below_alloc | apply pw_below_drewN | apply below_drew1 | refine below_set ?_ GE299.out) | exact HB.out)⟩⟩
            ·rw [if_neg c23] at H
             exact absurd H (by simp)
           ·rw [if_neg c22] at H
            exact absurd H (by simp)
          ·rw [if_neg c20] at H
           have c20b0 : decide (0 < x10_2) = false := decide_eq_false c20
           clear c20
           have H' := Aside0.mk H
           clear H
           try go_wp2
           have n0_ := Aside0.mk (Kd.R_drew HO_9.out)
           have n1_ := Aside0.mk (blk_drew BK299.out)
           have n2_ := Aside0.mk (below_drew1 HB.out)
           clear HO_9
           clear BK299
           clear HB
           have HO_9 := n0_
           have BK299 := n1_
           have HB := n2_
           clear n0_ n1_ n2_
           have p305 : 0 ≤ (x10_2 : Int) := of_decide_eq_true (by first | (with_reducible assumption) | assumption)
           have q305 : x10_2 < (t301.length : Int) := of_decide_eq_true (by first | (with_reducible assumption) | assumption)
           obtain ⟨ad305, e305, hx305_0, hx305_1⟩ := at_T26 (Kd.R_reads' HO_9.out).2.2 x10_2 p305 q305
           cases e305
           replace p305 := eq_true p305
           replace q305 := eq_true q305
           refine start_ (n := 32) (S := fun w' => w'.cell? ⟨gb299, 0, none⟩ = some (.int .u64 a0_0) ∧ w'.cell? ⟨gb299, 1, none⟩ = some (.int .u16 a0_1) ∧ w'.cell? (ad305.add ((x10_2).toNat * 2)) = some (.int .u64 ((rd_T26 t301 x10_2).f0)) ∧ w'.cell? ⟨(ad305.add ((x10_2).toNat * 2)).block, (ad305.add ((x10_2).toNat * 2)).off + 1, none⟩ = some (.int .u16 ((rd_T26 t301 x10_2).f1))) (ds := []) #[F',F',F',F',F',F',F',F',F',F',F',F',F',F',F',F',F',F',F',F',F',F',F',F',F',F',F',F',F',F',F',F'] (by kernel_rfl) rfl rfl ⟨(blk_cell BK299.out 0).trans rfl, (blk_cell BK299.out 1).trans rfl, hx305_0, hx305_1⟩ (fun hHeld => ?_); refine with_tabW annuletlaw28_FingsNear.tab7 annuletlaw28_FingsNear.bits7 (fun HT_ HW_ => ?_)
           generalize wr.drew = w27 at HO_9 BK299 HB hx305_0 hx305_1 hHeld ⊢
           refine pure_ (i := 0) (N := some 32) (v := ?_) (a' := ?_) #[T',F',F',F',F',F',F',F',F',F',F',F',F',F',F',F',F',F',F',F',F',F',F',F',F',F',F',F',F',F',F',F'] rfl rfl (any_of HT_.out (by kernel_rfl)) (fun _ _ _ h => h) (Or.inl ⟨by rfl, ?_⟩) ?_ ?_
           rotate_left
           ·intro w'
            go_simp
            with_reducible rfl
           rotate_left
           ·simp only [Act.put, la_, lz_, ls_, i64_w, i32_w]
            rfl
           refine pure_ (i := 2) (N := some 34) (v := ?_) (a' := ?_) #[T',F',T',F',F',F',F',F',F',F',F',F',F',F',F',F',F',F',F',F',F',F',F',F',F',F',F',F',F',F',F',F'] rfl rfl (any_of HT_.out (by kernel_rfl)) (fun _ _ _ h => h) (Or.inl ⟨by rfl, ?_⟩) ?_ ?_
           rotate_left
           ·intro w'
            go_simp
            with_reducible rfl
           rotate_left
           ·simp only [Act.put, la_, lz_, ls_, i64_w, i32_w]
            rfl
           refine pure_ (i := 3) (N := some 35) (v := ?_) (a' := ?_) #[T',F',T',T',F',F',F',F',F',F',F',F',F',F',F',F',F',F',F',F',F',F',F',F',F',F',F',F',F',F',F',F'] rfl rfl (any_of HT_.out (by kernel_rfl)) (fun _ _ _ h => h) (Or.inl ⟨by rfl, ?_⟩) ?_ ?_
           rotate_left
           ·intro w'
            go_simp
            with_reducible rfl
           rotate_left
           ·simp only [Act.put, la_, lz_, ls_, i64_w, i32_w]
            rfl
           refine pure_ (i := 4) (N := some 36) (v := ?_) (a' := ?_) #[T',F',T',T',T',F',F',F',F',F',F',F',F',F',F',F',F',F',F',F',F',F',F',F',F',F',F',F',F',F',F',F'] rfl rfl (any_of HT_.out (by kernel_rfl)) (fun _ _ _ h => h) (Or.inl ⟨by rfl, ?_⟩) ?_ ?_
           rotate_left
           ·intro w'
            go_simp
            with_reducible rfl
           rotate_left
           ·simp only [Act.put, la_, lz_, ls_, i64_w, i32_w]
            rfl
           refine pure_ (i := 5) (N := some 37) (v := ?_) (a' := ?_) #[T',F',T',T',T',T',F',F',F',F',F',F',F',F',F',F',F',F',F',F',F',F',F',F',F',F',F',F',F',F',F',F'] rfl rfl (any_of HT_.out (by kernel_rfl)) (fun _ _ _ h => h) (Or.inl ⟨by rfl, ?_⟩) ?_ ?_
           rotate_left
           ·intro w'
            go_simp
            with_reducible rfl
           rotate_left
           ·simp only [Act.put, la_, lz_, ls_, i64_w, i32_w]
            rfl
           refine pure_ (i := 7) (N := some 39) (v := ?_) (a' := ?_) #[T',F',T',T',T',T',F',T',F',F',F',F',F',F',F',F',F',F',F',F',F',F',F',F',F',F',F',F',F',F',F',F'] rfl rfl (any_of HT_.out (by kernel_rfl)) (fun _ _ _ h => h) (Or.inl ⟨by rfl, ?_⟩) ?_ ?_
           rotate_left
           ·intro w'
            go_simp
            with_reducible rfl
           rotate_left
           ·simp only [Act.put, la_, lz_, ls_, i64_w, i32_w]
            rfl
           refine take_ (i := 1) (N := some 33) (v := ?_) (a' := ?_) #[T',T',T',T',T',T',F',T',F',F',F',F',F',F',F',F',F',F',F',F',F',F',F',F',F',F',F',F',F',F',F',F'] rfl rfl (take_ofW HT_.out HW_.out (by kernel_rfl)) (fun _ _ _ h => h) (Or.inl ⟨by rfl, ?_⟩) hHeld ?_ ?_
           rotate_left
           ·rintro w' ⟨s0, s1, s2, s3⟩
            go_simp
            with_reducible rfl
           rotate_left
           ·simp only [Act.put, la_, lz_, ls_, i64_w, i32_w]
            rfl
           refine take_ (i := 6) (N := some 38) (v := ?_) (a' := ?_) #[T',T',T',T',T',T',T',T',F',F',F',F',F',F',F',F',F',F',F',F',F',F',F',F',F',F',F',F',F',F',F',F'] rfl rfl (take_ofW HT_.out HW_.out (by kernel_rfl)) (fun _ _ _ h => h) (Or.inl ⟨by rfl, ?_⟩) hHeld ?_ ?_
           rotate_left
           ·rintro w' ⟨s0, s1, s2, s3⟩
            go_simp
            with_reducible rfl
           rotate_left
           ·simp only [Act.put, la_, lz_, ls_, i64_w, i32_w]
            rfl
           refine one_ (i := 8) (N := some 40) #[T',T',T',T',T',T',T',T',T',F',F',F',F',F',F',F',F',F',F',F',F',F',F',F',F',F',F',F',F',F',F',F'] rfl rfl (one_of HT_.out (by kernel_rfl)) (by decide) (fun K hK => ?_)
           refine goes_ Try.func17 (by kernel_rfl) rfl #[.int .u64 a0_0, .int .u64 ((rd_T26 t301 x10_2).f0), .int .u64 a3] (by rfl) rfl rfl (by (try simp only [List.map_toArray, List.map_cons, List.map_nil]); first | done | rfl | (simp only [List.length_drop, List.length_take]; rfl)) ?_
           with_reducible refine (ring_Between.calls a0_0 ((rd_T26 t301 x10_2).f0) a3 true _ A18.out).mono ?_
           rintro e w' ⟨rfl, ⟨nd, rfl⟩⟩
           refine ⟨_, rfl, ?_⟩
           refine hK.out _ _ ⟨(blk_cell BK299.out 0).trans rfl, (blk_cell BK299.out 1).trans rfl, hHeld.2.2.1, hHeld.2.2.2⟩ (fun hHeld => ?_)
           clear hK K
           refine norm_ (a' := ?_) ?_ ?_
           rotate_left
           ·show Act.put _ (some 40) _ = _
            simp only [Act.put, la_, lz_, ls_, i64_w, i32_w]
            rfl
           refine pure_ (i := 9) (N := some 41) (v := ?_) (a' := ?_) #[T',T',T',T',T',T',T',T',T',T',F',F',F',F',F',F',F',F',F',F',F',F',F',F',F',F',F',F',F',F',F',F'] rfl rfl (any_of HT_.out (by kernel_rfl)) (fun _ _ _ h => h) (Or.inl ⟨by rfl, ?_⟩) ?_ ?_
           rotate_left
           ·intro w'
            go_simp
            with_reducible rfl
           rotate_left
           ·simp only [Act.put, la_, lz_, ls_, i64_w, i32_w]
            rfl
           refine pure_ (i := 10) (N := some 42) (v := ?_) (a' := ?_) #[T',T',T',T',T',T',T',T',T',T',T',F',F',F',F',F',F',F',F',F',F',F',F',F',F',F',F',F',F',F',F',F'] rfl rfl (any_of HT_.out (by kernel_rfl)) (fun _ _ _ h => h) (Or.inl ⟨by rfl, ?_⟩) ?_ ?_
           rotate_left
           ·intro w'
            go_simp
            with_reducible rfl
           rotate_left
           ·simp only [Act.put, la_, lz_, ls_, i64_w, i32_w]
            rfl
           refine pure_ (i := 11) (N := some 43) (v := ?_) (a' := ?_) #[T',T',T',T',T',T',T',T',T',T',T',T',F',F',F',F',F',F',F',F',F',F',F',F',F',F',F',F',F',F',F',F'] rfl rfl (any_of HT_.out (by kernel_rfl)) (fun _ _ _ h => h) (Or.inl ⟨by rfl, ?_⟩) ?_ ?_
           rotate_left
           ·intro w'
            go_simp
            with_reducible rfl
           rotate_left
           ·simp only [Act.put, la_, lz_, ls_, i64_w, i32_w]
            rfl
           refine pure_ (i := 12) (N := some 44) (v := ?_) (a' := ?_) #[T',T',T',T',T',T',T',T',T',T',T',T',T',F',F',F',F',F',F',F',F',F',F',F',F',F',F',F',F',F',F',F'] rfl rfl (any_of HT_.out (by kernel_rfl)) (fun _ _ _ h => h) (Or.inl ⟨by rfl, ?_⟩) ?_ ?_
           rotate_left
           ·intro w'
            go_simp
            with_reducible rfl
           rotate_left
           ·simp only [Act.put, la_, lz_, ls_, i64_w, i32_w]
            rfl
           refine pure_ (i := 13) (N := some 45) (v := ?_) (a' := ?_) #[T',T',T',T',T',T',T',T',T',T',T',T',T',T',F',F',F',F',F',F',F',F',F',F',F',F',F',F',F',F',F',F'] rfl rfl (any_of HT_.out (by kernel_rfl)) (fun _ _ _ h => h) (Or.inl ⟨by rfl, ?_⟩) ?_ ?_
           rotate_left
           ·intro w'
            go_simp
            with_reducible rfl
           rotate_left
           ·simp only [Act.put, la_, lz_, ls_, i64_w, i32_w]
            rfl
           refine pure_ (i := 14) (N := some 46) (v := undef) (a' := ?_) #[T',T',T',T',T',T',T',T',T',T',T',T',T',T',T',F',F',F',F',F',F',F',F',F',F',F',F',F',F',F',F',F'] rfl rfl (any_of HT_.out (by kernel_rfl)) (fun _ _ _ h => h) (Or.inr ⟨by rfl, rfl⟩) ?_ ?_
           rotate_left
           ·simp only [Act.put, la_, lz_, ls_, i64_w, i32_w]
            rfl
           refine pure_ (i := 15) (N := some 47) (v := undef) (a' := ?_) #[T',T',T',T',T',T',T',T',T',T',T',T',T',T',T',T',F',F',F',F',F',F',F',F',F',F',F',F',F',F',F',F'] rfl rfl (any_of HT_.out (by kernel_rfl)) (fun _ _ _ h => h) (Or.inr ⟨by rfl, rfl⟩) ?_ ?_
           rotate_left
           ·simp only [Act.put, la_, lz_, ls_, i64_w, i32_w]
            rfl
           refine pure_ (i := 16) (N := some 48) (v := undef) (a' := ?_) #[T',T',T',T',T',T',T',T',T',T',T',T',T',T',T',T',T',F',F',F',F',F',F',F',F',F',F',F',F',F',F',F'] rfl rfl (any_of HT_.out (by kernel_rfl)) (fun _ _ _ h => h) (Or.inr ⟨by rfl, rfl⟩) ?_ ?_
           rotate_left
           ·simp only [Act.put, la_, lz_, ls_, i64_w, i32_w]
            rfl
           refine pure_ (i := 17) (N := some 49) (v := undef) (a' := ?_) #[T',T',T',T',T',T',T',T',T',T',T',T',T',T',T',T',T',T',F',F',F',F',F',F',F',F',F',F',F',F',F',F'] rfl rfl (any_of HT_.out (by kernel_rfl)) (fun _ _ _ h => h) (Or.inr ⟨by rfl, rfl⟩) ?_ ?_
           rotate_left
           ·simp only [Act.put, la_, lz_, ls_, i64_w, i32_w]
            rfl
           refine pure_ (i := 18) (N := some 50) (v := undef) (a' := ?_) #[T',T',T',T',T',T',T',T',T',T',T',T',T',T',T',T',T',T',T',F',F',F',F',F',F',F',F',F',F',F',F',F'] rfl rfl (any_of HT_.out (by kernel_rfl)) (fun _ _ _ h => h) (Or.inr ⟨by rfl, rfl⟩) ?_ ?_
           rotate_left
           ·simp only [Act.put, la_, lz_, ls_, i64_w, i32_w]
            rfl
           refine pure_ (i := 19) (N := some 51) (v := undef) (a' := ?_) #[T',T',T',T',T',T',T',T',T',T',T',T',T',T',T',T',T',T',T',T',F',F',F',F',F',F',F',F',F',F',F',F'] rfl rfl (any_of HT_.out (by kernel_rfl)) (fun _ _ _ h => h) (Or.inr ⟨by rfl, rfl⟩) ?_ ?_
           rotate_left
           ·simp only [Act.put, la_, lz_, ls_, i64_w, i32_w]
            rfl
           refine pure_ (i := 20) (N := some 52) (v := undef) (a' := ?_) #[T',T',T',T',T',T',T',T',T',T',T',T',T',T',T',T',T',T',T',T',T',F',F',F',F',F',F',F',F',F',F',F'] rfl rfl (any_of HT_.out (by kernel_rfl)) (fun _ _ _ h => h) (Or.inr ⟨by rfl, rfl⟩) ?_ ?_
           rotate_left
           ·simp only [Act.put, la_, lz_, ls_, i64_w, i32_w]
            rfl
           refine pure_ (i := 21) (N := some 53) (v := undef) (a' := ?_) #[T',T',T',T',T',T',T',T',T',T',T',T',T',T',T',T',T',T',T',T',T',T',F',F',F',F',F',F',F',F',F',F'] rfl rfl (any_of HT_.out (by kernel_rfl)) (fun _ _ _ h => h) (Or.inr ⟨by rfl, rfl⟩) ?_ ?_
           rotate_left
           ·simp only [Act.put, la_, lz_, ls_, i64_w, i32_w]
            rfl
           refine pure_ (i := 22) (N := some 54) (v := undef) (a' := ?_) #[T',T',T',T',T',T',T',T',T',T',T',T',T',T',T',T',T',T',T',T',T',T',T',F',F',F',F',F',F',F',F',F'] rfl rfl (any_of HT_.out (by kernel_rfl)) (fun _ _ _ h => h) (Or.inr ⟨by rfl, rfl⟩) ?_ ?_
           rotate_left
           ·simp only [Act.put, la_, lz_, ls_, i64_w, i32_w]
            rfl
           refine pure_ (i := 23) (N := some 55) (v := undef) (a' := ?_) #[T',T',T',T',T',T',T',T',T',T',T',T',T',T',T',T',T',T',T',T',T',T',T',T',F',F',F',F',F',F',F',F'] rfl rfl (any_of HT_.out (by kernel_rfl)) (fun _ _ _ h => h) (Or.inr ⟨by rfl, rfl⟩) ?_ ?_
           rotate_left
           ·simp only [Act.put, la_, lz_, ls_, i64_w, i32_w]
            rfl
           refine pure_ (i := 24) (N := some 56) (v := undef) (a' := ?_) #[T',T',T',T',T',T',T',T',T',T',T',T',T',T',T',T',T',T',T',T',T',T',T',T',T',F',F',F',F',F',F',F'] rfl rfl (any_of HT_.out (by kernel_rfl)) (fun _ _ _ h => h) (Or.inr ⟨by rfl, rfl⟩) ?_ ?_
           rotate_left
           ·simp only [Act.put, la_, lz_, ls_, i64_w, i32_w]
            rfl
           refine pure_ (i := 25) (N := some 57) (v := undef) (a' := ?_) #[T',T',T',T',T',T',T',T',T',T',T',T',T',T',T',T',T',T',T',T',T',T',T',T',T',T',F',F',F',F',F',F'] rfl rfl (any_of HT_.out (by kernel_rfl)) (fun _ _ _ h => h) (Or.inr ⟨by rfl, rfl⟩) ?_ ?_
           rotate_left
           ·simp only [Act.put, la_, lz_, ls_, i64_w, i32_w]
            rfl
           refine pure_ (i := 26) (N := some 58) (v := undef) (a' := ?_) #[T',T',T',T',T',T',T',T',T',T',T',T',T',T',T',T',T',T',T',T',T',T',T',T',T',T',T',F',F',F',F',F'] rfl rfl (any_of HT_.out (by kernel_rfl)) (fun _ _ _ h => h) (Or.inr ⟨by rfl, rfl⟩) ?_ ?_
           rotate_left
           ·simp only [Act.put, la_, lz_, ls_, i64_w, i32_w]
            rfl
           refine pure_ (i := 27) (N := some 59) (v := undef) (a' := ?_) #[T',T',T',T',T',T',T',T',T',T',T',T',T',T',T',T',T',T',T',T',T',T',T',T',T',T',T',T',F',F',F',F'] rfl rfl (any_of HT_.out (by kernel_rfl)) (fun _ _ _ h => h) (Or.inr ⟨by rfl, rfl⟩) ?_ ?_
           rotate_left
           ·simp only [Act.put, la_, lz_, ls_, i64_w, i32_w]
            rfl
           refine pure_ (i := 28) (N := some 60) (v := undef) (a' := ?_) #[T',T',T',T',T',T',T',T',T',T',T',T',T',T',T',T',T',T',T',T',T',T',T',T',T',T',T',T',T',F',F',F'] rfl rfl (any_of HT_.out (by kernel_rfl)) (fun _ _ _ h => h) (Or.inr ⟨by rfl, rfl⟩) ?_ ?_
           rotate_left
           ·simp only [Act.put, la_, lz_, ls_, i64_w, i32_w]
            rfl
           refine pure_ (i := 29) (N := some 61) (v := undef) (a' := ?_) #[T',T',T',T',T',T',T',T',T',T',T',T',T',T',T',T',T',T',T',T',T',T',T',T',T',T',T',T',T',T',F',F'] rfl rfl (any_of HT_.out (by kernel_rfl)) (fun _ _ _ h => h) (Or.inr ⟨by rfl, rfl⟩) ?_ ?_
           rotate_left
           ·simp only [Act.put, la_, lz_, ls_, i64_w, i32_w]
            rfl
           refine pure_ (i := 30) (N := some 62) (v := ?_) (a' := ?_) #[T',T',T',T',T',T',T',T',T',T',T',T',T',T',T',T',T',T',T',T',T',T',T',T',T',T',T',T',T',T',T',F'] rfl rfl (any_of HT_.out (by kernel_rfl)) (fun _ _ _ h => h) (Or.inl ⟨by rfl, ?_⟩) ?_ ?_
           rotate_left
           ·intro w'
            go_simp
            with_reducible rfl
           rotate_left
           ·simp only [Act.put, la_, lz_, ls_, i64_w, i32_w]
            rfl
           refine pure_ (i := 31) (N := some 63) (v := ?_) (a' := ?_) #[T',T',T',T',T',T',T',T',T',T',T',T',T',T',T',T',T',T',T',T',T',T',T',T',T',T',T',T',T',T',T',T'] rfl rfl (any_of HT_.out (by kernel_rfl)) (fun _ _ _ h => h) (Or.inl ⟨by rfl, ?_⟩) ?_ ?_
           rotate_left
           ·intro w'
            go_simp
            with_reducible rfl
           rotate_left
           ·simp only [Act.put, la_, lz_, ls_, i64_w, i32_w]
            rfl
           refine done_ (done_of HT_.out (by kernel_rfl)) ?_
           try go_wp2
           go_meet
           case rel => exact ⟨_, (false), (by first | rfl | (simp; done) | (simp [*]; done)), H', ⟨by have := HJ4.out; have := HK2.out; first | omega | exact Nat.le_refl _⟩, ⟨by (with_reducible repeat (first | apply Kd.R_alloc | apply Kd.R_drewN | apply Kd.R_drew)); exact HO_9.out⟩, ⟨by (with_reducible repeat (first | refine blk_drewN ?_ _ | refine blk_drew ?_ | refine blk_alloc ?_ _)); exact BK299.out⟩, ⟨by repeat (first | (with_reducible first | exact HB.out | apply below_alloc | apply pw_below_drewN | apply below_drew1 | refine below_set ?_ GE299.out) | exact HB.out)⟩⟩
         ·replace c19 := Bool.eq_false_iff.mpr c19
          subst c19
          have H1 : (annuletlaw28_FingsNear.j2 k2 a3 t301 x10_2 true a0_0 a0_1) = some r := by rw [if_neg (show ¬ (false = true) by decide)] at H; exact H
          clear H
          have H := H1
          clear H1
          have H' := Aside0.mk H
          clear H
          try go_wp2
          have n0_ := Aside0.mk (Kd.R_drew HO_9.out)
          have n1_ := Aside0.mk (blk_drew BK299.out)
          have n2_ := Aside0.mk (below_drew1 HB.out)
          clear HO_9
          clear BK299
          clear HB
          have HO_9 := n0_
          have BK299 := n1_
          have HB := n2_
          clear n0_ n1_ n2_
          have p305 : 0 ≤ (x10_2 : Int) := of_decide_eq_true (by first | (with_reducible assumption) | assumption)
          have q305 : x10_2 < (t301.length : Int) := of_decide_eq_true (by first | (with_reducible assumption) | assumption)
          obtain ⟨ad305, e305, hx305_0, hx305_1⟩ := at_T26 (Kd.R_reads' HO_9.out).2.2 x10_2 p305 q305
          cases e305
          replace p305 := eq_true p305
          replace q305 := eq_true q305
          refine start_ (n := 32) (S := fun w' => w'.cell? ⟨gb299, 0, none⟩ = some (.int .u64 a0_0) ∧ w'.cell? ⟨gb299, 1, none⟩ = some (.int .u16 a0_1) ∧ w'.cell? (ad305.add ((x10_2).toNat * 2)) = some (.int .u64 ((rd_T26 t301 x10_2).f0)) ∧ w'.cell? ⟨(ad305.add ((x10_2).toNat * 2)).block, (ad305.add ((x10_2).toNat * 2)).off + 1, none⟩ = some (.int .u16 ((rd_T26 t301 x10_2).f1))) (ds := []) #[F',F',F',F',F',F',F',F',F',F',F',F',F',F',F',F',F',F',F',F',F',F',F',F',F',F',F',F',F',F',F',F'] (by kernel_rfl) rfl rfl ⟨(blk_cell BK299.out 0).trans rfl, (blk_cell BK299.out 1).trans rfl, hx305_0, hx305_1⟩ (fun hHeld => ?_); refine with_tabW annuletlaw28_FingsNear.tab7 annuletlaw28_FingsNear.bits7 (fun HT_ HW_ => ?_)
          generalize wr.drew = w28 at HO_9 BK299 HB hx305_0 hx305_1 hHeld ⊢
          refine pure_ (i := 0) (N := some 32) (v := ?_) (a' := ?_) #[T',F',F',F',F',F',F',F',F',F',F',F',F',F',F',F',F',F',F',F',F',F',F',F',F',F',F',F',F',F',F',F'] rfl rfl (any_of HT_.out (by kernel_rfl)) (fun _ _ _ h => h) (Or.inl ⟨by rfl, ?_⟩) ?_ ?_
          rotate_left
          ·intro w'
           go_simp
           with_reducible rfl
          rotate_left
          ·simp only [Act.put, la_, lz_, ls_, i64_w, i32_w]
           rfl
          refine pure_ (i := 2) (N := some 34) (v := ?_) (a' := ?_) #[T',F',T',F',F',F',F',F',F',F',F',F',F',F',F',F',F',F',F',F',F',F',F',F',F',F',F',F',F',F',F',F'] rfl rfl (any_of HT_.out (by kernel_rfl)) (fun _ _ _ h => h) (Or.inl ⟨by rfl, ?_⟩) ?_ ?_
          rotate_left
          ·intro w'
           go_simp
           with_reducible rfl
          rotate_left
          ·simp only [Act.put, la_, lz_, ls_, i64_w, i32_w]
           rfl
          refine pure_ (i := 3) (N := some 35) (v := ?_) (a' := ?_) #[T',F',T',T',F',F',F',F',F',F',F',F',F',F',F',F',F',F',F',F',F',F',F',F',F',F',F',F',F',F',F',F'] rfl rfl (any_of HT_.out (by kernel_rfl)) (fun _ _ _ h => h) (Or.inl ⟨by rfl, ?_⟩) ?_ ?_
          rotate_left
          ·intro w'
           go_simp
           with_reducible rfl
          rotate_left
          ·simp only [Act.put, la_, lz_, ls_, i64_w, i32_w]
           rfl
          refine pure_ (i := 4) (N := some 36) (v := ?_) (a' := ?_) #[T',F',T',T',T',F',F',F',F',F',F',F',F',F',F',F',F',F',F',F',F',F',F',F',F',F',F',F',F',F',F',F'] rfl rfl (any_of HT_.out (by kernel_rfl)) (fun _ _ _ h => h) (Or.inl ⟨by rfl, ?_⟩) ?_ ?_
          rotate_left
          ·intro w'
           go_simp
           with_reducible rfl
          rotate_left
          ·simp only [Act.put, la_, lz_, ls_, i64_w, i32_w]
           rfl
          refine pure_ (i := 5) (N := some 37) (v := ?_) (a' := ?_) #[T',F',T',T',T',T',F',F',F',F',F',F',F',F',F',F',F',F',F',F',F',F',F',F',F',F',F',F',F',F',F',F'] rfl rfl (any_of HT_.out (by kernel_rfl)) (fun _ _ _ h => h) (Or.inl ⟨by rfl, ?_⟩) ?_ ?_
          rotate_left
          ·intro w'
           go_simp
           with_reducible rfl
          rotate_left
          ·simp only [Act.put, la_, lz_, ls_, i64_w, i32_w]
           rfl
          refine pure_ (i := 7) (N := some 39) (v := ?_) (a' := ?_) #[T',F',T',T',T',T',F',T',F',F',F',F',F',F',F',F',F',F',F',F',F',F',F',F',F',F',F',F',F',F',F',F'] rfl rfl (any_of HT_.out (by kernel_rfl)) (fun _ _ _ h => h) (Or.inl ⟨by rfl, ?_⟩) ?_ ?_
          rotate_left
          ·intro w'
           go_simp
           with_reducible rfl
          rotate_left
          ·simp only [Act.put, la_, lz_, ls_, i64_w, i32_w]
           rfl
          refine take_ (i := 1) (N := some 33) (v := ?_) (a' := ?_) #[T',T',T',T',T',T',F',T',F',F',F',F',F',F',F',F',F',F',F',F',F',F',F',F',F',F',F',F',F',F',F',F'] rfl rfl (take_ofW HT_.out HW_.out (by kernel_rfl)) (fun _ _ _ h => h) (Or.inl ⟨by rfl, ?_⟩) hHeld ?_ ?_
          rotate_left
          ·rintro w' ⟨s0, s1, s2, s3⟩
           go_simp
           with_reducible rfl
          rotate_left
          ·simp only [Act.put, la_, lz_, ls_, i64_w, i32_w]
           rfl
          refine take_ (i := 6) (N := some 38) (v := ?_) (a' := ?_) #[T',T',T',T',T',T',T',T',F',F',F',F',F',F',F',F',F',F',F',F',F',F',F',F',F',F',F',F',F',F',F',F'] rfl rfl (take_ofW HT_.out HW_.out (by kernel_rfl)) (fun _ _ _ h => h) (Or.inl ⟨by rfl, ?_⟩) hHeld ?_ ?_
          rotate_left
          ·rintro w' ⟨s0, s1, s2, s3⟩
           go_simp
           with_reducible rfl
          rotate_left
          ·simp only [Act.put, la_, lz_, ls_, i64_w, i32_w]
           rfl
          refine one_ (i := 8) (N := some 40) #[T',T',T',T',T',T',T',T',T',F',F',F',F',F',F',F',F',F',F',F',F',F',F',F',F',F',F',F',F',F',F',F'] rfl rfl (one_of HT_.out (by kernel_rfl)) (by decide) (fun K hK => ?_)
          refine goes_ Try.func17 (by kernel_rfl) rfl #[.int .u64 a0_0, .int .u64 ((rd_T26 t301 x10_2).f0), .int .u64 a3] (by rfl) rfl rfl (by (try simp only [List.map_toArray, List.map_cons, List.map_nil]); first | done | rfl | (simp only [List.length_drop, List.length_take]; rfl)) ?_
          with_reducible refine (ring_Between.calls a0_0 ((rd_T26 t301 x10_2).f0) a3 false _ A18.out).mono ?_
          rintro e w' ⟨rfl, ⟨nd, rfl⟩⟩
          refine ⟨_, rfl, ?_⟩
          refine hK.out _ _ ⟨(blk_cell BK299.out 0).trans rfl, (blk_cell BK299.out 1).trans rfl, hHeld.2.2.1, hHeld.2.2.2⟩ (fun hHeld => ?_)
          clear hK K
          refine norm_ (a' := ?_) ?_ ?_
          rotate_left
          ·show Act.put _ (some 40) _ = _
           simp only [Act.put, la_, lz_, ls_, i64_w, i32_w]
           rfl
          refine pure_ (i := 9) (N := some 41) (v := ?_) (a' := ?_) #[T',T',T',T',T',T',T',T',T',T',F',F',F',F',F',F',F',F',F',F',F',F',F',F',F',F',F',F',F',F',F',F'] rfl rfl (any_of HT_.out (by kernel_rfl)) (fun _ _ _ h => h) (Or.inl ⟨by rfl, ?_⟩) ?_ ?_
          rotate_left
          ·intro w'
           go_simp
           with_reducible rfl
          rotate_left
          ·simp only [Act.put, la_, lz_, ls_, i64_w, i32_w]
           rfl
          refine pure_ (i := 10) (N := some 42) (v := ?_) (a' := ?_) #[T',T',T',T',T',T',T',T',T',T',T',F',F',F',F',F',F',F',F',F',F',F',F',F',F',F',F',F',F',F',F',F'] rfl rfl (any_of HT_.out (by kernel_rfl)) (fun _ _ _ h => h) (Or.inl ⟨by rfl, ?_⟩) ?_ ?_
          rotate_left
          ·intro w'
           go_simp
           with_reducible rfl
          rotate_left
          ·simp only [Act.put, la_, lz_, ls_, i64_w, i32_w]
           rfl
          refine pure_ (i := 11) (N := some 43) (v := undef) (a' := ?_) #[T',T',T',T',T',T',T',T',T',T',T',T',F',F',F',F',F',F',F',F',F',F',F',F',F',F',F',F',F',F',F',F'] rfl rfl (any_of HT_.out (by kernel_rfl)) (fun _ _ _ h => h) (Or.inr ⟨by rfl, rfl⟩) ?_ ?_
          rotate_left
          ·simp only [Act.put, la_, lz_, ls_, i64_w, i32_w]
           rfl
          refine pure_ (i := 12) (N := some 44) (v := undef) (a' := ?_) #[T',T',T',T',T',T',T',T',T',T',T',T',T',F',F',F',F',F',F',F',F',F',F',F',F',F',F',F',F',F',F',F'] rfl rfl (any_of HT_.out (by kernel_rfl)) (fun _ _ _ h => h) (Or.inr ⟨by rfl, rfl⟩) ?_ ?_
          rotate_left
          ·simp only [Act.put, la_, lz_, ls_, i64_w, i32_w]
           rfl
          refine pure_ (i := 13) (N := some 45) (v := undef) (a' := ?_) #[T',T',T',T',T',T',T',T',T',T',T',T',T',T',F',F',F',F',F',F',F',F',F',F',F',F',F',F',F',F',F',F'] rfl rfl (any_of HT_.out (by kernel_rfl)) (fun _ _ _ h => h) (Or.inr ⟨by rfl, rfl⟩) ?_ ?_
          rotate_left
          ·simp only [Act.put, la_, lz_, ls_, i64_w, i32_w]
           rfl
          refine pure_ (i := 14) (N := some 46) (v := undef) (a' := ?_) #[T',T',T',T',T',T',T',T',T',T',T',T',T',T',T',F',F',F',F',F',F',F',F',F',F',F',F',F',F',F',F',F'] rfl rfl (any_of HT_.out (by kernel_rfl)) (fun _ _ _ h => h) (Or.inr ⟨by rfl, rfl⟩) ?_ ?_
          rotate_left
          ·simp only [Act.put, la_, lz_, ls_, i64_w, i32_w]
           rfl
          refine pure_ (i := 15) (N := some 47) (v := undef) (a' := ?_) #[T',T',T',T',T',T',T',T',T',T',T',T',T',T',T',T',F',F',F',F',F',F',F',F',F',F',F',F',F',F',F',F'] rfl rfl (any_of HT_.out (by kernel_rfl)) (fun _ _ _ h => h) (Or.inr ⟨by rfl, rfl⟩) ?_ ?_
          rotate_left
          ·simp only [Act.put, la_, lz_, ls_, i64_w, i32_w]
           rfl
          refine pure_ (i := 16) (N := some 48) (v := undef) (a' := ?_) #[T',T',T',T',T',T',T',T',T',T',T',T',T',T',T',T',T',F',F',F',F',F',F',F',F',F',F',F',F',F',F',F'] rfl rfl (any_of HT_.out (by kernel_rfl)) (fun _ _ _ h => h) (Or.inr ⟨by rfl, rfl⟩) ?_ ?_
          rotate_left
          ·simp only [Act.put, la_, lz_, ls_, i64_w, i32_w]
           rfl
          refine pure_ (i := 17) (N := some 49) (v := undef) (a' := ?_) #[T',T',T',T',T',T',T',T',T',T',T',T',T',T',T',T',T',T',F',F',F',F',F',F',F',F',F',F',F',F',F',F'] rfl rfl (any_of HT_.out (by kernel_rfl)) (fun _ _ _ h => h) (Or.inr ⟨by rfl, rfl⟩) ?_ ?_
          rotate_left
          ·simp only [Act.put, la_, lz_, ls_, i64_w, i32_w]
           rfl
          refine pure_ (i := 18) (N := some 50) (v := undef) (a' := ?_) #[T',T',T',T',T',T',T',T',T',T',T',T',T',T',T',T',T',T',T',F',F',F',F',F',F',F',F',F',F',F',F',F'] rfl rfl (any_of HT_.out (by kernel_rfl)) (fun _ _ _ h => h) (Or.inr ⟨by rfl, rfl⟩) ?_ ?_
          rotate_left
          ·simp only [Act.put, la_, lz_, ls_, i64_w, i32_w]
           rfl
          refine pure_ (i := 19) (N := some 51) (v := undef) (a' := ?_) #[T',T',T',T',T',T',T',T',T',T',T',T',T',T',T',T',T',T',T',T',F',F',F',F',F',F',F',F',F',F',F',F'] rfl rfl (any_of HT_.out (by kernel_rfl)) (fun _ _ _ h => h) (Or.inr ⟨by rfl, rfl⟩) ?_ ?_
          rotate_left
          ·simp only [Act.put, la_, lz_, ls_, i64_w, i32_w]
           rfl
          refine pure_ (i := 20) (N := some 52) (v := undef) (a' := ?_) #[T',T',T',T',T',T',T',T',T',T',T',T',T',T',T',T',T',T',T',T',T',F',F',F',F',F',F',F',F',F',F',F'] rfl rfl (any_of HT_.out (by kernel_rfl)) (fun _ _ _ h => h) (Or.inr ⟨by rfl, rfl⟩) ?_ ?_
          rotate_left
          ·simp only [Act.put, la_, lz_, ls_, i64_w, i32_w]
           rfl
          refine pure_ (i := 21) (N := some 53) (v := undef) (a' := ?_) #[T',T',T',T',T',T',T',T',T',T',T',T',T',T',T',T',T',T',T',T',T',T',F',F',F',F',F',F',F',F',F',F'] rfl rfl (any_of HT_.out (by kernel_rfl)) (fun _ _ _ h => h) (Or.inr ⟨by rfl, rfl⟩) ?_ ?_
          rotate_left
          ·simp only [Act.put, la_, lz_, ls_, i64_w, i32_w]
           rfl
          refine pure_ (i := 22) (N := some 54) (v := undef) (a' := ?_) #[T',T',T',T',T',T',T',T',T',T',T',T',T',T',T',T',T',T',T',T',T',T',T',F',F',F',F',F',F',F',F',F'] rfl rfl (any_of HT_.out (by kernel_rfl)) (fun _ _ _ h => h) (Or.inr ⟨by rfl, rfl⟩) ?_ ?_
          rotate_left
          ·simp only [Act.put, la_, lz_, ls_, i64_w, i32_w]
           rfl
          refine pure_ (i := 23) (N := some 55) (v := undef) (a' := ?_) #[T',T',T',T',T',T',T',T',T',T',T',T',T',T',T',T',T',T',T',T',T',T',T',T',F',F',F',F',F',F',F',F'] rfl rfl (any_of HT_.out (by kernel_rfl)) (fun _ _ _ h => h) (Or.inr ⟨by rfl, rfl⟩) ?_ ?_
          rotate_left
          ·simp only [Act.put, la_, lz_, ls_, i64_w, i32_w]
           rfl
          refine pure_ (i := 24) (N := some 56) (v := undef) (a' := ?_) #[T',T',T',T',T',T',T',T',T',T',T',T',T',T',T',T',T',T',T',T',T',T',T',T',T',F',F',F',F',F',F',F'] rfl rfl (any_of HT_.out (by kernel_rfl)) (fun _ _ _ h => h) (Or.inr ⟨by rfl, rfl⟩) ?_ ?_
          rotate_left
          ·simp only [Act.put, la_, lz_, ls_, i64_w, i32_w]
           rfl
          refine pure_ (i := 25) (N := some 57) (v := undef) (a' := ?_) #[T',T',T',T',T',T',T',T',T',T',T',T',T',T',T',T',T',T',T',T',T',T',T',T',T',T',F',F',F',F',F',F'] rfl rfl (any_of HT_.out (by kernel_rfl)) (fun _ _ _ h => h) (Or.inr ⟨by rfl, rfl⟩) ?_ ?_
          rotate_left
          ·simp only [Act.put, la_, lz_, ls_, i64_w, i32_w]
           rfl
          refine pure_ (i := 26) (N := some 58) (v := undef) (a' := ?_) #[T',T',T',T',T',T',T',T',T',T',T',T',T',T',T',T',T',T',T',T',T',T',T',T',T',T',T',F',F',F',F',F'] rfl rfl (any_of HT_.out (by kernel_rfl)) (fun _ _ _ h => h) (Or.inr ⟨by rfl, rfl⟩) ?_ ?_
          rotate_left
          ·simp only [Act.put, la_, lz_, ls_, i64_w, i32_w]
           rfl
          refine pure_ (i := 27) (N := some 59) (v := undef) (a' := ?_) #[T',T',T',T',T',T',T',T',T',T',T',T',T',T',T',T',T',T',T',T',T',T',T',T',T',T',T',T',F',F',F',F'] rfl rfl (any_of HT_.out (by kernel_rfl)) (fun _ _ _ h => h) (Or.inr ⟨by rfl, rfl⟩) ?_ ?_
          rotate_left
          ·simp only [Act.put, la_, lz_, ls_, i64_w, i32_w]
           rfl
          refine pure_ (i := 28) (N := some 60) (v := undef) (a' := ?_) #[T',T',T',T',T',T',T',T',T',T',T',T',T',T',T',T',T',T',T',T',T',T',T',T',T',T',T',T',T',F',F',F'] rfl rfl (any_of HT_.out (by kernel_rfl)) (fun _ _ _ h => h) (Or.inr ⟨by rfl, rfl⟩) ?_ ?_
          rotate_left
          ·simp only [Act.put, la_, lz_, ls_, i64_w, i32_w]
           rfl
          refine pure_ (i := 29) (N := some 61) (v := undef) (a' := ?_) #[T',T',T',T',T',T',T',T',T',T',T',T',T',T',T',T',T',T',T',T',T',T',T',T',T',T',T',T',T',T',F',F'] rfl rfl (any_of HT_.out (by kernel_rfl)) (fun _ _ _ h => h) (Or.inr ⟨by rfl, rfl⟩) ?_ ?_
          rotate_left
          ·simp only [Act.put, la_, lz_, ls_, i64_w, i32_w]
           rfl
          refine pure_ (i := 30) (N := some 62) (v := undef) (a' := ?_) #[T',T',T',T',T',T',T',T',T',T',T',T',T',T',T',T',T',T',T',T',T',T',T',T',T',T',T',T',T',T',T',F'] rfl rfl (any_of HT_.out (by kernel_rfl)) (fun _ _ _ h => h) (Or.inr ⟨by rfl, rfl⟩) ?_ ?_
          rotate_left
          ·simp only [Act.put, la_, lz_, ls_, i64_w, i32_w]
           rfl
          refine pure_ (i := 31) (N := some 63) (v := ?_) (a' := ?_) #[T',T',T',T',T',T',T',T',T',T',T',T',T',T',T',T',T',T',T',T',T',T',T',T',T',T',T',T',T',T',T',T'] rfl rfl (any_of HT_.out (by kernel_rfl)) (fun _ _ _ h => h) (Or.inl ⟨by rfl, ?_⟩) ?_ ?_
          rotate_left
          ·intro w'
           go_simp
           with_reducible rfl
          rotate_left
          ·simp only [Act.put, la_, lz_, ls_, i64_w, i32_w]
           rfl
          refine done_ (done_of HT_.out (by kernel_rfl)) ?_
          try go_wp2
          go_meet
          case rel => exact ⟨_, (true), (by first | rfl | (simp; done) | (simp [*]; done)), H', ⟨by have := HJ4.out; have := HK2.out; first | omega | exact Nat.le_refl _⟩, ⟨by (with_reducible repeat (first | apply Kd.R_alloc | apply Kd.R_drewN | apply Kd.R_drew)); exact HO_9.out⟩, ⟨by (with_reducible repeat (first | refine blk_drewN ?_ _ | refine blk_drew ?_ | refine blk_alloc ?_ _)); exact BK299.out⟩, ⟨by repeat (first | (with_reducible first | exact HB.out | apply below_alloc | apply pw_below_drewN | apply below_drew1 | refine below_set ?_ GE299.out) | exact HB.out)⟩⟩
        ·rw [if_neg c17] at H
         exact absurd H (by simp)
       case rest =>
        clear HC15
        try clear c1
        try clear c2
        try clear p2
        try clear p3
        try clear q3
        try clear hx3
        try clear c17
        try clear c18
        try clear c19
        try clear c20
        try clear c20b0
        try clear c22
        try clear c23
        try clear hx305_0
        try clear hx305_1
        try clear p305
        try clear q305
        obtain ⟨kq, x63_14, rfl, HA, HJ14, HO_9, BK299, HB⟩ := hcut
        cases kq with
        | zero => exact absurd HA.out (by simp [annuletlaw28_FingsNear.j2])
        | succ kj14 =>
         have H := HA.out
         clear HA
         simp only [annuletlaw28_FingsNear.j2] at H
         by_cases c29 : x63_14 = true
         ·subst c29
          have H1 : (none) = some r := by rw [if_pos rfl] at H; exact H
          clear H
          have H := H1
          clear H1
          exact absurd H (by simp)
         ·replace c29 := Bool.eq_false_iff.mpr c29
          subst c29
          have H1 : (annuletlaw28_FingsNear.l1 kj14 a3 t301 x10_2 0 a0_0 a0_1) = some r := by rw [if_neg (show ¬ (false = true) by decide)] at H; exact H
          clear H
          have H := H1
          clear H1
          have H' := Aside0.mk H
          clear H
          go_wp2
          go_loopg [11] kj14 (fun kq v11 w' => ∃ (x11_4 : Int), v11 = .int .i64 x11_4 ∧ Aside0 (annuletlaw28_FingsNear.l1 kq a3 t301 x10_2 x11_4 a0_0 a0_1 = some r) ∧ Aside0 (kq ≤ kj14) ∧ Aside0 (Kd.R k26 26 w' w.heap.size (fun k_ => k_ ≠ gb299) (.slice Ao16 t301.length co16) t301) ∧ Aside0 (w'.heap[gb299]? = some (.cells #[.int .u64 a0_0, .int .u16 a0_1] 26 (0, 0))) ∧ Aside0 (Below w.heap.size w w'))
          case atStart => exact ⟨(0), (by first | rfl | (simp; done) | (simp [*]; done)), H', ⟨Nat.le_refl _⟩, ⟨by (with_reducible repeat (first | apply Kd.R_alloc | apply Kd.R_drewN | apply Kd.R_drew)); exact HO_9.out⟩, ⟨by (with_reducible repeat (first | refine blk_drewN ?_ _ | refine blk_drew ?_ | refine blk_alloc ?_ _)); exact BK299.out⟩, ⟨by repeat (first | (with_reducible first | exact HB.out | apply below_alloc | apply pw_below_drewN | apply below_drew1 | refine below_set ?_ GE299.out) | exact HB.out)⟩⟩
          case round =>
           clear H'
           try clear c1
           try clear c2
           try clear p2
           try clear p3
           try clear q3
           try clear hx3
           try clear c17
           try clear c18
           try clear c19
           try clear c20
           try clear c20b0
           try clear c22
           try clear c23
           try clear c29
           try clear hx305_0
           try clear hx305_1
           try clear p2
           try clear p3
           try clear p305
           try clear q3
           try clear q305
           obtain ⟨x11_4, rfl, HA, HK4, HO_9, BK299, HB⟩ := hrel
           cases gk with
           | zero => exact absurd HA.out (by simp [annuletlaw28_FingsNear.l1])
           | succ k4 =>
            have H := HA.out
            clear HA
            simp only [annuletlaw28_FingsNear.l1] at H
            by_cases c30 : x11_4 < x10_2
            ·rw [if_pos c30] at H
             have c30b0 : decide (x11_4 < x10_2) = true := decide_eq_true c30
             clear c30
             by_cases c31 : 0 ≤ x11_4
             ·rw [if_pos c31] at H
              have c31b0 : decide (0 ≤ x11_4) = true := decide_eq_true c31
              clear c31
              by_cases c32 : x11_4 < (t301.length : Int)
              ·rw [if_pos c32] at H
               have c32b0 : decide (x11_4 < (t301.length : Int)) = true := decide_eq_true c32
               clear c32
               by_cases c33 : 0 ≤ x10_2
               ·rw [if_pos c33] at H
                have c33b0 : decide (0 ≤ x10_2) = true := decide_eq_true c33
                clear c33
                by_cases c34 : x10_2 < (t301.length : Int)
                ·rw [if_pos c34] at H
                 have c34b0 : decide (x10_2 < (t301.length : Int)) = true := decide_eq_true c34
                 clear c34
                 by_cases c35 : ((rd_T26 t301 x11_4).f1) = ((rd_T26 t301 x10_2).f1)
                 ·rw [if_pos c35] at H
                  exact absurd H (by simp)
                 ·rw [if_neg c35] at H
                  have c35b0 : (((rd_T26 t301 x11_4).f1) == ((rd_T26 t301 x10_2).f1)) = false := beq_eq_false_iff_ne.mpr c35
                  have c35b1 : (((rd_T26 t301 x11_4).f1) != ((rd_T26 t301 x10_2).f1)) = true := bne_iff_ne.mpr c35
                  have H' := Aside0.mk H
                  clear H
                  try go_wp2
                  have n0_ := Aside0.mk (Kd.R_drew HO_9.out)
                  have n1_ := Aside0.mk (blk_drew BK299.out)
                  have n2_ := Aside0.mk (below_drew1 HB.out)
                  clear HO_9
                  clear BK299
                  clear HB
                  have HO_9 := n0_
                  have BK299 := n1_
                  have HB := n2_
                  clear n0_ n1_ n2_
                  have p311 : 0 ≤ (x11_4 : Int) := of_decide_eq_true (by first | (with_reducible assumption) | assumption)
                  have q311 : x11_4 < (t301.length : Int) := of_decide_eq_true (by first | (with_reducible assumption) | assumption)
                  obtain ⟨ad311, e311, hx311_0, hx311_1⟩ := at_T26 (Kd.R_reads' HO_9.out).2.2 x11_4 p311 q311
                  cases e311
                  replace p311 := eq_true p311
                  replace q311 := eq_true q311
                  have p312 : 0 ≤ (x10_2 : Int) := of_decide_eq_true (by first | (with_reducible assumption) | assumption)
                  have q312 : x10_2 < (t301.length : Int) := of_decide_eq_true (by first | (with_reducible assumption) | assumption)
                  obtain ⟨ad312, e312, hx312_0, hx312_1⟩ := at_T26 (Kd.R_reads' HO_9.out).2.2 x10_2 p312 q312
                  obtain rfl : ad311 = ad312 := (by injection e312)
                  replace p312 := eq_true p312
                  replace q312 := eq_true q312
                  refine start_ (n := 11) (S := fun w' => w'.cell? (ad311.add ((x11_4).toNat * 2)) = some (.int .u64 ((rd_T26 t301 x11_4).f0)) ∧ w'.cell? ⟨(ad311.add ((x11_4).toNat * 2)).block, (ad311.add ((x11_4).toNat * 2)).off + 1, none⟩ = some (.int .u16 ((rd_T26 t301 x11_4).f1)) ∧ w'.cell? (ad311.add ((x10_2).toNat * 2)) = some (.int .u64 ((rd_T26 t301 x10_2).f0)) ∧ w'.cell? ⟨(ad311.add ((x10_2).toNat * 2)).block, (ad311.add ((x10_2).toNat * 2)).off + 1, none⟩ = some (.int .u16 ((rd_T26 t301 x10_2).f1))) (ds := []) #[F',F',F',F',F',F',F',F',F',F',F'] (by kernel_rfl) rfl rfl ⟨hx311_0, hx311_1, hx312_0, hx312_1⟩ (fun hHeld => ?_); refine with_tabW annuletlaw28_FingsNear.tab12 annuletlaw28_FingsNear.bits12 (fun HT_ HW_ => ?_)
                  generalize wr.drew = w36 at HO_9 BK299 HB hx311_0 hx311_1 hx312_0 hx312_1 hHeld ⊢
                  refine pure_ (i := 0) (N := some 69) (v := ?_) (a' := ?_) #[T',F',F',F',F',F',F',F',F',F',F'] rfl rfl (any_of HT_.out (by kernel_rfl)) (fun _ _ _ h => h) (Or.inl ⟨by rfl, ?_⟩) ?_ ?_
                  rotate_left
                  ·intro w'
                   go_simp
                   with_reducible rfl
                  rotate_left
                  ·simp only [Act.put, la_, lz_, ls_, i64_w, i32_w]
                   rfl
                  refine pure_ (i := 1) (N := some 70) (v := ?_) (a' := ?_) #[T',T',F',F',F',F',F',F',F',F',F'] rfl rfl (any_of HT_.out (by kernel_rfl)) (fun _ _ _ h => h) (Or.inl ⟨by rfl, ?_⟩) ?_ ?_
                  rotate_left
                  ·intro w'
                   go_simp
                   with_reducible rfl
                  rotate_left
                  ·simp only [Act.put, la_, lz_, ls_, i64_w, i32_w]
                   rfl
                  refine pure_ (i := 2) (N := some 71) (v := ?_) (a' := ?_) #[T',T',T',F',F',F',F',F',F',F',F'] rfl rfl (any_of HT_.out (by kernel_rfl)) (fun _ _ _ h => h) (Or.inl ⟨by rfl, ?_⟩) ?_ ?_
                  rotate_left
                  ·intro w'
                   go_simp
                   with_reducible rfl
                  rotate_left
                  ·simp only [Act.put, la_, lz_, ls_, i64_w, i32_w]
                   rfl
                  refine pure_ (i := 3) (N := some 72) (v := ?_) (a' := ?_) #[T',T',T',T',F',F',F',F',F',F',F'] rfl rfl (any_of HT_.out (by kernel_rfl)) (fun _ _ _ h => h) (Or.inl ⟨by rfl, ?_⟩) ?_ ?_
                  rotate_left
                  ·intro w'
                   go_simp
                   with_reducible rfl
                  rotate_left
                  ·simp only [Act.put, la_, lz_, ls_, i64_w, i32_w]
                   rfl
                  refine pure_ (i := 5) (N := some 74) (v := ?_) (a' := ?_) #[T',T',T',T',F',T',F',F',F',F',F'] rfl rfl (any_of HT_.out (by kernel_rfl)) (fun _ _ _ h => h) (Or.inl ⟨by rfl, ?_⟩) ?_ ?_
                  rotate_left
                  ·intro w'
                   go_simp
                   with_reducible rfl
                  rotate_left
                  ·simp only [Act.put, la_, lz_, ls_, i64_w, i32_w]
                   rfl
                  refine pure_ (i := 6) (N := some 75) (v := ?_) (a' := ?_) #[T',T',T',T',F',T',T',F',F',F',F'] rfl rfl (any_of HT_.out (by kernel_rfl)) (fun _ _ _ h => h) (Or.inl ⟨by rfl, ?_⟩) ?_ ?_
                  rotate_left
                  ·intro w'
                   go_simp
                   with_reducible rfl
                  rotate_left
                  ·simp only [Act.put, la_, lz_, ls_, i64_w, i32_w]
                   rfl
                  refine pure_ (i := 7) (N := some 76) (v := ?_) (a' := ?_) #[T',T',T',T',F',T',T',T',F',F',F'] rfl rfl (any_of HT_.out (by kernel_rfl)) (fun _ _ _ h => h) (Or.inl ⟨by rfl, ?_⟩) ?_ ?_
                  rotate_left
                  ·intro w'
                   go_simp
                   with_reducible rfl
                  rotate_left
                  ·simp only [Act.put, la_, lz_, ls_, i64_w, i32_w]
                   rfl
                  refine pure_ (i := 8) (N := some 77) (v := ?_) (a' := ?_) #[T',T',T',T',F',T',T',T',T',F',F'] rfl rfl (any_of HT_.out (by kernel_rfl)) (fun _ _ _ h => h) (Or.inl ⟨by rfl, ?_⟩) ?_ ?_
                  rotate_left
                  ·intro w'
                   go_simp
                   with_reducible rfl
                  rotate_left
                  ·simp only [Act.put, la_, lz_, ls_, i64_w, i32_w]
                   rfl
                  refine take_ (i := 4) (N := some 73) (v := ?_) (a' := ?_) #[T',T',T',T',T',T',T',T',T',F',F'] rfl rfl (take_ofW HT_.out HW_.out (by kernel_rfl)) (fun _ _ _ h => h) (Or.inl ⟨by rfl, ?_⟩) hHeld ?_ ?_
                  rotate_left
                  ·rintro w' ⟨s0, s1, s2, s3⟩
                   go_simp
                   with_reducible rfl
                  rotate_left
                  ·simp only [Act.put, la_, lz_, ls_, i64_w, i32_w]
                   rfl
                  refine take_ (i := 9) (N := some 78) (v := ?_) (a' := ?_) #[T',T',T',T',T',T',T',T',T',T',F'] rfl rfl (take_ofW HT_.out HW_.out (by kernel_rfl)) (fun _ _ _ h => h) (Or.inl ⟨by rfl, ?_⟩) hHeld ?_ ?_
                  rotate_left
                  ·rintro w' ⟨s0, s1, s2, s3⟩
                   go_simp
                   with_reducible rfl
                  rotate_left
                  ·simp only [Act.put, la_, lz_, ls_, i64_w, i32_w]
                   rfl
                  refine pure_ (i := 10) (N := some 79) (v := ?_) (a' := ?_) #[T',T',T',T',T',T',T',T',T',T',T'] rfl rfl (any_of HT_.out (by kernel_rfl)) (fun _ _ _ h => h) (Or.inl ⟨by rfl, ?_⟩) ?_ ?_
                  rotate_left
                  ·intro w'
                   go_simp
                   with_reducible rfl
                  rotate_left
                  ·simp only [Act.put, la_, lz_, ls_, i64_w, i32_w]
                   rfl
                  refine done_ (done_of HT_.out (by kernel_rfl)) ?_
                  try go_wp2
                  go_roundg k4
                  case measure => have := HJ4.out; have := HK2.out; have := HJ14.out; have := HK4.out; omega
                  case rel => exact ⟨(wrap64 (x11_4 + 1)), (by first | rfl | (simp; done) | (simp [*]; done)), H', ⟨by have := HJ4.out; have := HK2.out; have := HJ14.out; have := HK4.out; omega⟩, ⟨by (with_reducible repeat (first | apply Kd.R_alloc | apply Kd.R_drewN | apply Kd.R_drew)); exact HO_9.out⟩, ⟨by (with_reducible repeat (first | refine blk_drewN ?_ _ | refine blk_drew ?_ | refine blk_alloc ?_ _)); exact BK299.out⟩, ⟨by repeat (first | (with_reducible first | exact HB.out | apply below_alloc | apply pw_below_drewN | apply below_drew1 | refine below_set ?_ GE299.out) | exact HB.out)⟩⟩
                ·rw [if_neg c34] at H
                 exact absurd H (by simp)
               ·rw [if_neg c33] at H
                exact absurd H (by simp)
              ·rw [if_neg c32] at H
               exact absurd H (by simp)
             ·rw [if_neg c31] at H
              exact absurd H (by simp)
            ·rw [if_neg c30] at H
             have c30b0 : decide (x11_4 < x10_2) = false := decide_eq_false c30
             clear c30
             have H' := Aside0.mk H
             clear H
             go_wp2
             go_roundg k4
             case measure => have := HJ4.out; have := HK2.out; have := HJ14.out; have := HK4.out; omega
             case rel => exact ⟨(wrap64 (x10_2 + 1)), (by first | rfl | (simp; done) | (simp [*]; done)), H', ⟨by have := HJ4.out; have := HK2.out; have := HJ14.out; have := HK4.out; omega⟩, ⟨by (with_reducible repeat (first | apply Kd.R_alloc | apply Kd.R_drewN | apply Kd.R_drew)); exact HO_9.out⟩, ⟨by (with_reducible repeat (first | refine blk_drewN ?_ _ | refine blk_drew ?_ | refine blk_alloc ?_ _)); exact BK299.out⟩, ⟨by repeat (first | (with_reducible first | exact HB.out | apply below_alloc | apply pw_below_drewN | apply below_drew1 | refine below_set ?_ GE299.out) | exact HB.out)⟩⟩
      ·rw [if_neg c14] at H
       have c14b0 : decide (x10_2 < (t301.length : Int)) = false := decide_eq_false c14
       clear c14
       replace H := Option.bind_eq_some_iff.mp H
       obtain ⟨t304, A370, H⟩ := H
       replace H : (some t304) = some r := H
       have A37 := Aside0.mk A370
       clear A370
       obtain rfl := Option.some.inj H
       obtain ⟨Ao38, co38, eo38⟩ := Kd.R_slice HO_9.out
       subst eo38
       go_wp2_with (first | ((with_reducible refine gate_callee (f := 6) rfl ?_); refine goesL_ (some 80) rfl rfl Try.func6 (by kernel_rfl) rfl #[] rfl (by (try simp only [List.map_toArray, List.map_cons, List.map_nil]); first | done | rfl | (simp only [List.length_drop, List.length_take]; rfl)) ?_; (with_reducible refine (annuletlaw28_awake.calls k2  t304 _ A37.out).mono ?_); rintro e w39 ⟨rfl, hb⟩; refine ⟨_, rfl, ?_⟩; have n0_ := Aside0.mk (Kd.R_below (by (with_reducible repeat (first | apply Kd.R_alloc | apply Kd.R_drewN | apply Kd.R_drew)); exact HO_9.out) hb); have n1_ := Aside0.mk (blk_below (g := gb299) (o := .cells #[.int .u64 a0_0, .int .u16 a0_1] 26 (0, 0)) (by (with_reducible repeat (first | refine blk_drewN ?_ _ | refine blk_drew ?_ | refine blk_alloc ?_ _)); exact BK299.out) hb); have n2_ := Aside0.mk (below_step (by repeat (first | (with_reducible first | exact HB.out | apply below_alloc | apply pw_below_drewN | apply below_drew1 | refine below_set ?_ GE299.out) | exact HB.out)) hb); clear HO_9; clear BK299; clear HB; have HO_9 := n0_; have BK299 := n1_; have HB := n2_; clear n0_ n1_ n2_; (try clear hb); (try clear hb2); (try clear hk); (try clear hi)))
       go_ret
       exact ⟨by first | rfl | (simp [errW_none, errW_some] <;> rfl) | (simp [*, errW_none, errW_some] <;> rfl), by repeat (first | (with_reducible first | exact HB.out | apply below_alloc | apply pw_below_drewN | apply below_drew1 | refine below_set ?_ GE299.out) | exact HB.out)⟩

end Go.Proofs.Ytnnhmceaoobihaa.P
