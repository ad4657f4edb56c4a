-- Printed by fprint.py (a program of this session's, over the kit's print), for this claim.
import Derived.Test.YtnnhmceaoobihaaPx0
namespace Go.Proofs.Ytnnhmceaoobihaa.P
open Go.RowKit Go.Proofs.YtnnhmceaoobihaaW.PrintWords Go.Proofs.YtnnhmceaoobihaaW.PrintLast Go.Proofs.YtnnhmceaoobihaaW.PrintMore
attribute [local go_sem] max2_int min2_int max_two min_two max_three min_three max_four min_four   -- for this text's walks alone
set_option linter.unusedVariables false
set_option linter.unusedSimpArgs false

/-! ### fings_Get: function 7 -/
def fings_Get.l0 : Nat → Int → List (S45) → Int → Int → Option (Int × Int × Bool)
 | 0, _, _, _, _ => none
 | k + 1, x1, x8, x9, x10 => if x10 < x9 then (if 0 ≤ x10 then (if x10 < (x8.length : Int) then (if ((rd_T45 x8 x10).f0) = x1 then (some ((rd_T45 x8 x10).f1.f0, (rd_T45 x8 x10).f1.f1, true)) else (fings_Get.l0 k x1 x8 x9 (wrap64 (x10 + 1)))) else (none)) else (none)) else (some (0, 0, false))
def fings_Get.f (k : Nat) (l0 : List (S45)) (a1 : Int) : Option (Int × Int × Bool) := fings_Get.l0 k a1 l0 (l0.length : Int) 0
theorem fings_Get.mono_l : ∀ k, (∀ y0 y1 y2 y3, LeO (fings_Get.l0 k y0 y1 y2 y3) (fings_Get.l0 (k + 1) y0 y1 y2 y3))
 | 0 => fun _ _ _ _ r h => by simp [fings_Get.l0] at h
 | k + 1 => by
  have ih0 := fings_Get.mono_l k
  ·intro y0 y1 y2 y3
   unfold fings_Get.l0
   repeat' first
   | (with_reducible exact ih0 _ _ _ _)
   | (with_reducible exact LeO.refl _)
   | (with_reducible exact LeO.none _)
   | (with_reducible refine LeO.ite ?_ ?_)
   | (with_reducible refine LeO.bind ?_ (fun _ => ?_))
   | exact ih0 _ _ _ _
   | exact LeO.none _
   | refine LeO.ite ?_ ?_
   | refine LeO.bind ?_ (fun _ => ?_)
theorem fings_Get.mono : ∀ a0 a1 k, LeO (fings_Get.f k a0 a1) (fings_Get.f (k + 1) a0 a1) := by
 intro a0 a1 k
 have ih0 := fings_Get.mono_l k
 unfold fings_Get.f
 repeat' first
   | (with_reducible exact ih0 _ _ _ _)
   | (with_reducible exact LeO.refl _)
   | (with_reducible exact LeO.none _)
   | (with_reducible refine LeO.ite ?_ ?_)
   | (with_reducible refine LeO.bind ?_ (fun _ => ?_))
   | exact ih0 _ _ _ _
   | exact LeO.none _
   | refine LeO.ite ?_ ?_
   | refine LeO.bind ?_ (fun _ => ?_)
set_option maxHeartbeats 8000000 in
set_option maxRecDepth 100000 in
theorem fings_Get.calls (k : Nat) (A0 : Option Addr) (c0 : Nat) (l0 : List (S45)) (a1 : Int) (r1 : Int) (r2 : Int) (r3 : Bool) (w : World) (hr0 : Kd.C k45 w A0 l0.length l0) (hc0 : l0.length ≤ c0) (h : fings_Get.f k l0 a1 = some (r1, r2, r3)) :
  Calls Try.prog 7 #[.slice A0 l0.length c0, .int .i64 a1] w fun e w' => e = .returned (.tuple #[.agg #[.int .u64 r1, .int .u16 r2], .bool r3]) ∧ Below w.heap.size w w' := by
 have hu26 := Try.underlying26
 have hu45 := Try.underlying45
 have HR0 := Aside0.mk hr0
 have HC0 := Aside0.mk hc0
 clear hr0 hc0
 have HB := Aside0.mk (Below.refl w.heap.size w)
 have H : (fings_Get.l0 k a1 l0 (l0.length : Int) 0) = some (r1, r2, r3) := h
 clear h
 have H' := Aside0.mk H
 clear H
 go_enter Try.func7, Try.ntmps7
 go_wp2_with (first | ((with_reducible refine gate_dst (N := 4) rfl ?_); refine box_event ?hg (N := 4) ?hd (cs := #[.int .u64 0, .int .u16 0]) (t := 26) ?hr ?_; (case hd => rfl); (case hg => rfl); (case hr => first | (go_simp; done) | (go_simp; rfl)); intro gb101 hg w3 hbox hb; have n0_ := Aside0.mk (below_step (by repeat (first | (with_reducible first | exact HB.out | apply below_alloc | apply pw_below_drewN | apply below_drew1) | exact HB.out)) hb); have n1_ := Aside0.mk (hbox); have n2_ := Aside0.mk ((by rw [hg]; exact (below_size (by repeat (first | (with_reducible first | exact HB.out | apply below_alloc | apply pw_below_drewN | apply below_drew1) | exact HB.out))) : w.heap.size ≤ gb101)); have n3_ := Aside0.mk ((by rw [hg]; exact (below_size (by repeat (first | (with_reducible first | exact HB.out | apply below_alloc | apply pw_below_drewN | apply below_drew1) | exact HB.out))) : w.heap.size ≤ gb101)); clear HB; have HB := n0_; have BK101 := n1_; have GW101 := n2_; have GE101 := n3_; clear n0_ n1_ n2_ n3_; clear hb hbox hg))
 go_loopg [10] k (fun kq v10 w' => ∃ (x10_1 : Int) (x102000_1 : Int) (x102001_1 : Int), v10 = .int .i64 x10_1 ∧ Aside0 (fings_Get.l0 kq a1 l0 (l0.length : Int) x10_1 = some (r1, r2, r3)) ∧ Aside0 (kq ≤ k) ∧ Aside0 (w'.heap[gb101]? = some (.cells #[.int .u64 x102000_1, .int .u16 x102001_1] 26 (0, 0))) ∧ Aside0 (Below w.heap.size w w'))
 case atStart => exact ⟨(0), (0), (0), (by first | rfl | (simp; done) | (simp [*]; done)), H', ⟨Nat.le_refl _⟩, ⟨by (with_reducible repeat (first | refine blk_drewN ?_ _ | refine blk_drew ?_ | refine blk_alloc ?_ _)); exact BK101.out⟩, ⟨by repeat (first | (with_reducible first | exact HB.out | apply below_alloc | apply pw_below_drewN | apply below_drew1 | refine below_set ?_ GE101.out) | exact HB.out)⟩⟩
 case round =>
  clear H'
  try clear p2
  obtain ⟨x10_1, x102000_1, x102001_1, rfl, HA, HK1, BK101, HB⟩ := hrel
  cases gk with
  | zero => exact absurd HA.out (by simp [fings_Get.l0])
  | succ k1 =>
   have H := HA.out
   clear HA
   simp only [fings_Get.l0] at H
   by_cases c4 : x10_1 < (l0.length : Int)
   ·rw [if_pos c4] at H
    have c4b0 : decide (x10_1 < (l0.length : Int)) = true := decide_eq_true c4
    clear c4
    by_cases c5 : 0 ≤ x10_1
    ·rw [if_pos c5] at H
     have c5b0 : decide (0 ≤ x10_1) = true := decide_eq_true c5
     clear c5
     by_cases c6 : x10_1 < (l0.length : Int)
     ·rw [if_pos c6] at H
      have c6b0 : decide (x10_1 < (l0.length : Int)) = true := decide_eq_true c6
      clear c6
      by_cases c7 : ((rd_T45 l0 x10_1).f0) = a1
      ·rw [if_pos c7] at H
       have c7b0 : (((rd_T45 l0 x10_1).f0) == a1) = true := beq_iff_eq.mpr c7
       have c7b1 : (((rd_T45 l0 x10_1).f0) != a1) = false := bne_eq_false_iff_eq.mpr c7
       clear c7
       simp only [Option.some.injEq, Prod.mk.injEq] at H
       obtain ⟨rfl, rfl, rfl⟩ := H
       have p102 : 0 ≤ (x10_1 : Int) := of_decide_eq_true (by first | (with_reducible assumption) | assumption)
       have q102 : x10_1 < (l0.length : Int) := of_decide_eq_true (by first | (with_reducible assumption) | assumption)
       obtain ⟨ad102, e102, hx102_0, hx102_1, hx102_2⟩ := at_T45 HR0.out x10_1 p102 q102
       cases e102
       replace hx102_0 := (HB.out.cell (World.block_lt_of_cell? w _ hx102_0)).trans hx102_0
       replace hx102_1 := (HB.out.cell (World.block_lt_of_cell? w _ hx102_1)).trans hx102_1
       replace hx102_2 := (HB.out.cell (World.block_lt_of_cell? w _ hx102_2)).trans hx102_2
       replace p102 := eq_true p102
       replace q102 := eq_true q102
       go_wp2_with (first | ((with_reducible refine gate_dst (N := 7) rfl ?_); refine box_event ?hg (N := 7) ?hd (cs := #[.int .i64 0, .int .u64 0, .int .u16 0]) (t := 45) ?hr ?_; (case hd => rfl); (case hg => rfl); (case hr => first | (go_simp; done) | (go_simp; rfl)); intro gb103 hg w8 hbox hb; have n0_ := Aside0.mk (blk_below (g := gb101) (o := .cells #[.int .u64 x102000_1, .int .u16 x102001_1] 26 (0, 0)) (by (with_reducible repeat (first | refine blk_drewN ?_ _ | refine blk_drew ?_ | refine blk_alloc ?_ _)); exact BK101.out) hb); have n1_ := Aside0.mk (below_step (by repeat (first | (with_reducible first | exact HB.out | apply below_alloc | apply pw_below_drewN | apply below_drew1 | refine below_set ?_ GE101.out) | exact HB.out)) hb); have n2_ := Aside0.mk (hbox); have n3_ := Aside0.mk ((by rw [hg]; exact (below_size (by repeat (first | (with_reducible first | exact HB.out | apply below_alloc | apply pw_below_drewN | apply below_drew1 | refine below_set ?_ GE101.out) | exact HB.out))) : w.heap.size ≤ gb103)); have n4_ := Aside0.mk ((by rw [hg]; exact (below_size (by repeat (first | (with_reducible first | exact HB.out | apply below_alloc | apply pw_below_drewN | apply below_drew1 | refine below_set ?_ GE101.out) | exact HB.out))) : w.heap.size ≤ gb103)); have n5_ := Aside0.mk ((by rw [hg]; exact Nat.ne_of_lt (blk_lt (g := gb101) (by (with_reducible repeat (first | refine blk_drewN ?_ _ | refine blk_drew ?_ | refine blk_alloc ?_ _)); exact BK101.out)) : gb101 ≠ gb103)); have n6_ := Aside0.mk ((by rw [hg]; exact Nat.ne_of_gt (blk_lt (g := gb101) (by (with_reducible repeat (first | refine blk_drewN ?_ _ | refine blk_drew ?_ | refine blk_alloc ?_ _)); exact BK101.out)) : gb103 ≠ gb101)); clear BK101; clear HB; have BK101 := n0_; have HB := n1_; have BK103 := n2_; have GW103 := n3_; have GE103 := n4_; have NB101_103 := n5_; have NB103_101 := n6_; clear n0_ n1_ n2_ n3_ n4_ n5_ n6_; clear hb hbox hg; have hnb9 := NB103_101.out; have hnc9 := NB101_103.out; obtain ⟨hcz10_0, hcz10_1, hcz10_2, hfz10_0, hfz10_1, hfz10_2⟩ := box3f (w := w8) (g := gb103) BK103.out; obtain ⟨hcz11_0, hcz11_1, hfz11_0, hfz11_1⟩ := box2f (w := w8) (g := gb101) BK101.out))
       refine bodyPost_ret (results_ct rfl _ _ gb101 26 #[.int .u64 ((rd_T45 l0 x10_1).f1.f0), .int .u16 ((rd_T45 l0 x10_1).f1.f1)] (0, 0) _ rfl (by (with_reducible repeat (first | refine blk_drewN ?_ _ | refine blk_drew ?_ | refine blk_alloc ?_ _)); refine blk_put (cs := #[.int .u64 ((rd_T45 l0 x10_1).f1.f0), .int .u16 x102001_1]) ?_ 1 _ rfl; (with_reducible repeat (first | refine blk_drewN ?_ _ | refine blk_drew ?_ | refine blk_alloc ?_ _)); refine blk_put (cs := #[.int .u64 x102000_1, .int .u16 x102001_1]) ?_ 0 _ rfl; (with_reducible repeat (first | refine blk_drewN ?_ _ | refine blk_drew ?_ | refine blk_alloc ?_ _)); refine blk_far ?_ NB101_103.out _; (with_reducible repeat (first | refine blk_drewN ?_ _ | refine blk_drew ?_ | refine blk_alloc ?_ _)); refine blk_far ?_ NB101_103.out _; (with_reducible repeat (first | refine blk_drewN ?_ _ | refine blk_drew ?_ | refine blk_alloc ?_ _)); refine blk_far ?_ NB101_103.out _; (with_reducible repeat (first | refine blk_drewN ?_ _ | refine blk_drew ?_ | refine blk_alloc ?_ _)); exact BK101.out) Try.underlying26 rfl (by kernel_rfl)) rfl ?_
       exact ⟨by first | rfl | (simp [errW_none, errW_some] <;> rfl) | (simp [*, errW_none, errW_some] <;> rfl), by repeat (first | (with_reducible first | exact HB.out | apply below_alloc | apply pw_below_drewN | apply below_drew1 | refine below_set ?_ GE101.out | refine below_set ?_ GE103.out) | exact HB.out)⟩
      ·rw [if_neg c7] at H
       have c7b0 : (((rd_T45 l0 x10_1).f0) == a1) = false := beq_eq_false_iff_ne.mpr c7
       have c7b1 : (((rd_T45 l0 x10_1).f0) != a1) = true := bne_iff_ne.mpr c7
       have H' := Aside0.mk H
       clear H
       have p102 : 0 ≤ (x10_1 : Int) := of_decide_eq_true (by first | (with_reducible assumption) | assumption)
       have q102 : x10_1 < (l0.length : Int) := of_decide_eq_true (by first | (with_reducible assumption) | assumption)
       obtain ⟨ad102, e102, hx102_0, hx102_1, hx102_2⟩ := at_T45 HR0.out x10_1 p102 q102
       cases e102
       replace hx102_0 := (HB.out.cell (World.block_lt_of_cell? w _ hx102_0)).trans hx102_0
       replace hx102_1 := (HB.out.cell (World.block_lt_of_cell? w _ hx102_1)).trans hx102_1
       replace hx102_2 := (HB.out.cell (World.block_lt_of_cell? w _ hx102_2)).trans hx102_2
       replace p102 := eq_true p102
       replace q102 := eq_true q102
       go_wp2_with (first | ((with_reducible refine gate_dst (N := 7) rfl ?_); refine box_event ?hg (N := 7) ?hd (cs := #[.int .i64 0, .int .u64 0, .int .u16 0]) (t := 45) ?hr ?_; (case hd => rfl); (case hg => rfl); (case hr => first | (go_simp; done) | (go_simp; rfl)); intro gb103 hg w12 hbox hb; have n0_ := Aside0.mk (blk_below (g := gb101) (o := .cells #[.int .u64 x102000_1, .int .u16 x102001_1] 26 (0, 0)) (by (with_reducible repeat (first | refine blk_drewN ?_ _ | refine blk_drew ?_ | refine blk_alloc ?_ _)); exact BK101.out) hb); have n1_ := Aside0.mk (below_step (by repeat (first | (with_reducible first | exact HB.out | apply below_alloc | apply pw_below_drewN | apply below_drew1 | refine below_set ?_ GE101.out) | exact HB.out)) hb); have n2_ := Aside0.mk (hbox); have n3_ := Aside0.mk ((by rw [hg]; exact (below_size (by repeat (first | (with_reducible first | exact HB.out | apply below_alloc | apply pw_below_drewN | apply below_drew1 | refine below_set ?_ GE101.out) | exact HB.out))) : w.heap.size ≤ gb103)); have n4_ := Aside0.mk ((by rw [hg]; exact (below_size (by repeat (first | (with_reducible first | exact HB.out | apply below_alloc | apply pw_below_drewN | apply below_drew1 | refine below_set ?_ GE101.out) | exact HB.out))) : w.heap.size ≤ gb103)); have n5_ := Aside0.mk ((by rw [hg]; exact Nat.ne_of_lt (blk_lt (g := gb101) (by (with_reducible repeat (first | refine blk_drewN ?_ _ | refine blk_drew ?_ | refine blk_alloc ?_ _)); exact BK101.out)) : gb101 ≠ gb103)); have n6_ := Aside0.mk ((by rw [hg]; exact Nat.ne_of_gt (blk_lt (g := gb101) (by (with_reducible repeat (first | refine blk_drewN ?_ _ | refine blk_drew ?_ | refine blk_alloc ?_ _)); exact BK101.out)) : gb103 ≠ gb101)); clear BK101; clear HB; have BK101 := n0_; have HB := n1_; have BK103 := n2_; have GW103 := n3_; have GE103 := n4_; have NB101_103 := n5_; have NB103_101 := n6_; clear n0_ n1_ n2_ n3_ n4_ n5_ n6_; clear hb hbox hg; have hnb13 := NB103_101.out; have hnc13 := NB101_103.out; obtain ⟨hcz14_0, hcz14_1, hcz14_2, hfz14_0, hfz14_1, hfz14_2⟩ := box3f (w := w12) (g := gb103) BK103.out))
       go_roundg k1
       case measure => have := HK1.out; omega
       case rel => exact ⟨(wrap64 (x10_1 + 1)), (x102000_1), (x102001_1), (by first | rfl | (simp; done) | (simp [*]; done)), H', ⟨by have := HK1.out; omega⟩, ⟨by (with_reducible repeat (first | refine blk_drewN ?_ _ | refine blk_drew ?_ | refine blk_alloc ?_ _)); refine blk_far ?_ NB101_103.out _; (with_reducible repeat (first | refine blk_drewN ?_ _ | refine blk_drew ?_ | refine blk_alloc ?_ _)); refine blk_far ?_ NB101_103.out _; (with_reducible repeat (first | refine blk_drewN ?_ _ | refine blk_drew ?_ | refine blk_alloc ?_ _)); refine blk_far ?_ NB101_103.out _; (with_reducible repeat (first | refine blk_drewN ?_ _ | refine blk_drew ?_ | refine blk_alloc ?_ _)); exact BK101.out⟩, ⟨by repeat (first | (with_reducible first | exact HB.out | apply below_alloc | apply pw_below_drewN | apply below_drew1 | refine below_set ?_ GE101.out | refine below_set ?_ GE103.out) | exact HB.out)⟩⟩
     ·rw [if_neg c6] at H
      exact absurd H (by simp)
    ·rw [if_neg c5] at H
     exact absurd H (by simp)
   ·rw [if_neg c4] at H
    have c4b0 : decide (x10_1 < (l0.length : Int)) = false := decide_eq_false c4
    clear c4
    simp only [Option.some.injEq, Prod.mk.injEq] at H
    obtain ⟨rfl, rfl, rfl⟩ := H
    obtain ⟨hcz15_0, hcz15_1, hfz15_0, hfz15_1⟩ := box2f (w := wr) (g := gb101) BK101.out
    go_wp2
    refine bodyPost_ret (results_ct rfl _ _ gb101 26 #[.int .u64 0, .int .u16 0] (0, 0) _ rfl (by (with_reducible repeat (first | refine blk_drewN ?_ _ | refine blk_drew ?_ | refine blk_alloc ?_ _)); refine blk_put (cs := #[.int .u64 0, .int .u16 x102001_1]) ?_ 1 _ rfl; (with_reducible repeat (first | refine blk_drewN ?_ _ | refine blk_drew ?_ | refine blk_alloc ?_ _)); refine blk_put (cs := #[.int .u64 x102000_1, .int .u16 x102001_1]) ?_ 0 _ rfl; (with_reducible repeat (first | refine blk_drewN ?_ _ | refine blk_drew ?_ | refine blk_alloc ?_ _)); exact BK101.out) Try.underlying26 rfl (by kernel_rfl)) rfl ?_
    exact ⟨by first | rfl | (simp [errW_none, errW_some] <;> rfl) | (simp [*, errW_none, errW_some] <;> rfl), by repeat (first | (with_reducible first | exact HB.out | apply below_alloc | apply pw_below_drewN | apply below_drew1 | refine below_set ?_ GE101.out) | exact HB.out)⟩

/-! ### api_Finger: function 19 -/
def api_Finger.f (l0 : List S45) : Option (List S45) := if l0.length * 24 ≤ 140737488355328 then some l0 else none
set_option maxHeartbeats 1000000 in
set_option maxRecDepth 100000 in
theorem api_Finger.calls (A0 : Option Addr) (c0 : Nat) (l0 : List S45) (r : List S45) (w : World) (hr0 : Kd.C k45 w A0 l0.length l0) (hc0 : l0.length ≤ c0) (h : api_Finger.f l0 = some r) :
    Calls Try.prog 19 #[.slice A0 l0.length c0] w fun e w' => ∃ v0_ : Value, e = .returned v0_ ∧ Kd.R k45 45 w' w.heap.size (fun _ => True) v0_ r ∧ Below w.heap.size w w' := by
  have hb : l0.length * 24 ≤ 140737488355328 := by
    unfold api_Finger.f at h
    split at h
    · assumption
    · cases h
  have hr : l0 = r := by
    unfold api_Finger.f at h
    rw [if_pos hb] at h
    exact Option.some.inj h
  subst hr
  clear h
  have q22 : ∀ (w : World) (a : Option Addr) (n c n' c' : Nat), (binOp .eql 22 (.slice a n c) (.slice none n' c')).run Try.prog w = .ok (.bool a.isNone) w := fun w a n c n' c' => Lib.run_eql_slice_nil w _ _ a n c n' c' Try.underlying22
  cases A0 with
  | none =>
    obtain rfl : l0 = [] := by
      rcases Nat.eq_zero_or_pos l0.length with h0 | h0
      · exact List.eq_nil_of_length_eq_zero h0
      · obtain ⟨_, h1, _⟩ := hr0.2.2 h0
        cases h1
    clear hr0 hc0 hb
    go_enter Try.func19, Try.ntmps19
    go_wp2
    go_ret
    exact ⟨_, rfl, Kd.R_nil _ _ _ _ _, Below.refl _ _⟩
  | some a0 =>
    have HR := Aside0.mk (show ReadsRow (k45.K w) 3 (w.alloc (.cells #[] 45)) (some a0) l0.length l0 from hr0.imp_ (below_alloc (Below.refl _ _) _) (fun _ _ h => h))
    have HL := Aside0.mk hb
    have HO := Aside0.mk (show Kd.R k45 45 (w.alloc (.cells #[] 45)) w.heap.size (fun _ => True) (.slice (some ⟨w.heap.size, 0, none⟩) 0 0) [] from ⟨fun _ _ => trivial, [], World.ownsRow_made w #[] 0 (Nat.le_refl _) (by decide) (by simp), Reps.none _ _⟩)
    have HB := Aside0.mk (below_alloc (Below.refl w.heap.size w) (.cells #[] 45))
    clear hr0 hc0 hb
    go_enter Try.func19, Try.ntmps19
    go_wp2_with (at_builtin; refine Kd.R_append_rows k45 (Rr := k45.K w) w.heap.size rfl _ _ 22 45 _ 24 rfl Try.underlying22 info45 rfl (by decide) (by decide) _ [] l0 _ _ _ (fun _ => True) (fun _ => False) rfl rfl HO.out HR.out (fun _ _ h => h) (fun _ h => h.elim) (fun _ _ => trivial) HB.out (by simp) (by simpa using HL.out) ?_; intro v1 w1 hown hB hg hat)
    go_wp2
    go_ret
    exact ⟨v1, rfl, hown, hB⟩

/-! ### fings_Set: function 10 -/
open Go Go.Proofs Go.Lib Go.Proofs.YtnnhmceaoobihaaW.PrintFlat Go.Proofs.YtnnhmceaoobihaaW.PrintIns
set_option maxRecDepth 100000 in
theorem set_clo21 (x : S45) (a1 : Int) (B0 : Nat) (W : World) (hb0 : W.cell? ⟨B0, 0, none⟩ = some (.int .i64 a1)) :
    Calls Try.prog 21 #[.agg #[.int .i64 x.f0, .int .u64 x.f1.f0, .int .u16 x.f1.f1], .pointer (some ⟨B0, 0, none⟩)] W fun e w' => e = .returned (.bool (x.f0 == a1)) ∧ Below W.heap.size W w' := by
  have hu := Try.underlying45
  have hp0 : (W.alloc (.cells #[.int .i64 x.f0, .int .u64 x.f1.f0, .int .u16 x.f1.f1] 45)).cell? ⟨B0, 0, none⟩ = some (.int .i64 a1) := pw_cell_below (below_alloc (Below.refl _ _) _) hb0
  go_enter Try.func21, Try.ntmps21
  go_wp2
  all_goals go_ret
  all_goals exact ⟨by first | rfl | simp_all, below_alloc (Below.refl _ _) _⟩
set_option maxRecDepth 100000 in
theorem set_clo22 (x : S45) (a1 : Int) (B0 : Nat) (W : World) (hb0 : W.cell? ⟨B0, 0, none⟩ = some (.int .i64 a1)) :
    Calls Try.prog 22 #[.agg #[.int .i64 x.f0, .int .u64 x.f1.f0, .int .u16 x.f1.f1], .pointer (some ⟨B0, 0, none⟩)] W fun e w' => e = .returned (.bool (decide (x.f0 > a1))) ∧ Below W.heap.size W w' := by
  have hu := Try.underlying45
  have hp0 : (W.alloc (.cells #[.int .i64 x.f0, .int .u64 x.f1.f0, .int .u16 x.f1.f1] 45)).cell? ⟨B0, 0, none⟩ = some (.int .i64 a1) := pw_cell_below (below_alloc (Below.refl _ _) _) hb0
  go_enter Try.func22, Try.ntmps22
  go_wp2
  all_goals go_ret
  all_goals exact ⟨by first | rfl | simp_all, below_alloc (Below.refl _ _) _⟩

def fings_Set.f (l0 : List S45) (a1 a2_0 a2_1 : Int) : Option (List S45) :=
  if l0.length < 1048576 then some (if a1 < 0 ∨ a1 > 63 then l0 else
    if 0 ≤ Go.Proofs.YtnnhmceaoobihaaW.PrintIdx.firstIdx (fun x => x.f0 == a1) l0 then l0.set (Go.Proofs.YtnnhmceaoobihaaW.PrintIdx.firstIdx (fun x => x.f0 == a1) l0).toNat ⟨a1, ⟨a2_0, a2_1⟩⟩
    else if 0 ≤ Go.Proofs.YtnnhmceaoobihaaW.PrintIdx.firstIdx (fun x => decide (x.f0 > a1)) l0 then l0.take (Go.Proofs.YtnnhmceaoobihaaW.PrintIdx.firstIdx (fun x => decide (x.f0 > a1)) l0).toNat ++ ⟨a1, ⟨a2_0, a2_1⟩⟩ :: l0.drop (Go.Proofs.YtnnhmceaoobihaaW.PrintIdx.firstIdx (fun x => decide (x.f0 > a1)) l0).toNat
    else l0 ++ [⟨a1, ⟨a2_0, a2_1⟩⟩]) else none
set_option maxHeartbeats 2000000 in
set_option maxRecDepth 100000 in
theorem fings_Set.calls (A0 : Option Addr) (c0 : Nat) (l0 : List S45) (a1 a2_0 a2_1 : Int) (r : List S45) (w : World) (hr0 : Kd.C k45 w A0 l0.length l0) (hc0 : l0.length ≤ c0) (h : fings_Set.f l0 a1 a2_0 a2_1 = some r) :
    Calls Try.prog 10 #[.slice A0 l0.length c0, .int .i64 a1, .agg #[.int .u64 a2_0, .int .u16 a2_1]] w fun e w' => ∃ v0_ : Value, e = .returned v0_ ∧ Kd.R k45 45 w' w.heap.size (fun _ => True) v0_ r ∧ Below w.heap.size w w' := by
  have hl : l0.length < 1048576 := by
    unfold fings_Set.f at h
    split at h
    · assumption
    · cases h
  unfold fings_Set.f at h
  rw [if_pos hl] at h
  have hr := Option.some.inj h
  clear h
  obtain ⟨N, hN⟩ : ∃ N, N = w.heap.size := ⟨_, rfl⟩
  obtain ⟨W0, hW0⟩ : ∃ W0, W0 = (w.alloc (.cells #[.int .i64 a1] 3)).alloc (.cells #[.int .u64 a2_0, .int .u16 a2_1] 26) := ⟨_, rfl⟩
  have hB0 : Below N w W0 := by rw [hW0, hN]; exact below_alloc (below_alloc (Below.refl _ w) _) _
  have hs0 : W0.heap.size = N + 2 := by rw [hW0, hN]; simp
  have hC0 : Kd.C k45 W0 A0 l0.length l0 := Kd.C_below hr0 (hN ▸ hB0)
  have hclone := api_Finger.calls A0 c0 l0 l0 W0 hC0 hc0 (by unfold api_Finger.f; rw [if_pos (by omega)])
  have hc1 : W0.cell? ⟨N, 0, none⟩ = some (.int .i64 a1) := by rw [hW0, hN]; simp
  have hc2 : W0.cell? ⟨N + 1, 0, none⟩ = some (.int .u64 a2_0) := by rw [hW0, hN]; simp
  have hc3 : W0.cell? ⟨N + 1, 1, none⟩ = some (.int .u16 a2_1) := by rw [hW0, hN]; simp
  have HC1 := Aside0.mk hc1
  have HC2 := Aside0.mk hc2
  have HC3 := Aside0.mk hc3
  have HB0 := Aside0.mk hB0
  have HS0 := Aside0.mk hs0
  have HCL := Aside0.mk hclone
  have HR := Aside0.mk hr
  have HNS := Aside0.mk hN
  have HL := Aside0.mk hl
  subst hN
  subst hW0
  clear hc1 hc2 hc3 hB0 hs0 hclone hr hr0 hc0 hC0 hl
  go_enter Try.func10, Try.ntmps10
  go_wp2_with fail
  refine HCL.out.mono ?_
  rintro e w1 ⟨v1, rfl, HO, hb1⟩
  obtain ⟨A1, c1, rfl, hc1l, hCr⟩ := Kd.R_reads HO
  have HO1 := Aside0.mk HO
  have HCr := Aside0.mk hCr
  have HB1 := Aside0.mk hb1
  have g1 := (hb1.cell (p := ⟨w.heap.size, 0, none⟩) (by rw [HS0.out]; show w.heap.size < _; omega)).trans HC1.out
  have g2 := (hb1.cell (p := ⟨w.heap.size + 1, 0, none⟩) (by rw [HS0.out]; show w.heap.size + 1 < _; omega)).trans HC2.out
  have g3 := (hb1.cell (p := ⟨w.heap.size + 1, 1, none⟩) (by rw [HS0.out]; show w.heap.size + 1 < _; omega)).trans HC3.out
  have HG2 := Aside0.mk g2
  have HG3 := Aside0.mk g3
  have HBw := Aside0.mk (below_then HB0.out HB0.out.size hb1)
  clear HO hCr hb1 HCL
  by_cases hbit : a1 < 0 ∨ a1 > 63
  · have hr := HR.out
    rw [if_pos hbit] at hr
    have hlt : (if a1 < 0 then true else decide (a1 > 63)) = true := by
      by_cases h0 : a1 < 0
      · simp [h0]
      · simp [h0, (hbit.resolve_left h0)]
    have HRr := Aside0.mk hr
    clear hr g2 g3
    have hfin : ∃ v0_, Ending.returned (.slice A1 l0.length c1) = .returned v0_ ∧ Kd.R k45 45 w1 w.heap.size (fun _ => True) v0_ r ∧ Below w.heap.size w w1 :=
      ⟨_, rfl, HRr.out ▸ Kd.R_lower HO1.out (by rw [HS0.out]; omega), HBw.out⟩
    have HF := Aside0.mk hfin
    clear hfin
    rcases Int.lt_or_le a1 0 with h0 | h0
    · go_wp2
      go_ret
      exact HF.out
    · have h1 : 63 < a1 := by omega
      have h2 : ¬ a1 < 0 := by omega
      go_wp2
      go_ret
      exact HF.out
  · have hr := HR.out
    rw [if_neg hbit] at hr
    have hn1 : ¬ a1 < 0 := fun h => hbit (.inl h)
    have hn2 : ¬ 63 < a1 := fun h => hbit (.inr h)
    have hNlt : w.heap.size + 1 < w1.heap.size := by have := HB1.out.size; rw [HS0.out] at this; omega
    have hi1 := idx_45 (fun x => x.f0 == a1) 21 #[.pointer (some ⟨w.heap.size, 0, none⟩)] (enters_of Try.func21 (by kernel_rfl) rfl) A1 c1 l0 w1 HCr.out (fun W x hb => set_clo21 x a1 _ W ((hb.cell (show w.heap.size < w1.heap.size by omega)).trans g1))
    obtain ⟨K1, hK1⟩ : ∃ K1, K1 = Go.Proofs.YtnnhmceaoobihaaW.PrintIdx.firstIdx (fun x => x.f0 == a1) l0 := ⟨_, rfl⟩
    rw [← hK1] at hr hi1
    have HI1 := Aside0.mk hi1
    have HR1 := Aside0.mk hr
    have HK1 := Aside0.mk hK1
    have HNL := Aside0.mk hNlt
    clear hi1 hr HR hNlt hK1 hbit
    go_wp2_with fail
    refine HI1.out.mono ?_
    rintro e w2 ⟨rfl, hb2⟩
    have g4 := (hb2.cell (p := ⟨w.heap.size, 0, none⟩) (show w.heap.size < w1.heap.size by have := HNL.out; omega)).trans g1
    have g5 := (hb2.cell (p := ⟨w.heap.size + 1, 0, none⟩) (show w.heap.size + 1 < w1.heap.size from HNL.out)).trans g2
    have g6 := (hb2.cell (p := ⟨w.heap.size + 1, 1, none⟩) (show w.heap.size + 1 < w1.heap.size from HNL.out)).trans g3
    have hO2 : Kd.R k45 45 w2 w.heap.size (fun _ => True) (.slice A1 l0.length c1) l0 := Kd.R_below (Kd.R_lower HO1.out (by rw [HS0.out]; omega)) hb2
    have HO2 := Aside0.mk hO2
    have HB2 := Aside0.mk hb2
    have HBw2 := Aside0.mk (below_then HBw.out HBw.out.size hb2)
    have hNlt2 : w.heap.size + 1 < w2.heap.size := Nat.lt_of_lt_of_le HNL.out hb2.size
    have HNL2 := Aside0.mk hNlt2
    clear HI1 g1 g2 g3 hb2 hO2 hNlt2
    by_cases hp : 0 ≤ K1
    · have hr := HR1.out
      rw [if_pos hp] at hr
      have hlt : K1 < (l0.length : Int) := by have := Go.Proofs.YtnnhmceaoobihaaW.PrintIdx.firstIdx_range (fun x : S45 => x.f0 == a1) l0; rw [← HK1.out] at this; omega
      have hof := owned_flat k45 45 enc45 (fun _ => rfl) (fun h => k45_openM h) HO2.out
      rcases hof with ⟨_, rfl⟩ | ⟨b, cap, cur, hv, hb, hokb, hh, q1, q2, q3, q4⟩
      · simp at hlt; omega
      injection hv with hv1 hv2 hv3
      subst hv1
      subst hv3
      obtain ⟨k, hk⟩ : ∃ k : Nat, K1 = k := ⟨K1.toNat, by omega⟩
      subst hk
      have hkl : k < l0.length := by omega
      have hk3 : k45.sz = 3 := rfl
      rw [hk3] at q3 q4
      have z0 : (0 : Int) ≤ (k : Int) := by omega
      have z1 : w2.frozen? ⟨b, k * 3 + 1, none⟩ = false := by unfold World.frozen?; rw [hh]; simp
      have z2 : w2.frozen? ⟨b, k * 3 + 2, none⟩ = false := by unfold World.frozen?; rw [hh]; simp
      have z3 : ∃ v, w2.cell? ⟨b, k * 3 + 1, none⟩ = some v := by
        unfold World.cell?; rw [hh]; show ∃ v, cur[k * 3 + 1]? = some v
        exact ⟨_, Array.getElem?_eq_getElem (by omega)⟩
      have z4 : ∃ v, w2.cell? ⟨b, k * 3 + 2, none⟩ = some v := by
        unfold World.cell?; rw [hh]; show ∃ v, cur[k * 3 + 2]? = some v
        exact ⟨_, Array.getElem?_eq_getElem (by omega)⟩
      obtain ⟨u1, z3⟩ := z3
      obtain ⟨u2, z4⟩ := z4
      have HH := Aside0.mk hh
      have HQ := Aside0.mk (And.intro hb (And.intro q1 (And.intro q2 (And.intro q3 q4))))
      have HRR := Aside0.mk hr
      have HKL := Aside0.mk hkl
      clear hh q2 q3 q4 hb hr hp hkl hokb
      go_wp2
      go_ret
      have hkl := HKL.out
      have hgk : (l0[k]'hkl).f0 = a1 := by
        have h := HK1.out
        unfold Go.Proofs.YtnnhmceaoobihaaW.PrintIdx.firstIdx at h
        cases hf : l0.findIdx? (fun x => x.f0 == a1) with
        | none => rw [hf] at h; simp at h; try omega
        | some j =>
          rw [hf] at h
          simp at h
          have hjk : k = j := by omega
          subst hjk
          obtain ⟨hj, hp, _⟩ := List.findIdx?_eq_some_iff_getElem.1 hf
          simpa using hp
      have hfl := HQ.out.2.2.2.2
      have hcc : ∀ j u, (enc45 (l0[k]'hkl))[j]? = some u → w2.cell? ⟨b, (k : Int).toNat * k45.sz + j, none⟩ = some u := by
        intro j u hju
        have hj3 : j < 3 := (List.getElem?_eq_some_iff.1 hju).1
        have h1 := flat_get enc45 3 (fun _ => rfl) l0 k _ (List.getElem?_eq_getElem hkl) j hj3
        rw [hju, ← hfl, List.getElem?_take] at h1
        split at h1
        · unfold World.cell?
          show (match w2.heap[b]? with | some (.cells c _ _) => _ | _ => _) = _
          rw [HH.out]
          show cur[(k : Int).toNat * k45.sz + j]? = some u
          rw [← Array.getElem?_toList]
          exact h1
        · cases h1
      obtain ⟨hrow, hg⟩ := Kd.R_seg HO2.out (k : Int) (by omega) (by omega) (seg := [.int .u64 a2_0, .int .u16 a2_1]) (j := 1) (x' := ⟨a1, ⟨a2_0, a2_1⟩⟩) (okp := fun _ => False) (show (enc45 (l0[k]'hkl)).length = 3 from rfl) hcc (show 1 + 2 ≤ 3 from Nat.le_refl 3)
        (by have := k45_mkM w2 w.heap.size (fun _ => False) ⟨a1, ⟨a2_0, a2_1⟩⟩; unfold enc45; rw [hgk]; exact this) (fun _ h => h.elim)
      refine ⟨_, rfl, ?_, ?_⟩
      · rw [← HRR.out]; exact hrow
      · have hB := HBw2.out
        have hb := HQ.out.1
        exact ⟨hg.os.trans hB.os, hg.tape.trans hB.tape, hg.output.trans hB.output, Nat.le_trans hB.size hg.size, fun j hj => (hg.block j (Nat.lt_of_lt_of_le hj hB.size) (by simp [Value.ownBlock]; omega)).trans (hB.block j hj)⟩
    · have hr := HR1.out
      rw [if_neg hp] at hr
      have hi2 := idx_45 (fun x => decide (x.f0 > a1)) 22 #[.pointer (some ⟨w.heap.size, 0, none⟩)] (enters_of Try.func22 (by kernel_rfl) rfl) A1 c1 l0 w2 (Kd.R_reads' HO2.out).2.2 (fun W x hb => set_clo22 x a1 _ W ((hb.cell (show w.heap.size < w2.heap.size by have := HNL2.out; omega)).trans g4))
      obtain ⟨K2, hK2⟩ : ∃ K2, K2 = Go.Proofs.YtnnhmceaoobihaaW.PrintIdx.firstIdx (fun x => decide (x.f0 > a1)) l0 := ⟨_, rfl⟩
      rw [← hK2] at hr hi2
      have HI2 := Aside0.mk hi2
      have HR2 := Aside0.mk hr
      have HK2 := Aside0.mk hK2
      clear hi2 hr HR1 hK2 HK1
      go_wp2_with fail
      refine HI2.out.mono ?_
      rintro e w3 ⟨rfl, hb3⟩
      have g7 := (hb3.cell (p := ⟨w.heap.size, 0, none⟩) (show w.heap.size < w2.heap.size by have := HNL2.out; omega)).trans g4
      have g8 := (hb3.cell (p := ⟨w.heap.size + 1, 0, none⟩) (show w.heap.size + 1 < w2.heap.size from HNL2.out)).trans g5
      have g9 := (hb3.cell (p := ⟨w.heap.size + 1, 1, none⟩) (show w.heap.size + 1 < w2.heap.size from HNL2.out)).trans g6
      have HO3 := Aside0.mk (Kd.R_below HO2.out hb3)
      have HBw3 := Aside0.mk (below_then HBw2.out HBw2.out.size hb3)
      clear HI2 g4 g5 g6 hb3
      by_cases hk2 : K2 < 0
      · go_wp2_with fail
        refine (ins_R w.heap.size (fun _ => True) _ l0 l0.length ⟨a1, ⟨a2_0, a2_1⟩⟩ w3.heap.size _ (Nat.le_refl _) (Kd.R_below HO3.out (below_alloc (Below.refl _ w3) _)) (fun b hb => by have := Kd.R_lt HO3.out b hb; omega) (heap_alloc_new w3 _) (by have := HL.out; omega) (fun _ _ => trivial) (Nat.le_trans HBw3.out.size (below_alloc (Below.refl _ w3) _).size)).mono ?_
        rintro e w4 ⟨v4, rfl, hO4, hb4⟩
        have hk2' := Aside0.mk hk2
        clear g7 g8 g9 hk2
        have hfin : ∃ v0_, Ending.returned v4 = .returned v0_ ∧ Kd.R k45 45 w4 w.heap.size (fun _ => True) v0_ r ∧ Below w.heap.size w w4 :=
          ⟨_, rfl, (by have hr := HR2.out; rw [if_neg (by have := hk2'.out; omega)] at hr; rw [← hr]; rw [List.take_length, List.drop_length] at hO4; exact hO4), (below_alloc HBw3.out _).trans hb4⟩
        have HF := Aside0.mk hfin
        clear hfin hO4 hb4
        go_wp2
        go_ret
        exact HF.out
      · obtain ⟨j, hj⟩ : ∃ j : Nat, K2 = j := ⟨K2.toNat, by omega⟩
        have hjl : j < l0.length := by have := Go.Proofs.YtnnhmceaoobihaaW.PrintIdx.firstIdx_range (fun x => decide (x.f0 > a1)) l0; rw [← HK2.out] at this; omega
        subst hj
        have HJL := Aside0.mk hjl
        have hk2 : ¬ ((j : Nat) : Int) < 0 := by omega
        clear hjl
        go_wp2_with fail
        refine (ins_R w.heap.size (fun _ => True) _ l0 j ⟨a1, ⟨a2_0, a2_1⟩⟩ w3.heap.size _ (Nat.le_of_lt HJL.out) (Kd.R_below HO3.out (below_alloc (Below.refl _ w3) _)) (fun b hb => by have := Kd.R_lt HO3.out b hb; omega) (heap_alloc_new w3 _) (by have := HL.out; omega) (fun _ _ => trivial) (Nat.le_trans HBw3.out.size (below_alloc (Below.refl _ w3) _).size)).mono ?_
        rintro e w4 ⟨v4, rfl, hO4, hb4⟩
        clear g7 g8 g9 hk2
        have hfin : ∃ v0_, Ending.returned v4 = .returned v0_ ∧ Kd.R k45 45 w4 w.heap.size (fun _ => True) v0_ r ∧ Below w.heap.size w w4 :=
          ⟨_, rfl, (by have hr := HR2.out; rw [if_pos (by omega), Int.toNat_natCast] at hr; rw [← hr]; exact hO4), (below_alloc HBw3.out _).trans hb4⟩
        have HF := Aside0.mk hfin
        clear hfin hO4 hb4
        go_wp2
        go_ret
        exact HF.out



/-! ### fings_Drop: function 12 -/
open Go Go.Proofs Go.Lib Go.Proofs.YtnnhmceaoobihaaW.PrintFlat Go.Proofs.YtnnhmceaoobihaaW.PrintIns
set_option maxRecDepth 100000 in
theorem drop_clo (x : S45) (a1 : Int) (B0 : Nat) (W : World) (hb0 : W.cell? ⟨B0, 0, none⟩ = some (.int .u16 a1)) :
    Calls Try.prog 25 #[.agg #[.int .i64 x.f0, .int .u64 x.f1.f0, .int .u16 x.f1.f1], .pointer (some ⟨B0, 0, none⟩)] W fun e w' => e = .returned (.bool (x.f1.f1 == a1)) ∧ Below W.heap.size W w' := by
  have hu := Try.underlying45
  have hp0 : (W.alloc (.cells #[.int .i64 x.f0, .int .u64 x.f1.f0, .int .u16 x.f1.f1] 45)).cell? ⟨B0, 0, none⟩ = some (.int .u16 a1) := pw_cell_below (below_alloc (Below.refl _ _) _) hb0
  go_enter Try.func25, Try.ntmps25
  go_wp2
  all_goals go_ret
  all_goals exact ⟨by first | rfl | simp_all, below_alloc (Below.refl _ _) _⟩
def fings_Drop.f (l0 : List S45) (a1 : Int) : Option (List S45) := if l0.length < 1048576 then some (l0.filter fun x => x.f1.f1 != a1) else none
set_option maxHeartbeats 2000000 in
set_option maxRecDepth 100000 in
theorem fings_Drop.calls (A0 : Option Addr) (c0 : Nat) (l0 : List S45) (a1 : Int) (r : List S45) (w : World) (hr0 : Kd.C k45 w A0 l0.length l0) (hc0 : l0.length ≤ c0) (h : fings_Drop.f l0 a1 = some r) :
    Calls Try.prog 12 #[.slice A0 l0.length c0, .int .u16 a1] w fun e w' => ∃ v0_ : Value, e = .returned v0_ ∧ Kd.R k45 45 w' w.heap.size (fun _ => True) v0_ r ∧ Below w.heap.size w w' := by
  have hl : l0.length < 1048576 := by
    unfold fings_Drop.f at h
    split at h
    · assumption
    · cases h
  unfold fings_Drop.f at h
  rw [if_pos hl] at h
  have hr : l0.filter (fun x => !(x.f1.f1 == a1)) = r := Option.some.inj h
  clear h
  have hB0 : Below w.heap.size w (w.alloc (.cells #[.int .u16 a1] 24)) := below_alloc (Below.refl _ w) _
  have hs0 : (w.alloc (.cells #[.int .u16 a1] 24)).heap.size = w.heap.size + 1 := by simp
  have hC0 : Kd.C k45 (w.alloc (.cells #[.int .u16 a1] 24)) A0 l0.length l0 := Kd.C_below hr0 hB0
  have hclone := api_Finger.calls A0 c0 l0 l0 _ hC0 hc0 (by unfold api_Finger.f; rw [if_pos (by omega)])
  have hc1 : (w.alloc (.cells #[.int .u16 a1] 24)).cell? ⟨w.heap.size, 0, none⟩ = some (.int .u16 a1) := by simp
  have HC1 := Aside0.mk hc1
  have HB0 := Aside0.mk hB0
  have HS0 := Aside0.mk hs0
  have HCL := Aside0.mk hclone
  have HR := Aside0.mk hr
  clear hc1 hB0 hs0 hclone hr hr0 hc0 hC0 hl
  go_enter Try.func12, Try.ntmps12
  go_wp2_with fail
  refine HCL.out.mono ?_
  rintro e w1 ⟨v1, rfl, HO, hb1⟩
  have hlt : w.heap.size < w1.heap.size := by have := hb1.size; rw [HS0.out] at this; omega
  have g1 := (hb1.cell (p := ⟨w.heap.size, 0, none⟩) (by rw [HS0.out]; show w.heap.size < _; omega)).trans HC1.out
  have hd := del_R (fun x => x.f1.f1 == a1) 25 #[.pointer (some ⟨w.heap.size, 0, none⟩)] (enters_of Try.func25 (by kernel_rfl) rfl) (w.heap.size + 1) (fun _ => True) v1 l0 w1 (HS0.out ▸ HO) (by omega)
    (fun W x hb => drop_clo x a1 _ W ((hb.cell (show w.heap.size < w.heap.size + 1 by omega)).trans g1))
  have HD := Aside0.mk hd
  have HBw := Aside0.mk (below_then HB0.out HB0.out.size hb1)
  clear hd g1 hlt HO hb1 HCL
  go_wp2_with fail
  refine HD.out.mono ?_
  rintro e w2 ⟨v2, rfl, hO2, hb2⟩
  have hfin : ∃ v0_, Ending.returned v2 = .returned v0_ ∧ Kd.R k45 45 w2 w.heap.size (fun _ => True) v0_ r ∧ Below w.heap.size w w2 :=
    ⟨_, rfl, HR.out ▸ Kd.R_lower hO2 (by omega), HBw.out.trans (hb2.mono (by omega))⟩
  have HF := Aside0.mk hfin
  clear hfin hO2 hb2 HD
  go_wp2
  go_ret
  exact HF.out



/-! ### ring_Dist: function 18 -/
def ring_Dist.f (a0 : Int) (a1 : Int) : Option (Int) := some (IntKind.u64.wrap (a1 - a0))
set_option maxHeartbeats 8000000 in
set_option maxRecDepth 100000 in
theorem ring_Dist.calls (a0 : Int) (a1 : Int) (r : Int) (w : World) (h : ring_Dist.f a0 a1 = some r) :
  Calls Try.prog 18 #[.int .u64 a0, .int .u64 a1] w fun e w' => e = .returned (.int .u64 r) ∧ Drawn0 w w' := by
 have H : (some (IntKind.u64.wrap (a1 - a0))) = some r := h
 clear h
 obtain rfl := Option.some.inj H
 go_enter Try.func18, Try.ntmps18
 go_wp2
 go_ret
 exact ⟨by first | rfl | (simp; done) | (simp [*]; done), by repeat (first | exact Drawn0.refl _ | apply Drawn0.step)⟩

/-! ### ring_Between: function 17 -/
def ring_Between.f (a0 : Int) (a1 : Int) (a2 : Int) : Option (Bool) := if a1 = a0 then (some false) else (if a0 = a2 then (some true) else ((ring_Dist.f a0 a1).bind fun t104 => ((ring_Dist.f a0 a2).bind fun t105 => (some (decide (t104 < t105))))))
set_option maxHeartbeats 8000000 in
set_option maxRecDepth 100000 in
theorem ring_Between.calls (a0 : Int) (a1 : Int) (a2 : Int) (r : Bool) (w : World) (h : ring_Between.f a0 a1 a2 = some r) :
  Calls Try.prog 17 #[.int .u64 a0, .int .u64 a1, .int .u64 a2] w fun e w' => e = .returned (.bool r) ∧ Drawn0 w w' := by
 have H : (if a1 = a0 then (some false) else (if a0 = a2 then (some true) else ((ring_Dist.f a0 a1).bind fun t104 => ((ring_Dist.f a0 a2).bind fun t105 => (some (decide (t104 < t105))))))) = some r := h
 clear h
 by_cases c4 : a1 = a0
 ·rw [if_pos c4] at H
  have c4b0 : (a1 == a0) = true := beq_iff_eq.mpr c4
  have c4b1 : (a1 != a0) = false := bne_eq_false_iff_eq.mpr c4
  clear c4
  obtain rfl := Option.some.inj H
  go_enter Try.func17, Try.ntmps17
  go_wp2
  go_ret
  exact ⟨by first | rfl | (simp; done) | (simp [*]; done), by repeat (first | exact Drawn0.refl _ | apply Drawn0.step)⟩
 ·rw [if_neg c4] at H
  have c4b0 : (a1 == a0) = false := beq_eq_false_iff_ne.mpr c4
  have c4b1 : (a1 != a0) = true := bne_iff_ne.mpr c4
  by_cases c5 : a0 = a2
  ·rw [if_pos c5] at H
   have c5b0 : (a0 == a2) = true := beq_iff_eq.mpr c5
   have c5b1 : (a0 != a2) = false := bne_eq_false_iff_eq.mpr c5
   clear c5
   obtain rfl := Option.some.inj H
   go_enter Try.func17, Try.ntmps17
   go_wp2
   go_ret
   exact ⟨by first | rfl | (simp; done) | (simp [*]; done), by repeat (first | exact Drawn0.refl _ | apply Drawn0.step)⟩
  ·rw [if_neg c5] at H
   have c5b0 : (a0 == a2) = false := beq_eq_false_iff_ne.mpr c5
   have c5b1 : (a0 != a2) = true := bne_iff_ne.mpr c5
   replace H := Option.bind_eq_some_iff.mp H
   obtain ⟨t104, A60, H⟩ := H
   replace H : ((ring_Dist.f a0 a2).bind fun t105 => (some (decide (t104 < t105)))) = some r := H
   have A6 := Aside0.mk A60
   clear A60
   replace H := Option.bind_eq_some_iff.mp H
   obtain ⟨t105, A70, H⟩ := H
   replace H : (some (decide (t104 < t105))) = some r := H
   have A7 := Aside0.mk A70
   clear A70
   obtain rfl := Option.some.inj H
   go_enter Try.func17, Try.ntmps17
   go_wp2_with (first | (go_at_call 18; (with_reducible refine (ring_Dist.calls a0 a1 t104 _ A6.out).mono ?_); rintro e w' ⟨rfl, ⟨nd, rfl⟩⟩) | (go_at_call 18; (with_reducible refine (ring_Dist.calls a0 a2 t105 _ A7.out).mono ?_); rintro e w' ⟨rfl, ⟨nd, rfl⟩⟩))
   go_ret
   exact ⟨by first | rfl | (simp; done) | (simp [*]; done), by repeat (first | exact Drawn0.refl _ | apply Drawn0.step)⟩

/-! ### peers_Firm: function 26 -/
def peers_Firm.f (l0 : List S43) : Option (List S26) := if l0.length < 8796093022208 then some ((l0.filter fun x => decide (x.f1 ≤ 0)).map fun x => x.f0) else none
set_option maxRecDepth 100000 in
theorem peers_Firm.clo (x : S43) (W : World) :
    Calls Try.prog 41 #[.agg #[.int .u64 x.f0.f0, .int .u16 x.f0.f1, .int .i64 x.f1]] W fun e w' => e = .returned (.bool (decide (x.f1 ≤ 0))) ∧ Below W.heap.size W w' := by
  have hu := Try.underlying43
  go_enter Try.func41, Try.ntmps41
  go_wp2
  all_goals go_ret
  all_goals exact ⟨by first | rfl | simp_all, (Below.refl _ _).alloc (Nat.le_refl _) _⟩
set_option maxHeartbeats 1000000 in
set_option maxRecDepth 100000 in
theorem peers_Firm.calls (A0 : Option Addr) (c0 : Nat) (l0 : List S43) (r : List S26) (w : World) (hr0 : Kd.C k43 w A0 l0.length l0) (hc0 : l0.length ≤ c0) (h : peers_Firm.f l0 = some r) :
    Calls Try.prog 26 #[.slice A0 l0.length c0] w fun e w' => ∃ v0_ : Value, e = .returned v0_ ∧ Kd.R k26 26 w' w.heap.size (fun _ => True) v0_ r ∧ Below w.heap.size w w' := by
  have hlim : l0.length < 8796093022208 := by
    unfold peers_Firm.f at h
    split at h
    · assumption
    · cases h
  have hr : (l0.filter fun x => decide (x.f1 ≤ 0)).map (fun x => x.f0) = r := by
    unfold peers_Firm.f at h
    rw [if_pos hlim] at h
    exact Option.some.inj h
  subst hr
  have hc := some_calls (fun x => decide (x.f1 ≤ 0)) 41 #[] (enters_of Try.func41 (by kernel_rfl) rfl) A0 c0 l0 w hr0 hlim (fun W x _ => peers_Firm.clo x W)
  have HC := Aside0.mk hc
  clear hc h hr0 hlim hc0
  go_enter Try.func26, Try.ntmps26
  go_wp2_with fail
  refine HC.out.mono ?_
  rintro e w1 ⟨v0_, rfl, hO, hb⟩
  have HO := Aside0.mk hO
  clear hO
  go_wp2
  go_ret
  exact ⟨_, rfl, HO.out, hb⟩


/-! ### cmp_Or_int: function 31 -/
def cmp_Or_int.l0 : Nat → Int → List Int → Int → Int → Option (Int)
 | 0, _, _, _, _ => none
 | k + 1, x3, x6, x7, x8 => if x8 < x7 then (if 0 ≤ x8 then (if x8 < (x6.length : Int) then (if (rd x6 x8) = x3 then (cmp_Or_int.l0 k x3 x6 x7 (wrap64 (x8 + 1))) else (some (rd x6 x8))) else (none)) else (none)) else (some x3)
def cmp_Or_int.f (k : Nat) (l0 : List Int) : Option (Int) := cmp_Or_int.l0 k 0 l0 (l0.length : Int) 0
theorem cmp_Or_int.mono_l : ∀ k, (∀ y0 y1 y2 y3, LeO (cmp_Or_int.l0 k y0 y1 y2 y3) (cmp_Or_int.l0 (k + 1) y0 y1 y2 y3))
 | 0 => fun _ _ _ _ r h => by simp [cmp_Or_int.l0] at h
 | k + 1 => by
  have ih0 := cmp_Or_int.mono_l k
  ·intro y0 y1 y2 y3
   unfold cmp_Or_int.l0
   repeat' first
   | (with_reducible exact ih0 _ _ _ _)
   | (with_reducible exact LeO.refl _)
   | (with_reducible exact LeO.none _)
   | (with_reducible refine LeO.ite ?_ ?_)
   | (with_reducible refine LeO.bind ?_ (fun _ => ?_))
   | exact ih0 _ _ _ _
   | exact LeO.none _
   | refine LeO.ite ?_ ?_
   | refine LeO.bind ?_ (fun _ => ?_)
theorem cmp_Or_int.mono : ∀ a0 k, LeO (cmp_Or_int.f k a0) (cmp_Or_int.f (k + 1) a0) := by
 intro a0 k
 have ih0 := cmp_Or_int.mono_l k
 unfold cmp_Or_int.f
 repeat' first
   | (with_reducible exact ih0 _ _ _ _)
   | (with_reducible exact LeO.refl _)
   | (with_reducible exact LeO.none _)
   | (with_reducible refine LeO.ite ?_ ?_)
   | (with_reducible refine LeO.bind ?_ (fun _ => ?_))
   | exact ih0 _ _ _ _
   | exact LeO.none _
   | refine LeO.ite ?_ ?_
   | refine LeO.bind ?_ (fun _ => ?_)
set_option maxHeartbeats 8000000 in
set_option maxRecDepth 100000 in
theorem cmp_Or_int.calls (k : Nat) (A0 : Option Addr) (c0 : Nat) (l0 : List Int) (r : Int) (w : World) (hr0 : Kd.C (Kd.int .i64) w A0 l0.length l0) (hc0 : l0.length ≤ c0) (h : cmp_Or_int.f k l0 = some r) :
  Calls Try.prog 31 #[.slice A0 l0.length c0] w fun e w' => e = .returned (.int .i64 r) ∧ Drawn0 w w' := by
 have HR0 := Aside0.mk hr0
 have HC0 := Aside0.mk hc0
 clear hr0 hc0
 have H : (cmp_Or_int.l0 k 0 l0 (l0.length : Int) 0) = some r := h
 clear h
 have H' := Aside0.mk H
 clear H
 go_enter Try.func31, Try.ntmps31
 go_wp2
 go_loopg [8] k (fun kq v8 w' => ∃ (x8_1 : Int), v8 = .int .i64 x8_1 ∧ Aside0 (cmp_Or_int.l0 kq 0 l0 (l0.length : Int) x8_1 = some r) ∧ Aside0 (kq ≤ k) ∧ Drawn0 w w')
 case atStart => exact ⟨(0), (by first | rfl | (simp; done) | (simp [*]; done)), H', ⟨Nat.le_refl _⟩, by repeat (first | exact Drawn0.refl _ | apply Drawn0.step)⟩
 case round =>
  clear H'
  obtain ⟨x8_1, rfl, HA, HK1, ⟨m1, rfl⟩⟩ := hrel
  cases gk with
  | zero => exact absurd HA.out (by simp [cmp_Or_int.l0])
  | succ k1 =>
   have H := HA.out
   clear HA
   simp only [cmp_Or_int.l0] at H
   by_cases c2 : x8_1 < (l0.length : Int)
   ·rw [if_pos c2] at H
    have c2b0 : decide (x8_1 < (l0.length : Int)) = true := decide_eq_true c2
    clear c2
    by_cases c3 : 0 ≤ x8_1
    ·rw [if_pos c3] at H
     have c3b0 : decide (0 ≤ x8_1) = true := decide_eq_true c3
     clear c3
     by_cases c4 : x8_1 < (l0.length : Int)
     ·rw [if_pos c4] at H
      have c4b0 : decide (x8_1 < (l0.length : Int)) = true := decide_eq_true c4
      clear c4
      by_cases c5 : (rd l0 x8_1) = 0
      ·rw [if_pos c5] at H
       have c5b0 : ((rd l0 x8_1) == 0) = true := beq_iff_eq.mpr c5
       have c5b1 : ((rd l0 x8_1) != 0) = false := bne_eq_false_iff_eq.mpr c5
       clear c5
       have H' := Aside0.mk H
       clear H
       have p106 : 0 ≤ (x8_1 : Int) := of_decide_eq_true (by first | (with_reducible assumption) | assumption)
       have q106 : x8_1 < (l0.length : Int) := of_decide_eq_true (by first | (with_reducible assumption) | assumption)
       obtain ⟨ad106, e106, hx106_0⟩ := Kd.at_int HR0.out x8_1 p106 q106
       cases e106
       replace p106 := eq_true p106
       replace q106 := eq_true q106
       go_wp2
       go_roundg k1
       case measure => have := HK1.out; omega
       case rel => exact ⟨(wrap64 (x8_1 + 1)), (by first | rfl | (simp; done) | (simp [*]; done)), H', ⟨by have := HK1.out; omega⟩, by repeat (first | exact Drawn0.refl _ | apply Drawn0.step)⟩
      ·rw [if_neg c5] at H
       have c5b0 : ((rd l0 x8_1) == 0) = false := beq_eq_false_iff_ne.mpr c5
       have c5b1 : ((rd l0 x8_1) != 0) = true := bne_iff_ne.mpr c5
       obtain rfl := Option.some.inj H
       have p106 : 0 ≤ (x8_1 : Int) := of_decide_eq_true (by first | (with_reducible assumption) | assumption)
       have q106 : x8_1 < (l0.length : Int) := of_decide_eq_true (by first | (with_reducible assumption) | assumption)
       obtain ⟨ad106, e106, hx106_0⟩ := Kd.at_int HR0.out x8_1 p106 q106
       cases e106
       replace p106 := eq_true p106
       replace q106 := eq_true q106
       go_wp2
       go_ret
       exact ⟨by first | rfl | (simp; done) | (simp [*]; done), by repeat (first | exact Drawn0.refl _ | apply Drawn0.step)⟩
     ·rw [if_neg c4] at H
      exact absurd H (by simp)
    ·rw [if_neg c3] at H
     exact absurd H (by simp)
   ·rw [if_neg c2] at H
    have c2b0 : decide (x8_1 < (l0.length : Int)) = false := decide_eq_false c2
    clear c2
    obtain rfl := Option.some.inj H
    go_wp2
    go_ret
    exact ⟨by first | rfl | (simp; done) | (simp [*]; done), by repeat (first | exact Drawn0.refl _ | apply Drawn0.step)⟩

/-! ### cmp_isNaN_uint64: function 44 -/
def cmp_isNaN_uint64.f (a0 : Int) : Option (Bool) := some (a0 != a0)
set_option maxHeartbeats 8000000 in
set_option maxRecDepth 100000 in
theorem cmp_isNaN_uint64.calls (a0 : Int) (r : Bool) (w : World) (h : cmp_isNaN_uint64.f a0 = some r) :
  Calls Try.prog 44 #[.int .u64 a0] w fun e w' => e = .returned (.bool r) ∧ Drawn0 w w' := by
 have H : (some (a0 != a0)) = some r := h
 clear h
 obtain rfl := Option.some.inj H
 go_enter Try.func44, Try.ntmps44
 go_wp2
 go_ret
 exact ⟨by first | rfl | (simp; done) | (simp [*]; done), by repeat (first | exact Drawn0.refl _ | apply Drawn0.step)⟩

/-! ### cmp_Compare_uint64: function 32 -/
def cmp_Compare_uint64.f (a0 : Int) (a1 : Int) : Option (Int) := (cmp_isNaN_uint64.f a0).bind fun t107 => ((cmp_isNaN_uint64.f a1).bind fun t108 => (if t107 = true then (if t108 = true then (some 0) else (some (-1))) else (if t108 = true then (some 1) else (if a0 < a1 then (some (-1)) else (if a0 > a1 then (some 1) else (some 0))))))
set_option maxHeartbeats 8000000 in
set_option maxRecDepth 100000 in
theorem cmp_Compare_uint64.calls (a0 : Int) (a1 : Int) (r : Int) (w : World) (h : cmp_Compare_uint64.f a0 a1 = some r) :
  Calls Try.prog 32 #[.int .u64 a0, .int .u64 a1] w fun e w' => e = .returned (.int .i64 r) ∧ Drawn0 w w' := by
 have H : ((cmp_isNaN_uint64.f a0).bind fun t107 => ((cmp_isNaN_uint64.f a1).bind fun t108 => (if t107 = true then (if t108 = true then (some 0) else (some (-1))) else (if t108 = true then (some 1) else (if a0 < a1 then (some (-1)) else (if a0 > a1 then (some 1) else (some 0))))))) = some r := h
 clear h
 replace H := Option.bind_eq_some_iff.mp H
 obtain ⟨t107, A30, H⟩ := H
 replace H : ((cmp_isNaN_uint64.f a1).bind fun t108 => (if t107 = true then (if t108 = true then (some 0) else (some (-1))) else (if t108 = true then (some 1) else (if a0 < a1 then (some (-1)) else (if a0 > a1 then (some 1) else (some 0)))))) = some r := H
 have A3 := Aside0.mk A30
 clear A30
 replace H := Option.bind_eq_some_iff.mp H
 obtain ⟨t108, A40, H⟩ := H
 replace H : (if t107 = true then (if t108 = true then (some 0) else (some (-1))) else (if t108 = true then (some 1) else (if a0 < a1 then (some (-1)) else (if a0 > a1 then (some 1) else (some 0))))) = some r := H
 have A4 := Aside0.mk A40
 clear A40
 by_cases c5 : t107 = true
 ·subst c5
  have H1 : (if t108 = true then (some 0) else (some (-1))) = some r := by rw [if_pos rfl] at H; exact H
  clear H
  have H := H1
  clear H1
  by_cases c6 : t108 = true
  ·subst c6
   have H1 : (some 0) = some r := by rw [if_pos rfl] at H; exact H
   clear H
   have H := H1
   clear H1
   obtain rfl := Option.some.inj H
   go_enter Try.func32, Try.ntmps32
   go_wp2_with (first | ((with_reducible refine gate_callee (f := 44) rfl ?_); refine goesL_ (some 8) rfl rfl Try.func44 (by kernel_rfl) rfl #[.int .u64 a0] rfl (by (try simp only [List.map_toArray, List.map_cons, List.map_nil]); first | done | rfl | (simp only [List.length_drop, List.length_take]; rfl)) ?_; (with_reducible refine (cmp_isNaN_uint64.calls a0 true _ A3.out).mono ?_); rintro e w' ⟨rfl, ⟨nd, rfl⟩⟩; refine ⟨_, rfl, ?_⟩) | ((with_reducible refine gate_callee (f := 44) rfl ?_); refine goesL_ (some 10) rfl rfl Try.func44 (by kernel_rfl) rfl #[.int .u64 a1] rfl (by (try simp only [List.map_toArray, List.map_cons, List.map_nil]); first | done | rfl | (simp only [List.length_drop, List.length_take]; rfl)) ?_; (with_reducible refine (cmp_isNaN_uint64.calls a1 true _ A4.out).mono ?_); rintro e w' ⟨rfl, ⟨nd, rfl⟩⟩; refine ⟨_, rfl, ?_⟩))
   go_ret
   exact ⟨by first | rfl | (simp; done) | (simp [*]; done), by repeat (first | exact Drawn0.refl _ | apply Drawn0.step)⟩
  ·replace c6 := Bool.eq_false_iff.mpr c6
   subst c6
   have H1 : (some (-1)) = some r := by rw [if_neg (show ¬ (false = true) by decide)] at H; exact H
   clear H
   have H := H1
   clear H1
   obtain rfl := Option.some.inj H
   go_enter Try.func32, Try.ntmps32
   go_wp2_with (first | ((with_reducible refine gate_callee (f := 44) rfl ?_); refine goesL_ (some 8) rfl rfl Try.func44 (by kernel_rfl) rfl #[.int .u64 a0] rfl (by (try simp only [List.map_toArray, List.map_cons, List.map_nil]); first | done | rfl | (simp only [List.length_drop, List.length_take]; rfl)) ?_; (with_reducible refine (cmp_isNaN_uint64.calls a0 true _ A3.out).mono ?_); rintro e w' ⟨rfl, ⟨nd, rfl⟩⟩; refine ⟨_, rfl, ?_⟩) | ((with_reducible refine gate_callee (f := 44) rfl ?_); refine goesL_ (some 10) rfl rfl Try.func44 (by kernel_rfl) rfl #[.int .u64 a1] rfl (by (try simp only [List.map_toArray, List.map_cons, List.map_nil]); first | done | rfl | (simp only [List.length_drop, List.length_take]; rfl)) ?_; (with_reducible refine (cmp_isNaN_uint64.calls a1 false _ A4.out).mono ?_); rintro e w' ⟨rfl, ⟨nd, rfl⟩⟩; refine ⟨_, rfl, ?_⟩))
   go_ret
   exact ⟨by first | rfl | (simp; done) | (simp [*]; done), by repeat (first | exact Drawn0.refl _ | apply Drawn0.step)⟩
 ·replace c5 := Bool.eq_false_iff.mpr c5
  subst c5
  have H1 : (if t108 = true then (some 1) else (if a0 < a1 then (some (-1)) else (if a0 > a1 then (some 1) else (some 0)))) = some r := by rw [if_neg (show ¬ (false = true) by decide)] at H; exact H
  clear H
  have H := H1
  clear H1
  by_cases c7 : t108 = true
  ·subst c7
   have H1 : (some 1) = some r := by rw [if_pos rfl] at H; exact H
   clear H
   have H := H1
   clear H1
   obtain rfl := Option.some.inj H
   go_enter Try.func32, Try.ntmps32
   go_wp2_with (first | ((with_reducible refine gate_callee (f := 44) rfl ?_); refine goesL_ (some 8) rfl rfl Try.func44 (by kernel_rfl) rfl #[.int .u64 a0] rfl (by (try simp only [List.map_toArray, List.map_cons, List.map_nil]); first | done | rfl | (simp only [List.length_drop, List.length_take]; rfl)) ?_; (with_reducible refine (cmp_isNaN_uint64.calls a0 false _ A3.out).mono ?_); rintro e w' ⟨rfl, ⟨nd, rfl⟩⟩; refine ⟨_, rfl, ?_⟩) | ((with_reducible refine gate_callee (f := 44) rfl ?_); refine goesL_ (some 10) rfl rfl Try.func44 (by kernel_rfl) rfl #[.int .u64 a1] rfl (by (try simp only [List.map_toArray, List.map_cons, List.map_nil]); first | done | rfl | (simp only [List.length_drop, List.length_take]; rfl)) ?_; (with_reducible refine (cmp_isNaN_uint64.calls a1 true _ A4.out).mono ?_); rintro e w' ⟨rfl, ⟨nd, rfl⟩⟩; refine ⟨_, rfl, ?_⟩))
   go_ret
   exact ⟨by first | rfl | (simp; done) | (simp [*]; done), by repeat (first | exact Drawn0.refl _ | apply Drawn0.step)⟩
  ·replace c7 := Bool.eq_false_iff.mpr c7
   subst c7
   have H1 : (if a0 < a1 then (some (-1)) else (if a0 > a1 then (some 1) else (some 0))) = some r := by rw [if_neg (show ¬ (false = true) by decide)] at H; exact H
   clear H
   have H := H1
   clear H1
   by_cases c8 : a0 < a1
   ·rw [if_pos c8] at H
    have c8b0 : decide (a0 < a1) = true := decide_eq_true c8
    clear c8
    obtain rfl := Option.some.inj H
    go_enter Try.func32, Try.ntmps32
    go_wp2_with (first | ((with_reducible refine gate_callee (f := 44) rfl ?_); refine goesL_ (some 8) rfl rfl Try.func44 (by kernel_rfl) rfl #[.int .u64 a0] rfl (by (try simp only [List.map_toArray, List.map_cons, List.map_nil]); first | done | rfl | (simp only [List.length_drop, List.length_take]; rfl)) ?_; (with_reducible refine (cmp_isNaN_uint64.calls a0 false _ A3.out).mono ?_); rintro e w' ⟨rfl, ⟨nd, rfl⟩⟩; refine ⟨_, rfl, ?_⟩) | ((with_reducible refine gate_callee (f := 44) rfl ?_); refine goesL_ (some 10) rfl rfl Try.func44 (by kernel_rfl) rfl #[.int .u64 a1] rfl (by (try simp only [List.map_toArray, List.map_cons, List.map_nil]); first | done | rfl | (simp only [List.length_drop, List.length_take]; rfl)) ?_; (with_reducible refine (cmp_isNaN_uint64.calls a1 false _ A4.out).mono ?_); rintro e w' ⟨rfl, ⟨nd, rfl⟩⟩; refine ⟨_, rfl, ?_⟩))
    go_ret
    exact ⟨by first | rfl | (simp; done) | (simp [*]; done), by repeat (first | exact Drawn0.refl _ | apply Drawn0.step)⟩
   ·rw [if_neg c8] at H
    have c8b0 : decide (a0 < a1) = false := decide_eq_false c8
    clear c8
    by_cases c9 : a0 > a1
    ·rw [if_pos c9] at H
     have c9b0 : decide (a1 < a0) = true := decide_eq_true c9
     clear c9
     obtain rfl := Option.some.inj H
     go_enter Try.func32, Try.ntmps32
     go_wp2_with (first | ((with_reducible refine gate_callee (f := 44) rfl ?_); refine goesL_ (some 8) rfl rfl Try.func44 (by kernel_rfl) rfl #[.int .u64 a0] rfl (by (try simp only [List.map_toArray, List.map_cons, List.map_nil]); first | done | rfl | (simp only [List.length_drop, List.length_take]; rfl)) ?_; (with_reducible refine (cmp_isNaN_uint64.calls a0 false _ A3.out).mono ?_); rintro e w' ⟨rfl, ⟨nd, rfl⟩⟩; refine ⟨_, rfl, ?_⟩) | ((with_reducible refine gate_callee (f := 44) rfl ?_); refine goesL_ (some 10) rfl rfl Try.func44 (by kernel_rfl) rfl #[.int .u64 a1] rfl (by (try simp only [List.map_toArray, List.map_cons, List.map_nil]); first | done | rfl | (simp only [List.length_drop, List.length_take]; rfl)) ?_; (with_reducible refine (cmp_isNaN_uint64.calls a1 false _ A4.out).mono ?_); rintro e w' ⟨rfl, ⟨nd, rfl⟩⟩; refine ⟨_, rfl, ?_⟩))
     go_ret
     exact ⟨by first | rfl | (simp; done) | (simp [*]; done), by repeat (first | exact Drawn0.refl _ | apply Drawn0.step)⟩
    ·rw [if_neg c9] at H
     have c9b0 : decide (a1 < a0) = false := decide_eq_false c9
     clear c9
     obtain rfl := Option.some.inj H
     go_enter Try.func32, Try.ntmps32
     go_wp2_with (first | ((with_reducible refine gate_callee (f := 44) rfl ?_); refine goesL_ (some 8) rfl rfl Try.func44 (by kernel_rfl) rfl #[.int .u64 a0] rfl (by (try simp only [List.map_toArray, List.map_cons, List.map_nil]); first | done | rfl | (simp only [List.length_drop, List.length_take]; rfl)) ?_; (with_reducible refine (cmp_isNaN_uint64.calls a0 false _ A3.out).mono ?_); rintro e w' ⟨rfl, ⟨nd, rfl⟩⟩; refine ⟨_, rfl, ?_⟩) | ((with_reducible refine gate_callee (f := 44) rfl ?_); refine goesL_ (some 10) rfl rfl Try.func44 (by kernel_rfl) rfl #[.int .u64 a1] rfl (by (try simp only [List.map_toArray, List.map_cons, List.map_nil]); first | done | rfl | (simp only [List.length_drop, List.length_take]; rfl)) ?_; (with_reducible refine (cmp_isNaN_uint64.calls a1 false _ A4.out).mono ?_); rintro e w' ⟨rfl, ⟨nd, rfl⟩⟩; refine ⟨_, rfl, ?_⟩))
     go_ret
     exact ⟨by first | rfl | (simp; done) | (simp [*]; done), by repeat (first | exact Drawn0.refl _ | apply Drawn0.step)⟩

/-! ### cmp_isNaN_uint16: function 45 -/
def cmp_isNaN_uint16.f (a0 : Int) : Option (Bool) := some (a0 != a0)
set_option maxHeartbeats 8000000 in
set_option maxRecDepth 100000 in
theorem cmp_isNaN_uint16.calls (a0 : Int) (r : Bool) (w : World) (h : cmp_isNaN_uint16.f a0 = some r) :
  Calls Try.prog 45 #[.int .u16 a0] w fun e w' => e = .returned (.bool r) ∧ Drawn0 w w' := by
 have H : (some (a0 != a0)) = some r := h
 clear h
 obtain rfl := Option.some.inj H
 go_enter Try.func45, Try.ntmps45
 go_wp2
 go_ret
 exact ⟨by first | rfl | (simp; done) | (simp [*]; done), by repeat (first | exact Drawn0.refl _ | apply Drawn0.step)⟩

/-! ### cmp_Compare_uint16: function 33 -/
def cmp_Compare_uint16.f (a0 : Int) (a1 : Int) : Option (Int) := (cmp_isNaN_uint16.f a0).bind fun t109 => ((cmp_isNaN_uint16.f a1).bind fun t110 => (if t109 = true then (if t110 = true then (some 0) else (some (-1))) else (if t110 = true then (some 1) else (if a0 < a1 then (some (-1)) else (if a0 > a1 then (some 1) else (some 0))))))
set_option maxHeartbeats 8000000 in
set_option maxRecDepth 100000 in
theorem cmp_Compare_uint16.calls (a0 : Int) (a1 : Int) (r : Int) (w : World) (h : cmp_Compare_uint16.f a0 a1 = some r) :
  Calls Try.prog 33 #[.int .u16 a0, .int .u16 a1] w fun e w' => e = .returned (.int .i64 r) ∧ Drawn0 w w' := by
 have H : ((cmp_isNaN_uint16.f a0).bind fun t109 => ((cmp_isNaN_uint16.f a1).bind fun t110 => (if t109 = true then (if t110 = true then (some 0) else (some (-1))) else (if t110 = true then (some 1) else (if a0 < a1 then (some (-1)) else (if a0 > a1 then (some 1) else (some 0))))))) = some r := h
 clear h
 replace H := Option.bind_eq_some_iff.mp H
 obtain ⟨t109, A30, H⟩ := H
 replace H : ((cmp_isNaN_uint16.f a1).bind fun t110 => (if t109 = true then (if t110 = true then (some 0) else (some (-1))) else (if t110 = true then (some 1) else (if a0 < a1 then (some (-1)) else (if a0 > a1 then (some 1) else (some 0)))))) = some r := H
 have A3 := Aside0.mk A30
 clear A30
 replace H := Option.bind_eq_some_iff.mp H
 obtain ⟨t110, A40, H⟩ := H
 replace H : (if t109 = true then (if t110 = true then (some 0) else (some (-1))) else (if t110 = true then (some 1) else (if a0 < a1 then (some (-1)) else (if a0 > a1 then (some 1) else (some 0))))) = some r := H
 have A4 := Aside0.mk A40
 clear A40
 by_cases c5 : t109 = true
 ·subst c5
  have H1 : (if t110 = true then (some 0) else (some (-1))) = some r := by rw [if_pos rfl] at H; exact H
  clear H
  have H := H1
  clear H1
  by_cases c6 : t110 = true
  ·subst c6
   have H1 : (some 0) = some r := by rw [if_pos rfl] at H; exact H
   clear H
   have H := H1
   clear H1
   obtain rfl := Option.some.inj H
   go_enter Try.func33, Try.ntmps33
   go_wp2_with (first | ((with_reducible refine gate_callee (f := 45) rfl ?_); refine goesL_ (some 8) rfl rfl Try.func45 (by kernel_rfl) rfl #[.int .u16 a0] rfl (by (try simp only [List.map_toArray, List.map_cons, List.map_nil]); first | done | rfl | (simp only [List.length_drop, List.length_take]; rfl)) ?_; (with_reducible refine (cmp_isNaN_uint16.calls a0 true _ A3.out).mono ?_); rintro e w' ⟨rfl, ⟨nd, rfl⟩⟩; refine ⟨_, rfl, ?_⟩) | ((with_reducible refine gate_callee (f := 45) rfl ?_); refine goesL_ (some 10) rfl rfl Try.func45 (by kernel_rfl) rfl #[.int .u16 a1] rfl (by (try simp only [List.map_toArray, List.map_cons, List.map_nil]); first | done | rfl | (simp only [List.length_drop, List.length_take]; rfl)) ?_; (with_reducible refine (cmp_isNaN_uint16.calls a1 true _ A4.out).mono ?_); rintro e w' ⟨rfl, ⟨nd, rfl⟩⟩; refine ⟨_, rfl, ?_⟩))
   go_ret
   exact ⟨by first | rfl | (simp; done) | (simp [*]; done), by repeat (first | exact Drawn0.refl _ | apply Drawn0.step)⟩
  ·replace c6 := Bool.eq_false_iff.mpr c6
   subst c6
   have H1 : (some (-1)) = some r := by rw [if_neg (show ¬ (false = true) by decide)] at H; exact H
   clear H
   have H := H1
   clear H1
   obtain rfl := Option.some.inj H
   go_enter Try.func33, Try.ntmps33
   go_wp2_with (first | ((with_reducible refine gate_callee (f := 45) rfl ?_); refine goesL_ (some 8) rfl rfl Try.func45 (by kernel_rfl) rfl #[.int .u16 a0] rfl (by (try simp only [List.map_toArray, List.map_cons, List.map_nil]); first | done | rfl | (simp only [List.length_drop, List.length_take]; rfl)) ?_; (with_reducible refine (cmp_isNaN_uint16.calls a0 true _ A3.out).mono ?_); rintro e w' ⟨rfl, ⟨nd, rfl⟩⟩; refine ⟨_, rfl, ?_⟩) | ((with_reducible refine gate_callee (f := 45) rfl ?_); refine goesL_ (some 10) rfl rfl Try.func45 (by kernel_rfl) rfl #[.int .u16 a1] rfl (by (try simp only [List.map_toArray, List.map_cons, List.map_nil]); first | done | rfl | (simp only [List.length_drop, List.length_take]; rfl)) ?_; (with_reducible refine (cmp_isNaN_uint16.calls a1 false _ A4.out).mono ?_); rintro e w' ⟨rfl, ⟨nd, rfl⟩⟩; refine ⟨_, rfl, ?_⟩))
   go_ret
   exact ⟨by first | rfl | (simp; done) | (simp [*]; done), by repeat (first | exact Drawn0.refl _ | apply Drawn0.step)⟩
 ·replace c5 := Bool.eq_false_iff.mpr c5
  subst c5
  have H1 : (if t110 = true then (some 1) else (if a0 < a1 then (some (-1)) else (if a0 > a1 then (some 1) else (some 0)))) = some r := by rw [if_neg (show ¬ (false = true) by decide)] at H; exact H
  clear H
  have H := H1
  clear H1
  by_cases c7 : t110 = true
  ·subst c7
   have H1 : (some 1) = some r := by rw [if_pos rfl] at H; exact H
   clear H
   have H := H1
   clear H1
   obtain rfl := Option.some.inj H
   go_enter Try.func33, Try.ntmps33
   go_wp2_with (first | ((with_reducible refine gate_callee (f := 45) rfl ?_); refine goesL_ (some 8) rfl rfl Try.func45 (by kernel_rfl) rfl #[.int .u16 a0] rfl (by (try simp only [List.map_toArray, List.map_cons, List.map_nil]); first | done | rfl | (simp only [List.length_drop, List.length_take]; rfl)) ?_; (with_reducible refine (cmp_isNaN_uint16.calls a0 false _ A3.out).mono ?_); rintro e w' ⟨rfl, ⟨nd, rfl⟩⟩; refine ⟨_, rfl, ?_⟩) | ((with_reducible refine gate_callee (f := 45) rfl ?_); refine goesL_ (some 10) rfl rfl Try.func45 (by kernel_rfl) rfl #[.int .u16 a1] rfl (by (try simp only [List.map_toArray, List.map_cons, List.map_nil]); first | done | rfl | (simp only [List.length_drop, List.length_take]; rfl)) ?_; (with_reducible refine (cmp_isNaN_uint16.calls a1 true _ A4.out).mono ?_); rintro e w' ⟨rfl, ⟨nd, rfl⟩⟩; refine ⟨_, rfl, ?_⟩))
   go_ret
   exact ⟨by first | rfl | (simp; done) | (simp [*]; done), by repeat (first | exact Drawn0.refl _ | apply Drawn0.step)⟩
  ·replace c7 := Bool.eq_false_iff.mpr c7
   subst c7
   have H1 : (if a0 < a1 then (some (-1)) else (if a0 > a1 then (some 1) else (some 0))) = some r := by rw [if_neg (show ¬ (false = true) by decide)] at H; exact H
   clear H
   have H := H1
   clear H1
   by_cases c8 : a0 < a1
   ·rw [if_pos c8] at H
    have c8b0 : decide (a0 < a1) = true := decide_eq_true c8
    clear c8
    obtain rfl := Option.some.inj H
    go_enter Try.func33, Try.ntmps33
    go_wp2_with (first | ((with_reducible refine gate_callee (f := 45) rfl ?_); refine goesL_ (some 8) rfl rfl Try.func45 (by kernel_rfl) rfl #[.int .u16 a0] rfl (by (try simp only [List.map_toArray, List.map_cons, List.map_nil]); first | done | rfl | (simp only [List.length_drop, List.length_take]; rfl)) ?_; (with_reducible refine (cmp_isNaN_uint16.calls a0 false _ A3.out).mono ?_); rintro e w' ⟨rfl, ⟨nd, rfl⟩⟩; refine ⟨_, rfl, ?_⟩) | ((with_reducible refine gate_callee (f := 45) rfl ?_); refine goesL_ (some 10) rfl rfl Try.func45 (by kernel_rfl) rfl #[.int .u16 a1] rfl (by (try simp only [List.map_toArray, List.map_cons, List.map_nil]); first | done | rfl | (simp only [List.length_drop, List.length_take]; rfl)) ?_; (with_reducible refine (cmp_isNaN_uint16.calls a1 false _ A4.out).mono ?_); rintro e w' ⟨rfl, ⟨nd, rfl⟩⟩; refine ⟨_, rfl, ?_⟩))
    go_ret
    exact ⟨by first | rfl | (simp; done) | (simp [*]; done), by repeat (first | exact Drawn0.refl _ | apply Drawn0.step)⟩
   ·rw [if_neg c8] at H
    have c8b0 : decide (a0 < a1) = false := decide_eq_false c8
    clear c8
    by_cases c9 : a0 > a1
    ·rw [if_pos c9] at H
     have c9b0 : decide (a1 < a0) = true := decide_eq_true c9
     clear c9
     obtain rfl := Option.some.inj H
     go_enter Try.func33, Try.ntmps33
     go_wp2_with (first | ((with_reducible refine gate_callee (f := 45) rfl ?_); refine goesL_ (some 8) rfl rfl Try.func45 (by kernel_rfl) rfl #[.int .u16 a0] rfl (by (try simp only [List.map_toArray, List.map_cons, List.map_nil]); first | done | rfl | (simp only [List.length_drop, List.length_take]; rfl)) ?_; (with_reducible refine (cmp_isNaN_uint16.calls a0 false _ A3.out).mono ?_); rintro e w' ⟨rfl, ⟨nd, rfl⟩⟩; refine ⟨_, rfl, ?_⟩) | ((with_reducible refine gate_callee (f := 45) rfl ?_); refine goesL_ (some 10) rfl rfl Try.func45 (by kernel_rfl) rfl #[.int .u16 a1] rfl (by (try simp only [List.map_toArray, List.map_cons, List.map_nil]); first | done | rfl | (simp only [List.length_drop, List.length_take]; rfl)) ?_; (with_reducible refine (cmp_isNaN_uint16.calls a1 false _ A4.out).mono ?_); rintro e w' ⟨rfl, ⟨nd, rfl⟩⟩; refine ⟨_, rfl, ?_⟩))
     go_ret
     exact ⟨by first | rfl | (simp; done) | (simp [*]; done), by repeat (first | exact Drawn0.refl _ | apply Drawn0.step)⟩
    ·rw [if_neg c9] at H
     have c9b0 : decide (a1 < a0) = false := decide_eq_false c9
     clear c9
     obtain rfl := Option.some.inj H
     go_enter Try.func33, Try.ntmps33
     go_wp2_with (first | ((with_reducible refine gate_callee (f := 45) rfl ?_); refine goesL_ (some 8) rfl rfl Try.func45 (by kernel_rfl) rfl #[.int .u16 a0] rfl (by (try simp only [List.map_toArray, List.map_cons, List.map_nil]); first | done | rfl | (simp only [List.length_drop, List.length_take]; rfl)) ?_; (with_reducible refine (cmp_isNaN_uint16.calls a0 false _ A3.out).mono ?_); rintro e w' ⟨rfl, ⟨nd, rfl⟩⟩; refine ⟨_, rfl, ?_⟩) | ((with_reducible refine gate_callee (f := 45) rfl ?_); refine goesL_ (some 10) rfl rfl Try.func45 (by kernel_rfl) rfl #[.int .u16 a1] rfl (by (try simp only [List.map_toArray, List.map_cons, List.map_nil]); first | done | rfl | (simp only [List.length_drop, List.length_take]; rfl)) ?_; (with_reducible refine (cmp_isNaN_uint16.calls a1 false _ A4.out).mono ?_); rintro e w' ⟨rfl, ⟨nd, rfl⟩⟩; refine ⟨_, rfl, ?_⟩))
     go_ret
     exact ⟨by first | rfl | (simp; done) | (simp [*]; done), by repeat (first | exact Drawn0.refl _ | apply Drawn0.step)⟩

end Go.Proofs.Ytnnhmceaoobihaa.P
