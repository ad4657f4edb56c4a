-- Printed by fprint.py (a program of this session's, over the kit's print), for this claim.
import Derived.Test.YtfgalgeloflilaaPx0
import Derived.Test.YtfgalgeloflilaaPx1
import Derived.Test.YtfgalgeloflilaaPx15
namespace Go.Proofs.Ytfgalgeloflilaa.P
open Go.RowKit Go.Proofs.YtfgalgeloflilaaW.PrintWords Go.Proofs.YtfgalgeloflilaaW.PrintLast Go.Proofs.YtfgalgeloflilaaW.PrintMore
attribute [local go_sem] max2_int min2_int max_two min_two max_three min_three max_four min_four   -- for this text's walks alone
set_option linter.unusedVariables false
set_option linter.unusedSimpArgs false

attribute [local go_sem high] eqA25
/-! ### annuletref30_Outs: function 13 -/
def annuletref30_Outs.l0 : Nat → List (S63) → List (S63) → Int → Option (Bool)
 | 0, _, _, _ => none
 | k + 1, x0, x1, x5 => if x5 < (x0.length : Int) then (if 0 ≤ x5 then (if x5 < (x1.length : Int) then (if (!(((rd_T63 x0 x5).f0.f0) == ((rd_T63 x1 x5).f0.f0)) || (!(((rd_T63 x0 x5).f0.f1) == ((rd_T63 x1 x5).f0.f1)))) = true then (some false) else ((annuletref08_Same.f k ((rd_T63 x0 x5).f1.f0) ((rd_T63 x0 x5).f1.f1) ((rd_T63 x0 x5).f1.f2) ((rd_T63 x0 x5).f1.f3) ((rd_T63 x0 x5).f1.f4) ((rd_T63 x0 x5).f1.f5) ((rd_T63 x0 x5).f1.f6) ((rd_T63 x0 x5).f1.f7.f0) ((rd_T63 x0 x5).f1.f7.f1) ((rd_T63 x0 x5).f1.f8) ((rd_T63 x0 x5).f1.f9) ((rd_T63 x1 x5).f1.f0) ((rd_T63 x1 x5).f1.f1) ((rd_T63 x1 x5).f1.f2) ((rd_T63 x1 x5).f1.f3) ((rd_T63 x1 x5).f1.f4) ((rd_T63 x1 x5).f1.f5) ((rd_T63 x1 x5).f1.f6) ((rd_T63 x1 x5).f1.f7.f0) ((rd_T63 x1 x5).f1.f7.f1) ((rd_T63 x1 x5).f1.f8) ((rd_T63 x1 x5).f1.f9)).bind fun t167 => (if t167 = true then (annuletref30_Outs.l0 k x0 x1 (wrap64 (x5 + 1))) else (some false)))) else (none)) else (none)) else (some true)
def annuletref30_Outs.f (k : Nat) (l0 : List (S63)) (l1 : List (S63)) : Option (Bool) := if (l0.length : Int) = (l1.length : Int) then (annuletref30_Outs.l0 k l0 l1 0) else (some false)
theorem annuletref30_Outs.mono_l : ∀ k, (∀ y0 y1 y2, LeO (annuletref30_Outs.l0 k y0 y1 y2) (annuletref30_Outs.l0 (k + 1) y0 y1 y2))
 | 0 => fun _ _ _ r h => by simp [annuletref30_Outs.l0] at h
 | k + 1 => by
  have ih0 := annuletref30_Outs.mono_l k
  ·intro y0 y1 y2
   unfold annuletref30_Outs.l0
   repeat' first
   | (with_reducible exact ih0 _ _ _)
   | (with_reducible exact annuletref08_Same.mono _ _ _ _ _ _ _ _ _ _ _ _ _ _ _ _ _ _ _ _ _ _ _)
   | (with_reducible exact LeO.refl _)
   | (with_reducible exact LeO.none _)
   | (with_reducible refine LeO.ite ?_ ?_)
   | (with_reducible refine LeO.bind ?_ (fun _ => ?_))
   | exact ih0 _ _ _
   | exact annuletref08_Same.mono _ _ _ _ _ _ _ _ _ _ _ _ _ _ _ _ _ _ _ _ _ _ _
   | exact LeO.none _
   | refine LeO.ite ?_ ?_
   | refine LeO.bind ?_ (fun _ => ?_)
theorem annuletref30_Outs.mono : ∀ a0 a1 k, LeO (annuletref30_Outs.f k a0 a1) (annuletref30_Outs.f (k + 1) a0 a1) := by
 intro a0 a1 k
 have ih0 := annuletref30_Outs.mono_l k
 unfold annuletref30_Outs.f
 repeat' first
   | (with_reducible exact ih0 _ _ _)
   | (with_reducible exact annuletref08_Same.mono _ _ _ _ _ _ _ _ _ _ _ _ _ _ _ _ _ _ _ _ _ _ _)
   | (with_reducible exact LeO.refl _)
   | (with_reducible exact LeO.none _)
   | (with_reducible refine LeO.ite ?_ ?_)
   | (with_reducible refine LeO.bind ?_ (fun _ => ?_))
   | exact ih0 _ _ _
   | exact annuletref08_Same.mono _ _ _ _ _ _ _ _ _ _ _ _ _ _ _ _ _ _ _ _ _ _ _
   | exact LeO.none _
   | refine LeO.ite ?_ ?_
   | refine LeO.bind ?_ (fun _ => ?_)
def annuletref30_Outs.T6 : Bool × List (List Nat × List Nat) := (true, [([], []), ([], []), ([0, 1], [0, 1]), ([2], [2]), ([3], [3]), ([], []), ([], []), ([5, 6], [5, 6]), ([7], [7]), ([8], [8]), ([4, 9], [4, 9]), ([10], [10]), ([11], [11]), ([11], [11]), ([12, 13, 11], [11, 12, 13]), ([14, 11], [11, 14]), ([15, 11], [11, 15]), ([11], [11]), ([11], [11]), ([17, 18, 11], [11, 17, 18]), ([19, 11], [11, 19]), ([20, 11], [11, 20]), ([16, 21, 11, 11], [11, 16, 21]), ([22, 11], [11, 22]), ([11, 23], [11, 23])])
def annuletref30_Outs.B6 : List Nat := [0, 0, 3, 7, 15, 0, 0, 96, 224, 480, 1023, 2047, 4095, 4095, 16383, 32767, 65535, 4095, 4095, 397311, 921599, 1970175, 4194303, 8388607, 16777215]
theorem annuletref30_Outs.tab6 : rtab .any (opsOf Try.f13 6) = annuletref30_Outs.T6 := by kernel_rfl
theorem annuletref30_Outs.bits6 : waitsOk annuletref30_Outs.T6.2 annuletref30_Outs.B6 = true := by kernel_rfl
set_option maxHeartbeats 8000000 in
set_option maxRecDepth 100000 in
theorem annuletref30_Outs.calls (k : Nat) (A0 : Option Addr) (c0 : Nat) (l0 : List (S63)) (A1 : Option Addr) (c1 : Nat) (l1 : List (S63)) (r : Bool) (w : World) (hr0 : Kd.C k63 w A0 l0.length l0) (hc0 : l0.length ≤ c0) (hr1 : Kd.C k63 w A1 l1.length l1) (hc1 : l1.length ≤ c1) (h : annuletref30_Outs.f k l0 l1 = some r) :
  Calls Try.prog 13 #[.slice A0 l0.length c0, .slice A1 l1.length c1] w fun e w' => e = .returned (.bool r) ∧ Below w.heap.size w w' := by
 have hu25 := Try.underlying25
 have hu37 := Try.underlying37
 have HR0 := Aside0.mk hr0
 have HC0 := Aside0.mk hc0
 clear hr0 hc0
 have HR1 := Aside0.mk hr1
 have HC1 := Aside0.mk hc1
 clear hr1 hc1
 have HB := Aside0.mk (Below.refl w.heap.size w)
 have H : (if (l0.length : Int) = (l1.length : Int) then (annuletref30_Outs.l0 k l0 l1 0) else (some false)) = some r := h
 clear h
 by_cases c3 : (l0.length : Int) = (l1.length : Int)
 ·rw [if_pos c3] at H
  have c3b0 : ((l0.length : Int) == (l1.length : Int)) = true := beq_iff_eq.mpr c3
  have c3b1 : ((l0.length : Int) != (l1.length : Int)) = false := bne_eq_false_iff_eq.mpr c3
  have c3b2 : (l0.length == l1.length) = true := by first | simpa using c3 | (simp at c3 ⊢; omega)
  clear c3
  have H' := Aside0.mk H
  clear H
  go_enter Try.func13, Try.ntmps13
  go_wp2
  go_loopg [5] k (fun kq v5 w' => ∃ (x5_1 : Int), v5 = .int .i64 x5_1 ∧ Aside0 (annuletref30_Outs.l0 kq l0 l1 x5_1 = some r) ∧ Aside0 (kq ≤ k) ∧ Aside0 (Below w.heap.size w w'))
  case atStart => exact ⟨(0), (by first | rfl | (simp; done) | (simp [*]; done)), H', ⟨Nat.le_refl _⟩, ⟨by repeat (first | (with_reducible first | exact HB.out | apply below_alloc | apply pw_below_drewN | apply below_drew1) | exact HB.out)⟩⟩
  case round =>
   clear H'
   try clear c1
   try clear p2
   try clear c3
   try clear c3b0
   try clear c3b1
   try clear c3b2
   obtain ⟨x5_1, rfl, HA, HK1, HB⟩ := hrel
   cases gk with
   | zero => exact absurd HA.out (by simp [annuletref30_Outs.l0])
   | succ k1 =>
    have H := HA.out
    clear HA
    simp only [annuletref30_Outs.l0] at H
    by_cases c4 : x5_1 < (l0.length : Int)
    ·rw [if_pos c4] at H
     have c4b0 : decide (x5_1 < (l0.length : Int)) = true := decide_eq_true c4
     clear c4
     by_cases c5 : 0 ≤ x5_1
     ·rw [if_pos c5] at H
      have c5b0 : decide (0 ≤ x5_1) = true := decide_eq_true c5
      clear c5
      by_cases c6 : x5_1 < (l1.length : Int)
      ·rw [if_pos c6] at H
       have c6b0 : decide (x5_1 < (l1.length : Int)) = true := decide_eq_true c6
       clear c6
       by_cases c7 : (!(((rd_T63 l0 x5_1).f0.f0) == ((rd_T63 l1 x5_1).f0.f0)) || (!(((rd_T63 l0 x5_1).f0.f1) == ((rd_T63 l1 x5_1).f0.f1)))) = true
       ·rw [if_pos c7] at H
        have c7b0 : (!(((rd_T63 l0 x5_1).f0.f0) == ((rd_T63 l1 x5_1).f0.f0)) || (!(((rd_T63 l0 x5_1).f0.f1) == ((rd_T63 l1 x5_1).f0.f1)))) = true := c7
        clear c7
        obtain rfl := Option.some.inj H
        try go_wp2
        have n0_ := Aside0.mk (below_drew1 HB.out)
        clear HB
        have HB := n0_
        clear n0_
        have p163 : 0 ≤ (x5_1 : Int) := of_decide_eq_true (by first | (with_reducible assumption) | assumption)
        have q163 : x5_1 < (l0.length : Int) := of_decide_eq_true (by first | (with_reducible assumption) | assumption)
        obtain ⟨ad163, A163_11, c163_11, A163_12, c163_12, e163, hx163_0, hx163_1, hx163_2, hx163_3, hx163_4, hx163_5, hx163_6, hx163_7, hx163_8, hx163_9, hx163_10, hx163_11, hx163_12, hl163_11, hi163_11, hl163_12, hi163_12⟩ := at_T63 HR0.out x5_1 p163 q163
        have hw163_12 := hx163_12
        have hw163_11 := hx163_11
        have hw163_10 := hx163_10
        have hw163_9 := hx163_9
        have hw163_8 := hx163_8
        have hw163_7 := hx163_7
        have hw163_6 := hx163_6
        have hw163_5 := hx163_5
        have hw163_4 := hx163_4
        have hw163_3 := hx163_3
        have hw163_2 := hx163_2
        have hw163_1 := hx163_1
        have hw163_0 := hx163_0
        cases e163
        replace hx163_0 := (HB.out.cell (World.block_lt_of_cell? w _ hx163_0)).trans hx163_0
        replace hx163_1 := (HB.out.cell (World.block_lt_of_cell? w _ hx163_1)).trans hx163_1
        replace hx163_2 := (HB.out.cell (World.block_lt_of_cell? w _ hx163_2)).trans hx163_2
        replace hx163_3 := (HB.out.cell (World.block_lt_of_cell? w _ hx163_3)).trans hx163_3
        replace hx163_4 := (HB.out.cell (World.block_lt_of_cell? w _ hx163_4)).trans hx163_4
        replace hx163_5 := (HB.out.cell (World.block_lt_of_cell? w _ hx163_5)).trans hx163_5
        replace hx163_6 := (HB.out.cell (World.block_lt_of_cell? w _ hx163_6)).trans hx163_6
        replace hx163_7 := (HB.out.cell (World.block_lt_of_cell? w _ hx163_7)).trans hx163_7
        replace hx163_8 := (HB.out.cell (World.block_lt_of_cell? w _ hx163_8)).trans hx163_8
        replace hx163_9 := (HB.out.cell (World.block_lt_of_cell? w _ hx163_9)).trans hx163_9
        replace hx163_10 := (HB.out.cell (World.block_lt_of_cell? w _ hx163_10)).trans hx163_10
        replace hx163_11 := (HB.out.cell (World.block_lt_of_cell? w _ hx163_11)).trans hx163_11
        replace hx163_12 := (HB.out.cell (World.block_lt_of_cell? w _ hx163_12)).trans hx163_12
        have HR163_11 := Aside0.mk hi163_11
        have HC163_11 := Aside0.mk hl163_11
        clear hi163_11 hl163_11
        have HR163_12 := Aside0.mk hi163_12
        have HC163_12 := Aside0.mk hl163_12
        clear hi163_12 hl163_12
        replace p163 := eq_true p163
        replace q163 := eq_true q163
        have p164 : 0 ≤ (x5_1 : Int) := of_decide_eq_true (by first | (with_reducible assumption) | assumption)
        have q164 : x5_1 < (l1.length : Int) := of_decide_eq_true (by first | (with_reducible assumption) | assumption)
        obtain ⟨ad164, A164_11, c164_11, A164_12, c164_12, e164, hx164_0, hx164_1, hx164_2, hx164_3, hx164_4, hx164_5, hx164_6, hx164_7, hx164_8, hx164_9, hx164_10, hx164_11, hx164_12, hl164_11, hi164_11, hl164_12, hi164_12⟩ := at_T63 HR1.out x5_1 p164 q164
        have hw164_12 := hx164_12
        have hw164_11 := hx164_11
        have hw164_10 := hx164_10
        have hw164_9 := hx164_9
        have hw164_8 := hx164_8
        have hw164_7 := hx164_7
        have hw164_6 := hx164_6
        have hw164_5 := hx164_5
        have hw164_4 := hx164_4
        have hw164_3 := hx164_3
        have hw164_2 := hx164_2
        have hw164_1 := hx164_1
        have hw164_0 := hx164_0
        cases e164
        replace hx164_0 := (HB.out.cell (World.block_lt_of_cell? w _ hx164_0)).trans hx164_0
        replace hx164_1 := (HB.out.cell (World.block_lt_of_cell? w _ hx164_1)).trans hx164_1
        replace hx164_2 := (HB.out.cell (World.block_lt_of_cell? w _ hx164_2)).trans hx164_2
        replace hx164_3 := (HB.out.cell (World.block_lt_of_cell? w _ hx164_3)).trans hx164_3
        replace hx164_4 := (HB.out.cell (World.block_lt_of_cell? w _ hx164_4)).trans hx164_4
        replace hx164_5 := (HB.out.cell (World.block_lt_of_cell? w _ hx164_5)).trans hx164_5
        replace hx164_6 := (HB.out.cell (World.block_lt_of_cell? w _ hx164_6)).trans hx164_6
        replace hx164_7 := (HB.out.cell (World.block_lt_of_cell? w _ hx164_7)).trans hx164_7
        replace hx164_8 := (HB.out.cell (World.block_lt_of_cell? w _ hx164_8)).trans hx164_8
        replace hx164_9 := (HB.out.cell (World.block_lt_of_cell? w _ hx164_9)).trans hx164_9
        replace hx164_10 := (HB.out.cell (World.block_lt_of_cell? w _ hx164_10)).trans hx164_10
        replace hx164_11 := (HB.out.cell (World.block_lt_of_cell? w _ hx164_11)).trans hx164_11
        replace hx164_12 := (HB.out.cell (World.block_lt_of_cell? w _ hx164_12)).trans hx164_12
        have HR164_11 := Aside0.mk hi164_11
        have HC164_11 := Aside0.mk hl164_11
        clear hi164_11 hl164_11
        have HR164_12 := Aside0.mk hi164_12
        have HC164_12 := Aside0.mk hl164_12
        clear hi164_12 hl164_12
        replace p164 := eq_true p164
        replace q164 := eq_true q164
        refine start_ (n := 25) (S := fun w' => w'.cell? (ad163.add ((x5_1).toNat * 13)) = some (.int .u64 ((rd_T63 l0 x5_1).f0.f0)) ∧ w'.cell? ⟨(ad163.add ((x5_1).toNat * 13)).block, (ad163.add ((x5_1).toNat * 13)).off + 1, none⟩ = some (.int .u16 ((rd_T63 l0 x5_1).f0.f1)) ∧ w'.cell? ⟨(ad163.add ((x5_1).toNat * 13)).block, (ad163.add ((x5_1).toNat * 13)).off + 2, none⟩ = some (.int .i64 ((rd_T63 l0 x5_1).f1.f0)) ∧ w'.cell? ⟨(ad163.add ((x5_1).toNat * 13)).block, (ad163.add ((x5_1).toNat * 13)).off + 3, none⟩ = some (.int .u32 ((rd_T63 l0 x5_1).f1.f1)) ∧ w'.cell? ⟨(ad163.add ((x5_1).toNat * 13)).block, (ad163.add ((x5_1).toNat * 13)).off + 4, none⟩ = some (.int .u8 ((rd_T63 l0 x5_1).f1.f2)) ∧ w'.cell? ⟨(ad163.add ((x5_1).toNat * 13)).block, (ad163.add ((x5_1).toNat * 13)).off + 5, none⟩ = some (.bool ((rd_T63 l0 x5_1).f1.f3)) ∧ w'.cell? ⟨(ad163.add ((x5_1).toNat * 13)).block, (ad163.add ((x5_1).toNat * 13)).off + 6, none⟩ = some (.int .u64 ((rd_T63 l0 x5_1).f1.f4)) ∧ w'.cell? ⟨(ad163.add ((x5_1).toNat * 13)).block, (ad163.add ((x5_1).toNat * 13)).off + 7, none⟩ = some (.string ((rd_T63 l0 x5_1).f1.f5)) ∧ w'.cell? ⟨(ad163.add ((x5_1).toNat * 13)).block, (ad163.add ((x5_1).toNat * 13)).off + 8, none⟩ = some (.string ((rd_T63 l0 x5_1).f1.f6)) ∧ w'.cell? ⟨(ad163.add ((x5_1).toNat * 13)).block, (ad163.add ((x5_1).toNat * 13)).off + 9, none⟩ = some (.int .u64 ((rd_T63 l0 x5_1).f1.f7.f0)) ∧ w'.cell? ⟨(ad163.add ((x5_1).toNat * 13)).block, (ad163.add ((x5_1).toNat * 13)).off + 10, none⟩ = some (.int .u16 ((rd_T63 l0 x5_1).f1.f7.f1)) ∧ w'.cell? ⟨(ad163.add ((x5_1).toNat * 13)).block, (ad163.add ((x5_1).toNat * 13)).off + 11, none⟩ = some (.slice A163_11 ((rd_T63 l0 x5_1).f1.f8).length c163_11) ∧ w'.cell? ⟨(ad163.add ((x5_1).toNat * 13)).block, (ad163.add ((x5_1).toNat * 13)).off + 12, none⟩ = some (.slice A163_12 ((rd_T63 l0 x5_1).f1.f9).length c163_12) ∧ w'.cell? (ad164.add ((x5_1).toNat * 13)) = some (.int .u64 ((rd_T63 l1 x5_1).f0.f0)) ∧ w'.cell? ⟨(ad164.add ((x5_1).toNat * 13)).block, (ad164.add ((x5_1).toNat * 13)).off + 1, none⟩ = some (.int .u16 ((rd_T63 l1 x5_1).f0.f1)) ∧ w'.cell? ⟨(ad164.add ((x5_1).toNat * 13)).block, (ad164.add ((x5_1).toNat * 13)).off + 2, none⟩ = some (.int .i64 ((rd_T63 l1 x5_1).f1.f0)) ∧ w'.cell? ⟨(ad164.add ((x5_1).toNat * 13)).block, (ad164.add ((x5_1).toNat * 13)).off + 3, none⟩ = some (.int .u32 ((rd_T63 l1 x5_1).f1.f1)) ∧ w'.cell? ⟨(ad164.add ((x5_1).toNat * 13)).block, (ad164.add ((x5_1).toNat * 13)).off + 4, none⟩ = some (.int .u8 ((rd_T63 l1 x5_1).f1.f2)) ∧ w'.cell? ⟨(ad164.add ((x5_1).toNat * 13)).block, (ad164.add ((x5_1).toNat * 13)).off + 5, none⟩ = some (.bool ((rd_T63 l1 x5_1).f1.f3)) ∧ w'.cell? ⟨(ad164.add ((x5_1).toNat * 13)).block, (ad164.add ((x5_1).toNat * 13)).off + 6, none⟩ = some (.int .u64 ((rd_T63 l1 x5_1).f1.f4)) ∧ w'.cell? ⟨(ad164.add ((x5_1).toNat * 13)).block, (ad164.add ((x5_1).toNat * 13)).off + 7, none⟩ = some (.string ((rd_T63 l1 x5_1).f1.f5)) ∧ w'.cell? ⟨(ad164.add ((x5_1).toNat * 13)).block, (ad164.add ((x5_1).toNat * 13)).off + 8, none⟩ = some (.string ((rd_T63 l1 x5_1).f1.f6)) ∧ w'.cell? ⟨(ad164.add ((x5_1).toNat * 13)).block, (ad164.add ((x5_1).toNat * 13)).off + 9, none⟩ = some (.int .u64 ((rd_T63 l1 x5_1).f1.f7.f0)) ∧ w'.cell? ⟨(ad164.add ((x5_1).toNat * 13)).block, (ad164.add ((x5_1).toNat * 13)).off + 10, none⟩ = some (.int .u16 ((rd_T63 l1 x5_1).f1.f7.f1)) ∧ w'.cell? ⟨(ad164.add ((x5_1).toNat * 13)).block, (ad164.add ((x5_1).toNat * 13)).off + 11, none⟩ = some (.slice A164_11 ((rd_T63 l1 x5_1).f1.f8).length c164_11) ∧ w'.cell? ⟨(ad164.add ((x5_1).toNat * 13)).block, (ad164.add ((x5_1).toNat * 13)).off + 12, none⟩ = some (.slice A164_12 ((rd_T63 l1 x5_1).f1.f9).length c164_12)) (ds := []) #[F',F',F',F',F',F',F',F',F',F',F',F',F',F',F',F',F',F',F',F',F',F',F',F',F'] (by kernel_rfl) rfl rfl ⟨((HB.out.cell (World.block_lt_of_cell? w _ hw163_0)).trans hw163_0), ((HB.out.cell (World.block_lt_of_cell? w _ hw163_1)).trans hw163_1), ((HB.out.cell (World.block_lt_of_cell? w _ hw163_2)).trans hw163_2), ((HB.out.cell (World.block_lt_of_cell? w _ hw163_3)).trans hw163_3), ((HB.out.cell (World.block_lt_of_cell? w _ hw163_4)).trans hw163_4), ((HB.out.cell (World.block_lt_of_cell? w _ hw163_5)).trans hw163_5), ((HB.out.cell (World.block_lt_of_cell? w _ hw163_6)).trans hw163_6), ((HB.out.cell (World.block_lt_of_cell? w _ hw163_7)).trans hw163_7), ((HB.out.cell (World.block_lt_of_cell? w _ hw163_8)).trans hw163_8), ((HB.out.cell (World.block_lt_of_cell? w _ hw163_9)).trans hw163_9), ((HB.out.cell (World.block_lt_of_cell? w _ hw163_10)).trans hw163_10), ((HB.out.cell (World.block_lt_of_cell? w _ hw163_11)).trans hw163_11), ((HB.out.cell (World.block_lt_of_cell? w _ hw163_12)).trans hw163_12), ((HB.out.cell (World.block_lt_of_cell? w _ hw164_0)).trans hw164_0), ((HB.out.cell (World.block_lt_of_cell? w _ hw164_1)).trans hw164_1), ((HB.out.cell (World.block_lt_of_cell? w _ hw164_2)).trans hw164_2), ((HB.out.cell (World.block_lt_of_cell? w _ hw164_3)).trans hw164_3), ((HB.out.cell (World.block_lt_of_cell? w _ hw164_4)).trans hw164_4), ((HB.out.cell (World.block_lt_of_cell? w _ hw164_5)).trans hw164_5), ((HB.out.cell (World.block_lt_of_cell? w _ hw164_6)).trans hw164_6), ((HB.out.cell (World.block_lt_of_cell? w _ hw164_7)).trans hw164_7), ((HB.out.cell (World.block_lt_of_cell? w _ hw164_8)).trans hw164_8), ((HB.out.cell (World.block_lt_of_cell? w _ hw164_9)).trans hw164_9), ((HB.out.cell (World.block_lt_of_cell? w _ hw164_10)).trans hw164_10), ((HB.out.cell (World.block_lt_of_cell? w _ hw164_11)).trans hw164_11), ((HB.out.cell (World.block_lt_of_cell? w _ hw164_12)).trans hw164_12)⟩ (fun hHeld => ?_); refine with_tabW annuletref30_Outs.tab6 annuletref30_Outs.bits6 (fun HT_ HW_ => ?_)
        generalize wr.drew = w8 at HB HR163_11 HR163_12 HR164_11 HR164_12 hx163_0 hx163_1 hx163_10 hx163_11 hx163_12 hx163_2 hx163_3 hx163_4 hx163_5 hx163_6 hx163_7 hx163_8 hx163_9 hx164_0 hx164_1 hx164_10 hx164_11 hx164_12 hx164_2 hx164_3 hx164_4 hx164_5 hx164_6 hx164_7 hx164_8 hx164_9 hHeld ⊢
        refine pure_ (i := 0) (N := some 17) (v := ?_) (a' := ?_) #[T',F',F',F',F',F',F',F',F',F',F',F',F',F',F',F',F',F',F',F',F',F',F',F',F'] rfl rfl (any_of HT_.out (by kernel_rfl)) (fun _ _ _ h => h) (Or.inl ⟨by rfl, ?_⟩) ?_ ?_
        rotate_left
        ·intro w'
         go_simp
         with_reducible rfl
        rotate_left
        ·simp only [Act.put, la_, lz_, ls_, i64_w, i32_w]
         rfl
        refine pure_ (i := 1) (N := some 18) (v := ?_) (a' := ?_) #[T',T',F',F',F',F',F',F',F',F',F',F',F',F',F',F',F',F',F',F',F',F',F',F',F'] rfl rfl (any_of HT_.out (by kernel_rfl)) (fun _ _ _ h => h) (Or.inl ⟨by rfl, ?_⟩) ?_ ?_
        rotate_left
        ·intro w'
         go_simp
         with_reducible rfl
        rotate_left
        ·simp only [Act.put, la_, lz_, ls_, i64_w, i32_w]
         rfl
        refine pure_ (i := 2) (N := some 19) (v := ?_) (a' := ?_) #[T',T',T',F',F',F',F',F',F',F',F',F',F',F',F',F',F',F',F',F',F',F',F',F',F'] rfl rfl (any_of HT_.out (by kernel_rfl)) (fun _ _ _ h => h) (Or.inl ⟨by rfl, ?_⟩) ?_ ?_
        rotate_left
        ·intro w'
         go_simp
         with_reducible rfl
        rotate_left
        ·simp only [Act.put, la_, lz_, ls_, i64_w, i32_w]
         rfl
        refine pure_ (i := 3) (N := some 20) (v := ?_) (a' := ?_) #[T',T',T',T',F',F',F',F',F',F',F',F',F',F',F',F',F',F',F',F',F',F',F',F',F'] rfl rfl (any_of HT_.out (by kernel_rfl)) (fun _ _ _ h => h) (Or.inl ⟨by rfl, ?_⟩) ?_ ?_
        rotate_left
        ·intro w'
         go_simp
         with_reducible rfl
        rotate_left
        ·simp only [Act.put, la_, lz_, ls_, i64_w, i32_w]
         rfl
        refine pure_ (i := 5) (N := some 22) (v := ?_) (a' := ?_) #[T',T',T',T',F',T',F',F',F',F',F',F',F',F',F',F',F',F',F',F',F',F',F',F',F'] rfl rfl (any_of HT_.out (by kernel_rfl)) (fun _ _ _ h => h) (Or.inl ⟨by rfl, ?_⟩) ?_ ?_
        rotate_left
        ·intro w'
         go_simp
         with_reducible rfl
        rotate_left
        ·simp only [Act.put, la_, lz_, ls_, i64_w, i32_w]
         rfl
        refine pure_ (i := 6) (N := some 23) (v := ?_) (a' := ?_) #[T',T',T',T',F',T',T',F',F',F',F',F',F',F',F',F',F',F',F',F',F',F',F',F',F'] rfl rfl (any_of HT_.out (by kernel_rfl)) (fun _ _ _ h => h) (Or.inl ⟨by rfl, ?_⟩) ?_ ?_
        rotate_left
        ·intro w'
         go_simp
         with_reducible rfl
        rotate_left
        ·simp only [Act.put, la_, lz_, ls_, i64_w, i32_w]
         rfl
        refine pure_ (i := 7) (N := some 24) (v := ?_) (a' := ?_) #[T',T',T',T',F',T',T',T',F',F',F',F',F',F',F',F',F',F',F',F',F',F',F',F',F'] rfl rfl (any_of HT_.out (by kernel_rfl)) (fun _ _ _ h => h) (Or.inl ⟨by rfl, ?_⟩) ?_ ?_
        rotate_left
        ·intro w'
         go_simp
         with_reducible rfl
        rotate_left
        ·simp only [Act.put, la_, lz_, ls_, i64_w, i32_w]
         rfl
        refine pure_ (i := 8) (N := some 25) (v := ?_) (a' := ?_) #[T',T',T',T',F',T',T',T',T',F',F',F',F',F',F',F',F',F',F',F',F',F',F',F',F'] rfl rfl (any_of HT_.out (by kernel_rfl)) (fun _ _ _ h => h) (Or.inl ⟨by rfl, ?_⟩) ?_ ?_
        rotate_left
        ·intro w'
         go_simp
         with_reducible rfl
        rotate_left
        ·simp only [Act.put, la_, lz_, ls_, i64_w, i32_w]
         rfl
        refine take_ (i := 4) (N := some 21) (v := ?_) (a' := ?_) #[T',T',T',T',T',T',T',T',T',F',F',F',F',F',F',F',F',F',F',F',F',F',F',F',F'] rfl rfl (take_ofW HT_.out HW_.out (by kernel_rfl)) (fun _ _ _ h => h) (Or.inl ⟨by rfl, ?_⟩) hHeld ?_ ?_
        rotate_left
        ·rintro w' ⟨s0, s1, s2, s3, s4, s5, s6, s7, s8, s9, s10, s11, s12, s13, s14, s15, s16, s17, s18, s19, s20, s21, s22, s23, s24, s25⟩
         go_simp
         with_reducible rfl
        rotate_left
        ·simp only [Act.put, la_, lz_, ls_, i64_w, i32_w]
         rfl
        refine take_ (i := 9) (N := some 26) (v := ?_) (a' := ?_) #[T',T',T',T',T',T',T',T',T',T',F',F',F',F',F',F',F',F',F',F',F',F',F',F',F'] rfl rfl (take_ofW HT_.out HW_.out (by kernel_rfl)) (fun _ _ _ h => h) (Or.inl ⟨by rfl, ?_⟩) hHeld ?_ ?_
        rotate_left
        ·rintro w' ⟨s0, s1, s2, s3, s4, s5, s6, s7, s8, s9, s10, s11, s12, s13, s14, s15, s16, s17, s18, s19, s20, s21, s22, s23, s24, s25⟩
         go_simp
         with_reducible rfl
        rotate_left
        ·simp only [Act.put, la_, lz_, ls_, i64_w, i32_w]
         rfl
        refine pure_ (i := 10) (N := some 27) (v := ?_) (a' := ?_) #[T',T',T',T',T',T',T',T',T',T',T',F',F',F',F',F',F',F',F',F',F',F',F',F',F'] rfl rfl (any_of HT_.out (by kernel_rfl)) (fun _ _ _ h => h) (Or.inl ⟨by rfl, ?_⟩) ?_ ?_
        rotate_left
        ·intro w'
         go_simp
         with_reducible rfl
        rotate_left
        ·simp only [Act.put, la_, lz_, ls_, i64_w, i32_w]
         rfl
        refine pure_ (i := 11) (N := some 28) (v := ?_) (a' := ?_) #[T',T',T',T',T',T',T',T',T',T',T',T',F',F',F',F',F',F',F',F',F',F',F',F',F'] rfl rfl (any_of HT_.out (by kernel_rfl)) (fun _ _ _ h => h) (Or.inl ⟨by rfl, ?_⟩) ?_ ?_
        rotate_left
        ·intro w'
         go_simp
         with_reducible rfl
        rotate_left
        ·simp only [Act.put, la_, lz_, ls_, i64_w, i32_w]
         rfl
        refine pure_ (i := 12) (N := some 29) (v := undef) (a' := ?_) #[T',T',T',T',T',T',T',T',T',T',T',T',T',F',F',F',F',F',F',F',F',F',F',F',F'] rfl rfl (any_of HT_.out (by kernel_rfl)) (fun _ _ _ h => h) (Or.inr ⟨by rfl, rfl⟩) ?_ ?_
        rotate_left
        ·simp only [Act.put, la_, lz_, ls_, i64_w, i32_w]
         rfl
        refine pure_ (i := 13) (N := some 30) (v := undef) (a' := ?_) #[T',T',T',T',T',T',T',T',T',T',T',T',T',T',F',F',F',F',F',F',F',F',F',F',F'] rfl rfl (any_of HT_.out (by kernel_rfl)) (fun _ _ _ h => h) (Or.inr ⟨by rfl, rfl⟩) ?_ ?_
        rotate_left
        ·simp only [Act.put, la_, lz_, ls_, i64_w, i32_w]
         rfl
        refine pure_ (i := 14) (N := some 31) (v := undef) (a' := ?_) #[T',T',T',T',T',T',T',T',T',T',T',T',T',T',T',F',F',F',F',F',F',F',F',F',F'] rfl rfl (any_of HT_.out (by kernel_rfl)) (fun _ _ _ h => h) (Or.inr ⟨by rfl, rfl⟩) ?_ ?_
        rotate_left
        ·simp only [Act.put, la_, lz_, ls_, i64_w, i32_w]
         rfl
        refine pure_ (i := 15) (N := some 32) (v := undef) (a' := ?_) #[T',T',T',T',T',T',T',T',T',T',T',T',T',T',T',T',F',F',F',F',F',F',F',F',F'] rfl rfl (any_of HT_.out (by kernel_rfl)) (fun _ _ _ h => h) (Or.inr ⟨by rfl, rfl⟩) ?_ ?_
        rotate_left
        ·simp only [Act.put, la_, lz_, ls_, i64_w, i32_w]
         rfl
        refine pure_ (i := 16) (N := some 33) (v := undef) (a' := ?_) #[T',T',T',T',T',T',T',T',T',T',T',T',T',T',T',T',T',F',F',F',F',F',F',F',F'] rfl rfl (any_of HT_.out (by kernel_rfl)) (fun _ _ _ h => h) (Or.inr ⟨by rfl, rfl⟩) ?_ ?_
        rotate_left
        ·simp only [Act.put, la_, lz_, ls_, i64_w, i32_w]
         rfl
        refine pure_ (i := 17) (N := some 34) (v := undef) (a' := ?_) #[T',T',T',T',T',T',T',T',T',T',T',T',T',T',T',T',T',T',F',F',F',F',F',F',F'] rfl rfl (any_of HT_.out (by kernel_rfl)) (fun _ _ _ h => h) (Or.inr ⟨by rfl, rfl⟩) ?_ ?_
        rotate_left
        ·simp only [Act.put, la_, lz_, ls_, i64_w, i32_w]
         rfl
        refine pure_ (i := 18) (N := some 35) (v := undef) (a' := ?_) #[T',T',T',T',T',T',T',T',T',T',T',T',T',T',T',T',T',T',T',F',F',F',F',F',F'] rfl rfl (any_of HT_.out (by kernel_rfl)) (fun _ _ _ h => h) (Or.inr ⟨by rfl, rfl⟩) ?_ ?_
        rotate_left
        ·simp only [Act.put, la_, lz_, ls_, i64_w, i32_w]
         rfl
        refine pure_ (i := 19) (N := some 36) (v := undef) (a' := ?_) #[T',T',T',T',T',T',T',T',T',T',T',T',T',T',T',T',T',T',T',T',F',F',F',F',F'] rfl rfl (any_of HT_.out (by kernel_rfl)) (fun _ _ _ h => h) (Or.inr ⟨by rfl, rfl⟩) ?_ ?_
        rotate_left
        ·simp only [Act.put, la_, lz_, ls_, i64_w, i32_w]
         rfl
        refine pure_ (i := 20) (N := some 37) (v := undef) (a' := ?_) #[T',T',T',T',T',T',T',T',T',T',T',T',T',T',T',T',T',T',T',T',T',F',F',F',F'] rfl rfl (any_of HT_.out (by kernel_rfl)) (fun _ _ _ h => h) (Or.inr ⟨by rfl, rfl⟩) ?_ ?_
        rotate_left
        ·simp only [Act.put, la_, lz_, ls_, i64_w, i32_w]
         rfl
        refine pure_ (i := 21) (N := some 38) (v := undef) (a' := ?_) #[T',T',T',T',T',T',T',T',T',T',T',T',T',T',T',T',T',T',T',T',T',T',F',F',F'] rfl rfl (any_of HT_.out (by kernel_rfl)) (fun _ _ _ h => h) (Or.inr ⟨by rfl, rfl⟩) ?_ ?_
        rotate_left
        ·simp only [Act.put, la_, lz_, ls_, i64_w, i32_w]
         rfl
        refine pure_ (i := 22) (N := some 39) (v := undef) (a' := ?_) #[T',T',T',T',T',T',T',T',T',T',T',T',T',T',T',T',T',T',T',T',T',T',T',F',F'] rfl rfl (any_of HT_.out (by kernel_rfl)) (fun _ _ _ h => h) (Or.inr ⟨by rfl, rfl⟩) ?_ ?_
        rotate_left
        ·simp only [Act.put, la_, lz_, ls_, i64_w, i32_w]
         rfl
        refine pure_ (i := 23) (N := some 40) (v := undef) (a' := ?_) #[T',T',T',T',T',T',T',T',T',T',T',T',T',T',T',T',T',T',T',T',T',T',T',T',F'] rfl rfl (any_of HT_.out (by kernel_rfl)) (fun _ _ _ h => h) (Or.inr ⟨by rfl, rfl⟩) ?_ ?_
        rotate_left
        ·simp only [Act.put, la_, lz_, ls_, i64_w, i32_w]
         rfl
        refine pure_ (i := 24) (N := some 41) (v := ?_) (a' := ?_) #[T',T',T',T',T',T',T',T',T',T',T',T',T',T',T',T',T',T',T',T',T',T',T',T',T'] rfl rfl (any_of HT_.out (by kernel_rfl)) (fun _ _ _ h => h) (Or.inl ⟨by rfl, ?_⟩) ?_ ?_
        rotate_left
        ·intro w'
         go_simp
         with_reducible rfl
        rotate_left
        ·simp only [Act.put, la_, lz_, ls_, i64_w, i32_w]
         rfl
        refine done_ (done_of HT_.out (by kernel_rfl)) ?_
        try go_wp2
        go_ret
        exact ⟨by first | rfl | (simp [errW_none, errW_some] <;> rfl) | (simp [*, errW_none, errW_some] <;> rfl), by repeat (first | (with_reducible first | exact HB.out | apply below_alloc | apply pw_below_drewN | apply below_drew1) | exact HB.out)⟩
       ·rw [if_neg c7] at H
        have c7b0 : (!(((rd_T63 l0 x5_1).f0.f0) == ((rd_T63 l1 x5_1).f0.f0)) || (!(((rd_T63 l0 x5_1).f0.f1) == ((rd_T63 l1 x5_1).f0.f1)))) = false := by simpa using c7
        clear c7
        replace H := Option.bind_eq_some_iff.mp H
        obtain ⟨t167, A90, H⟩ := H
        replace H : (if t167 = true then (annuletref30_Outs.l0 k1 l0 l1 (wrap64 (x5_1 + 1))) else (some false)) = some r := H
        have A9 := Aside0.mk A90
        clear A90
        by_cases c10 : t167 = true
        ·subst c10
         have H1 : (annuletref30_Outs.l0 k1 l0 l1 (wrap64 (x5_1 + 1))) = some r := by rw [if_pos rfl] at H; exact H
         clear H
         have H := H1
         clear H1
         have H' := Aside0.mk H
         clear H
         try go_wp2
         have n0_ := Aside0.mk (below_drew1 HB.out)
         clear HB
         have HB := n0_
         clear n0_
         have p163 : 0 ≤ (x5_1 : Int) := of_decide_eq_true (by first | (with_reducible assumption) | assumption)
         have q163 : x5_1 < (l0.length : Int) := of_decide_eq_true (by first | (with_reducible assumption) | assumption)
         obtain ⟨ad163, A163_11, c163_11, A163_12, c163_12, e163, hx163_0, hx163_1, hx163_2, hx163_3, hx163_4, hx163_5, hx163_6, hx163_7, hx163_8, hx163_9, hx163_10, hx163_11, hx163_12, hl163_11, hi163_11, hl163_12, hi163_12⟩ := at_T63 HR0.out x5_1 p163 q163
         have hw163_12 := hx163_12
         have hw163_11 := hx163_11
         have hw163_10 := hx163_10
         have hw163_9 := hx163_9
         have hw163_8 := hx163_8
         have hw163_7 := hx163_7
         have hw163_6 := hx163_6
         have hw163_5 := hx163_5
         have hw163_4 := hx163_4
         have hw163_3 := hx163_3
         have hw163_2 := hx163_2
         have hw163_1 := hx163_1
         have hw163_0 := hx163_0
         cases e163
         replace hx163_0 := (HB.out.cell (World.block_lt_of_cell? w _ hx163_0)).trans hx163_0
         replace hx163_1 := (HB.out.cell (World.block_lt_of_cell? w _ hx163_1)).trans hx163_1
         replace hx163_2 := (HB.out.cell (World.block_lt_of_cell? w _ hx163_2)).trans hx163_2
         replace hx163_3 := (HB.out.cell (World.block_lt_of_cell? w _ hx163_3)).trans hx163_3
         replace hx163_4 := (HB.out.cell (World.block_lt_of_cell? w _ hx163_4)).trans hx163_4
         replace hx163_5 := (HB.out.cell (World.block_lt_of_cell? w _ hx163_5)).trans hx163_5
         replace hx163_6 := (HB.out.cell (World.block_lt_of_cell? w _ hx163_6)).trans hx163_6
         replace hx163_7 := (HB.out.cell (World.block_lt_of_cell? w _ hx163_7)).trans hx163_7
         replace hx163_8 := (HB.out.cell (World.block_lt_of_cell? w _ hx163_8)).trans hx163_8
         replace hx163_9 := (HB.out.cell (World.block_lt_of_cell? w _ hx163_9)).trans hx163_9
         replace hx163_10 := (HB.out.cell (World.block_lt_of_cell? w _ hx163_10)).trans hx163_10
         replace hx163_11 := (HB.out.cell (World.block_lt_of_cell? w _ hx163_11)).trans hx163_11
         replace hx163_12 := (HB.out.cell (World.block_lt_of_cell? w _ hx163_12)).trans hx163_12
         have HR163_11 := Aside0.mk hi163_11
         have HC163_11 := Aside0.mk hl163_11
         clear hi163_11 hl163_11
         have HR163_12 := Aside0.mk hi163_12
         have HC163_12 := Aside0.mk hl163_12
         clear hi163_12 hl163_12
         replace p163 := eq_true p163
         replace q163 := eq_true q163
         have p164 : 0 ≤ (x5_1 : Int) := of_decide_eq_true (by first | (with_reducible assumption) | assumption)
         have q164 : x5_1 < (l1.length : Int) := of_decide_eq_true (by first | (with_reducible assumption) | assumption)
         obtain ⟨ad164, A164_11, c164_11, A164_12, c164_12, e164, hx164_0, hx164_1, hx164_2, hx164_3, hx164_4, hx164_5, hx164_6, hx164_7, hx164_8, hx164_9, hx164_10, hx164_11, hx164_12, hl164_11, hi164_11, hl164_12, hi164_12⟩ := at_T63 HR1.out x5_1 p164 q164
         have hw164_12 := hx164_12
         have hw164_11 := hx164_11
         have hw164_10 := hx164_10
         have hw164_9 := hx164_9
         have hw164_8 := hx164_8
         have hw164_7 := hx164_7
         have hw164_6 := hx164_6
         have hw164_5 := hx164_5
         have hw164_4 := hx164_4
         have hw164_3 := hx164_3
         have hw164_2 := hx164_2
         have hw164_1 := hx164_1
         have hw164_0 := hx164_0
         cases e164
         replace hx164_0 := (HB.out.cell (World.block_lt_of_cell? w _ hx164_0)).trans hx164_0
         replace hx164_1 := (HB.out.cell (World.block_lt_of_cell? w _ hx164_1)).trans hx164_1
         replace hx164_2 := (HB.out.cell (World.block_lt_of_cell? w _ hx164_2)).trans hx164_2
         replace hx164_3 := (HB.out.cell (World.block_lt_of_cell? w _ hx164_3)).trans hx164_3
         replace hx164_4 := (HB.out.cell (World.block_lt_of_cell? w _ hx164_4)).trans hx164_4
         replace hx164_5 := (HB.out.cell (World.block_lt_of_cell? w _ hx164_5)).trans hx164_5
         replace hx164_6 := (HB.out.cell (World.block_lt_of_cell? w _ hx164_6)).trans hx164_6
         replace hx164_7 := (HB.out.cell (World.block_lt_of_cell? w _ hx164_7)).trans hx164_7
         replace hx164_8 := (HB.out.cell (World.block_lt_of_cell? w _ hx164_8)).trans hx164_8
         replace hx164_9 := (HB.out.cell (World.block_lt_of_cell? w _ hx164_9)).trans hx164_9
         replace hx164_10 := (HB.out.cell (World.block_lt_of_cell? w _ hx164_10)).trans hx164_10
         replace hx164_11 := (HB.out.cell (World.block_lt_of_cell? w _ hx164_11)).trans hx164_11
         replace hx164_12 := (HB.out.cell (World.block_lt_of_cell? w _ hx164_12)).trans hx164_12
         have HR164_11 := Aside0.mk hi164_11
         have HC164_11 := Aside0.mk hl164_11
         clear hi164_11 hl164_11
         have HR164_12 := Aside0.mk hi164_12
         have HC164_12 := Aside0.mk hl164_12
         clear hi164_12 hl164_12
         replace p164 := eq_true p164
         replace q164 := eq_true q164
         have p165 : 0 ≤ (x5_1 : Int) := of_decide_eq_true (by first | (with_reducible assumption) | assumption)
         have q165 : x5_1 < (l0.length : Int) := of_decide_eq_true (by first | (with_reducible assumption) | assumption)
         obtain ⟨ad165, A165_11, c165_11, A165_12, c165_12, e165, hx165_0, hx165_1, hx165_2, hx165_3, hx165_4, hx165_5, hx165_6, hx165_7, hx165_8, hx165_9, hx165_10, hx165_11, hx165_12, hl165_11, hi165_11, hl165_12, hi165_12⟩ := at_T63 HR0.out x5_1 p165 q165
         have hw165_12 := hx165_12
         have hw165_11 := hx165_11
         have hw165_10 := hx165_10
         have hw165_9 := hx165_9
         have hw165_8 := hx165_8
         have hw165_7 := hx165_7
         have hw165_6 := hx165_6
         have hw165_5 := hx165_5
         have hw165_4 := hx165_4
         have hw165_3 := hx165_3
         have hw165_2 := hx165_2
         have hw165_1 := hx165_1
         have hw165_0 := hx165_0
         obtain rfl : ad163 = ad165 := (by injection e165)
         replace hx165_0 := (HB.out.cell (World.block_lt_of_cell? w _ hx165_0)).trans hx165_0
         replace hx165_1 := (HB.out.cell (World.block_lt_of_cell? w _ hx165_1)).trans hx165_1
         replace hx165_2 := (HB.out.cell (World.block_lt_of_cell? w _ hx165_2)).trans hx165_2
         replace hx165_3 := (HB.out.cell (World.block_lt_of_cell? w _ hx165_3)).trans hx165_3
         replace hx165_4 := (HB.out.cell (World.block_lt_of_cell? w _ hx165_4)).trans hx165_4
         replace hx165_5 := (HB.out.cell (World.block_lt_of_cell? w _ hx165_5)).trans hx165_5
         replace hx165_6 := (HB.out.cell (World.block_lt_of_cell? w _ hx165_6)).trans hx165_6
         replace hx165_7 := (HB.out.cell (World.block_lt_of_cell? w _ hx165_7)).trans hx165_7
         replace hx165_8 := (HB.out.cell (World.block_lt_of_cell? w _ hx165_8)).trans hx165_8
         replace hx165_9 := (HB.out.cell (World.block_lt_of_cell? w _ hx165_9)).trans hx165_9
         replace hx165_10 := (HB.out.cell (World.block_lt_of_cell? w _ hx165_10)).trans hx165_10
         replace hx165_11 := (HB.out.cell (World.block_lt_of_cell? w _ hx165_11)).trans hx165_11
         replace hx165_12 := (HB.out.cell (World.block_lt_of_cell? w _ hx165_12)).trans hx165_12
         have HR165_11 := Aside0.mk hi165_11
         have HC165_11 := Aside0.mk hl165_11
         clear hi165_11 hl165_11
         have HR165_12 := Aside0.mk hi165_12
         have HC165_12 := Aside0.mk hl165_12
         clear hi165_12 hl165_12
         replace p165 := eq_true p165
         replace q165 := eq_true q165
         have ea_ := Option.some.inj (hx163_11.symm.trans hx165_11)
         injection ea_ with ea_ en_ ec_
         subst ea_
         subst ec_
         clear en_
         have ea_ := Option.some.inj (hx163_12.symm.trans hx165_12)
         injection ea_ with ea_ en_ ec_
         subst ea_
         subst ec_
         clear en_
         have p166 : 0 ≤ (x5_1 : Int) := of_decide_eq_true (by first | (with_reducible assumption) | assumption)
         have q166 : x5_1 < (l1.length : Int) := of_decide_eq_true (by first | (with_reducible assumption) | assumption)
         obtain ⟨ad166, A166_11, c166_11, A166_12, c166_12, e166, hx166_0, hx166_1, hx166_2, hx166_3, hx166_4, hx166_5, hx166_6, hx166_7, hx166_8, hx166_9, hx166_10, hx166_11, hx166_12, hl166_11, hi166_11, hl166_12, hi166_12⟩ := at_T63 HR1.out x5_1 p166 q166
         have hw166_12 := hx166_12
         have hw166_11 := hx166_11
         have hw166_10 := hx166_10
         have hw166_9 := hx166_9
         have hw166_8 := hx166_8
         have hw166_7 := hx166_7
         have hw166_6 := hx166_6
         have hw166_5 := hx166_5
         have hw166_4 := hx166_4
         have hw166_3 := hx166_3
         have hw166_2 := hx166_2
         have hw166_1 := hx166_1
         have hw166_0 := hx166_0
         obtain rfl : ad164 = ad166 := (by injection e166)
         replace hx166_0 := (HB.out.cell (World.block_lt_of_cell? w _ hx166_0)).trans hx166_0
         replace hx166_1 := (HB.out.cell (World.block_lt_of_cell? w _ hx166_1)).trans hx166_1
         replace hx166_2 := (HB.out.cell (World.block_lt_of_cell? w _ hx166_2)).trans hx166_2
         replace hx166_3 := (HB.out.cell (World.block_lt_of_cell? w _ hx166_3)).trans hx166_3
         replace hx166_4 := (HB.out.cell (World.block_lt_of_cell? w _ hx166_4)).trans hx166_4
         replace hx166_5 := (HB.out.cell (World.block_lt_of_cell? w _ hx166_5)).trans hx166_5
         replace hx166_6 := (HB.out.cell (World.block_lt_of_cell? w _ hx166_6)).trans hx166_6
         replace hx166_7 := (HB.out.cell (World.block_lt_of_cell? w _ hx166_7)).trans hx166_7
         replace hx166_8 := (HB.out.cell (World.block_lt_of_cell? w _ hx166_8)).trans hx166_8
         replace hx166_9 := (HB.out.cell (World.block_lt_of_cell? w _ hx166_9)).trans hx166_9
         replace hx166_10 := (HB.out.cell (World.block_lt_of_cell? w _ hx166_10)).trans hx166_10
         replace hx166_11 := (HB.out.cell (World.block_lt_of_cell? w _ hx166_11)).trans hx166_11
         replace hx166_12 := (HB.out.cell (World.block_lt_of_cell? w _ hx166_12)).trans hx166_12
         have HR166_11 := Aside0.mk hi166_11
         have HC166_11 := Aside0.mk hl166_11
         clear hi166_11 hl166_11
         have HR166_12 := Aside0.mk hi166_12
         have HC166_12 := Aside0.mk hl166_12
         clear hi166_12 hl166_12
         replace p166 := eq_true p166
         replace q166 := eq_true q166
         have ea_ := Option.some.inj (hx164_11.symm.trans hx166_11)
         injection ea_ with ea_ en_ ec_
         subst ea_
         subst ec_
         clear en_
         have ea_ := Option.some.inj (hx164_12.symm.trans hx166_12)
         injection ea_ with ea_ en_ ec_
         subst ea_
         subst ec_
         clear en_
         refine start_ (n := 25) (S := fun w' => w'.cell? (ad163.add ((x5_1).toNat * 13)) = some (.int .u64 ((rd_T63 l0 x5_1).f0.f0)) ∧ w'.cell? ⟨(ad163.add ((x5_1).toNat * 13)).block, (ad163.add ((x5_1).toNat * 13)).off + 1, none⟩ = some (.int .u16 ((rd_T63 l0 x5_1).f0.f1)) ∧ w'.cell? ⟨(ad163.add ((x5_1).toNat * 13)).block, (ad163.add ((x5_1).toNat * 13)).off + 2, none⟩ = some (.int .i64 ((rd_T63 l0 x5_1).f1.f0)) ∧ w'.cell? ⟨(ad163.add ((x5_1).toNat * 13)).block, (ad163.add ((x5_1).toNat * 13)).off + 3, none⟩ = some (.int .u32 ((rd_T63 l0 x5_1).f1.f1)) ∧ w'.cell? ⟨(ad163.add ((x5_1).toNat * 13)).block, (ad163.add ((x5_1).toNat * 13)).off + 4, none⟩ = some (.int .u8 ((rd_T63 l0 x5_1).f1.f2)) ∧ w'.cell? ⟨(ad163.add ((x5_1).toNat * 13)).block, (ad163.add ((x5_1).toNat * 13)).off + 5, none⟩ = some (.bool ((rd_T63 l0 x5_1).f1.f3)) ∧ w'.cell? ⟨(ad163.add ((x5_1).toNat * 13)).block, (ad163.add ((x5_1).toNat * 13)).off + 6, none⟩ = some (.int .u64 ((rd_T63 l0 x5_1).f1.f4)) ∧ w'.cell? ⟨(ad163.add ((x5_1).toNat * 13)).block, (ad163.add ((x5_1).toNat * 13)).off + 7, none⟩ = some (.string ((rd_T63 l0 x5_1).f1.f5)) ∧ w'.cell? ⟨(ad163.add ((x5_1).toNat * 13)).block, (ad163.add ((x5_1).toNat * 13)).off + 8, none⟩ = some (.string ((rd_T63 l0 x5_1).f1.f6)) ∧ w'.cell? ⟨(ad163.add ((x5_1).toNat * 13)).block, (ad163.add ((x5_1).toNat * 13)).off + 9, none⟩ = some (.int .u64 ((rd_T63 l0 x5_1).f1.f7.f0)) ∧ w'.cell? ⟨(ad163.add ((x5_1).toNat * 13)).block, (ad163.add ((x5_1).toNat * 13)).off + 10, none⟩ = some (.int .u16 ((rd_T63 l0 x5_1).f1.f7.f1)) ∧ w'.cell? ⟨(ad163.add ((x5_1).toNat * 13)).block, (ad163.add ((x5_1).toNat * 13)).off + 11, none⟩ = some (.slice A163_11 ((rd_T63 l0 x5_1).f1.f8).length c163_11) ∧ w'.cell? ⟨(ad163.add ((x5_1).toNat * 13)).block, (ad163.add ((x5_1).toNat * 13)).off + 12, none⟩ = some (.slice A163_12 ((rd_T63 l0 x5_1).f1.f9).length c163_12) ∧ w'.cell? (ad164.add ((x5_1).toNat * 13)) = some (.int .u64 ((rd_T63 l1 x5_1).f0.f0)) ∧ w'.cell? ⟨(ad164.add ((x5_1).toNat * 13)).block, (ad164.add ((x5_1).toNat * 13)).off + 1, none⟩ = some (.int .u16 ((rd_T63 l1 x5_1).f0.f1)) ∧ w'.cell? ⟨(ad164.add ((x5_1).toNat * 13)).block, (ad164.add ((x5_1).toNat * 13)).off + 2, none⟩ = some (.int .i64 ((rd_T63 l1 x5_1).f1.f0)) ∧ w'.cell? ⟨(ad164.add ((x5_1).toNat * 13)).block, (ad164.add ((x5_1).toNat * 13)).off + 3, none⟩ = some (.int .u32 ((rd_T63 l1 x5_1).f1.f1)) ∧ w'.cell? ⟨(ad164.add ((x5_1).toNat * 13)).block, (ad164.add ((x5_1).toNat * 13)).off + 4, none⟩ = some (.int .u8 ((rd_T63 l1 x5_1).f1.f2)) ∧ w'.cell? ⟨(ad164.add ((x5_1).toNat * 13)).block, (ad164.add ((x5_1).toNat * 13)).off + 5, none⟩ = some (.bool ((rd_T63 l1 x5_1).f1.f3)) ∧ w'.cell? ⟨(ad164.add ((x5_1).toNat * 13)).block, (ad164.add ((x5_1).toNat * 13)).off + 6, none⟩ = some (.int .u64 ((rd_T63 l1 x5_1).f1.f4)) ∧ w'.cell? ⟨(ad164.add ((x5_1).toNat * 13)).block, (ad164.add ((x5_1).toNat * 13)).off + 7, none⟩ = some (.string ((rd_T63 l1 x5_1).f1.f5)) ∧ w'.cell? ⟨(ad164.add ((x5_1).toNat * 13)).block, (ad164.add ((x5_1).toNat * 13)).off + 8, none⟩ = some (.string ((rd_T63 l1 x5_1).f1.f6)) ∧ w'.cell? ⟨(ad164.add ((x5_1).toNat * 13)).block, (ad164.add ((x5_1).toNat * 13)).off + 9, none⟩ = some (.int .u64 ((rd_T63 l1 x5_1).f1.f7.f0)) ∧ w'.cell? ⟨(ad164.add ((x5_1).toNat * 13)).block, (ad164.add ((x5_1).toNat * 13)).off + 10, none⟩ = some (.int .u16 ((rd_T63 l1 x5_1).f1.f7.f1)) ∧ w'.cell? ⟨(ad164.add ((x5_1).toNat * 13)).block, (ad164.add ((x5_1).toNat * 13)).off + 11, none⟩ = some (.slice A164_11 ((rd_T63 l1 x5_1).f1.f8).length c164_11) ∧ w'.cell? ⟨(ad164.add ((x5_1).toNat * 13)).block, (ad164.add ((x5_1).toNat * 13)).off + 12, none⟩ = some (.slice A164_12 ((rd_T63 l1 x5_1).f1.f9).length c164_12) ∧ w'.cell? (ad163.add ((x5_1).toNat * 13)) = some (.int .u64 ((rd_T63 l0 x5_1).f0.f0)) ∧ w'.cell? ⟨(ad163.add ((x5_1).toNat * 13)).block, (ad163.add ((x5_1).toNat * 13)).off + 1, none⟩ = some (.int .u16 ((rd_T63 l0 x5_1).f0.f1)) ∧ w'.cell? ⟨(ad163.add ((x5_1).toNat * 13)).block, (ad163.add ((x5_1).toNat * 13)).off + 2, none⟩ = some (.int .i64 ((rd_T63 l0 x5_1).f1.f0)) ∧ w'.cell? ⟨(ad163.add ((x5_1).toNat * 13)).block, (ad163.add ((x5_1).toNat * 13)).off + 3, none⟩ = some (.int .u32 ((rd_T63 l0 x5_1).f1.f1)) ∧ w'.cell? ⟨(ad163.add ((x5_1).toNat * 13)).block, (ad163.add ((x5_1).toNat * 13)).off + 4, none⟩ = some (.int .u8 ((rd_T63 l0 x5_1).f1.f2)) ∧ w'.cell? ⟨(ad163.add ((x5_1).toNat * 13)).block, (ad163.add ((x5_1).toNat * 13)).off + 5, none⟩ = some (.bool ((rd_T63 l0 x5_1).f1.f3)) ∧ w'.cell? ⟨(ad163.add ((x5_1).toNat * 13)).block, (ad163.add ((x5_1).toNat * 13)).off + 6, none⟩ = some (.int .u64 ((rd_T63 l0 x5_1).f1.f4)) ∧ w'.cell? ⟨(ad163.add ((x5_1).toNat * 13)).block, (ad163.add ((x5_1).toNat * 13)).off + 7, none⟩ = some (.string ((rd_T63 l0 x5_1).f1.f5)) ∧ w'.cell? ⟨(ad163.add ((x5_1).toNat * 13)).block, (ad163.add ((x5_1).toNat * 13)).off + 8, none⟩ = some (.string ((rd_T63 l0 x5_1).f1.f6)) ∧ w'.cell? ⟨(ad163.add ((x5_1).toNat * 13)).block, (ad163.add ((x5_1).toNat * 13)).off + 9, none⟩ = some (.int .u64 ((rd_T63 l0 x5_1).f1.f7.f0)) ∧ w'.cell? ⟨(ad163.add ((x5_1).toNat * 13)).block, (ad163.add ((x5_1).toNat * 13)).off + 10, none⟩ = some (.int .u16 ((rd_T63 l0 x5_1).f1.f7.f1)) ∧ w'.cell? ⟨(ad163.add ((x5_1).toNat * 13)).block, (ad163.add ((x5_1).toNat * 13)).off + 11, none⟩ = some (.slice A163_11 ((rd_T63 l0 x5_1).f1.f8).length c163_11) ∧ w'.cell? ⟨(ad163.add ((x5_1).toNat * 13)).block, (ad163.add ((x5_1).toNat * 13)).off + 12, none⟩ = some (.slice A163_12 ((rd_T63 l0 x5_1).f1.f9).length c163_12) ∧ w'.cell? (ad164.add ((x5_1).toNat * 13)) = some (.int .u64 ((rd_T63 l1 x5_1).f0.f0)) ∧ w'.cell? ⟨(ad164.add ((x5_1).toNat * 13)).block, (ad164.add ((x5_1).toNat * 13)).off + 1, none⟩ = some (.int .u16 ((rd_T63 l1 x5_1).f0.f1)) ∧ w'.cell? ⟨(ad164.add ((x5_1).toNat * 13)).block, (ad164.add ((x5_1).toNat * 13)).off + 2, none⟩ = some (.int .i64 ((rd_T63 l1 x5_1).f1.f0)) ∧ w'.cell? ⟨(ad164.add ((x5_1).toNat * 13)).block, (ad164.add ((x5_1).toNat * 13)).off + 3, none⟩ = some (.int .u32 ((rd_T63 l1 x5_1).f1.f1)) ∧ w'.cell? ⟨(ad164.add ((x5_1).toNat * 13)).block, (ad164.add ((x5_1).toNat * 13)).off + 4, none⟩ = some (.int .u8 ((rd_T63 l1 x5_1).f1.f2)) ∧ w'.cell? ⟨(ad164.add ((x5_1).toNat * 13)).block, (ad164.add ((x5_1).toNat * 13)).off + 5, none⟩ = some (.bool ((rd_T63 l1 x5_1).f1.f3)) ∧ w'.cell? ⟨(ad164.add ((x5_1).toNat * 13)).block, (ad164.add ((x5_1).toNat * 13)).off + 6, none⟩ = some (.int .u64 ((rd_T63 l1 x5_1).f1.f4)) ∧ w'.cell? ⟨(ad164.add ((x5_1).toNat * 13)).block, (ad164.add ((x5_1).toNat * 13)).off + 7, none⟩ = some (.string ((rd_T63 l1 x5_1).f1.f5)) ∧ w'.cell? ⟨(ad164.add ((x5_1).toNat * 13)).block, (ad164.add ((x5_1).toNat * 13)).off + 8, none⟩ = some (.string ((rd_T63 l1 x5_1).f1.f6)) ∧ w'.cell? ⟨(ad164.add ((x5_1).toNat * 13)).block, (ad164.add ((x5_1).toNat * 13)).off + 9, none⟩ = some (.int .u64 ((rd_T63 l1 x5_1).f1.f7.f0)) ∧ w'.cell? ⟨(ad164.add ((x5_1).toNat * 13)).block, (ad164.add ((x5_1).toNat * 13)).off + 10, none⟩ = some (.int .u16 ((rd_T63 l1 x5_1).f1.f7.f1)) ∧ w'.cell? ⟨(ad164.add ((x5_1).toNat * 13)).block, (ad164.add ((x5_1).toNat * 13)).off + 11, none⟩ = some (.slice A164_11 ((rd_T63 l1 x5_1).f1.f8).length c164_11) ∧ w'.cell? ⟨(ad164.add ((x5_1).toNat * 13)).block, (ad164.add ((x5_1).toNat * 13)).off + 12, none⟩ = some (.slice A164_12 ((rd_T63 l1 x5_1).f1.f9).length c164_12)) (ds := []) #[F',F',F',F',F',F',F',F',F',F',F',F',F',F',F',F',F',F',F',F',F',F',F',F',F'] (by kernel_rfl) rfl rfl ⟨((HB.out.cell (World.block_lt_of_cell? w _ hw163_0)).trans hw163_0), ((HB.out.cell (World.block_lt_of_cell? w _ hw163_1)).trans hw163_1), ((HB.out.cell (World.block_lt_of_cell? w _ hw163_2)).trans hw163_2), ((HB.out.cell (World.block_lt_of_cell? w _ hw163_3)).trans hw163_3), ((HB.out.cell (World.block_lt_of_cell? w _ hw163_4)).trans hw163_4), ((HB.out.cell (World.block_lt_of_cell? w _ hw163_5)).trans hw163_5), ((HB.out.cell (World.block_lt_of_cell? w _ hw163_6)).trans hw163_6), ((HB.out.cell (World.block_lt_of_cell? w _ hw163_7)).trans hw163_7), ((HB.out.cell (World.block_lt_of_cell? w _ hw163_8)).trans hw163_8), ((HB.out.cell (World.block_lt_of_cell? w _ hw163_9)).trans hw163_9), ((HB.out.cell (World.block_lt_of_cell? w _ hw163_10)).trans hw163_10), ((HB.out.cell (World.block_lt_of_cell? w _ hw163_11)).trans hw163_11), ((HB.out.cell (World.block_lt_of_cell? w _ hw163_12)).trans hw163_12), ((HB.out.cell (World.block_lt_of_cell? w _ hw164_0)).trans hw164_0), ((HB.out.cell (World.block_lt_of_cell? w _ hw164_1)).trans hw164_1), ((HB.out.cell (World.block_lt_of_cell? w _ hw164_2)).trans hw164_2), ((HB.out.cell (World.block_lt_of_cell? w _ hw164_3)).trans hw164_3), ((HB.out.cell (World.block_lt_of_cell? w _ hw164_4)).trans hw164_4), ((HB.out.cell (World.block_lt_of_cell? w _ hw164_5)).trans hw164_5), ((HB.out.cell (World.block_lt_of_cell? w _ hw164_6)).trans hw164_6), ((HB.out.cell (World.block_lt_of_cell? w _ hw164_7)).trans hw164_7), ((HB.out.cell (World.block_lt_of_cell? w _ hw164_8)).trans hw164_8), ((HB.out.cell (World.block_lt_of_cell? w _ hw164_9)).trans hw164_9), ((HB.out.cell (World.block_lt_of_cell? w _ hw164_10)).trans hw164_10), ((HB.out.cell (World.block_lt_of_cell? w _ hw164_11)).trans hw164_11), ((HB.out.cell (World.block_lt_of_cell? w _ hw164_12)).trans hw164_12), ((HB.out.cell (World.block_lt_of_cell? w _ hw165_0)).trans hw165_0), ((HB.out.cell (World.block_lt_of_cell? w _ hw165_1)).trans hw165_1), ((HB.out.cell (World.block_lt_of_cell? w _ hw165_2)).trans hw165_2), ((HB.out.cell (World.block_lt_of_cell? w _ hw165_3)).trans hw165_3), ((HB.out.cell (World.block_lt_of_cell? w _ hw165_4)).trans hw165_4), ((HB.out.cell (World.block_lt_of_cell? w _ hw165_5)).trans hw165_5), ((HB.out.cell (World.block_lt_of_cell? w _ hw165_6)).trans hw165_6), ((HB.out.cell (World.block_lt_of_cell? w _ hw165_7)).trans hw165_7), ((HB.out.cell (World.block_lt_of_cell? w _ hw165_8)).trans hw165_8), ((HB.out.cell (World.block_lt_of_cell? w _ hw165_9)).trans hw165_9), ((HB.out.cell (World.block_lt_of_cell? w _ hw165_10)).trans hw165_10), ((HB.out.cell (World.block_lt_of_cell? w _ hw165_11)).trans hw165_11), ((HB.out.cell (World.block_lt_of_cell? w _ hw165_12)).trans hw165_12), ((HB.out.cell (World.block_lt_of_cell? w _ hw166_0)).trans hw166_0), ((HB.out.cell (World.block_lt_of_cell? w _ hw166_1)).trans hw166_1), ((HB.out.cell (World.block_lt_of_cell? w _ hw166_2)).trans hw166_2), ((HB.out.cell (World.block_lt_of_cell? w _ hw166_3)).trans hw166_3), ((HB.out.cell (World.block_lt_of_cell? w _ hw166_4)).trans hw166_4), ((HB.out.cell (World.block_lt_of_cell? w _ hw166_5)).trans hw166_5), ((HB.out.cell (World.block_lt_of_cell? w _ hw166_6)).trans hw166_6), ((HB.out.cell (World.block_lt_of_cell? w _ hw166_7)).trans hw166_7), ((HB.out.cell (World.block_lt_of_cell? w _ hw166_8)).trans hw166_8), ((HB.out.cell (World.block_lt_of_cell? w _ hw166_9)).trans hw166_9), ((HB.out.cell (World.block_lt_of_cell? w _ hw166_10)).trans hw166_10), ((HB.out.cell (World.block_lt_of_cell? w _ hw166_11)).trans hw166_11), ((HB.out.cell (World.block_lt_of_cell? w _ hw166_12)).trans hw166_12)⟩ (fun hHeld => ?_); refine with_tabW annuletref30_Outs.tab6 annuletref30_Outs.bits6 (fun HT_ HW_ => ?_)
         generalize wr.drew = w11 at HB HR163_11 HR163_12 HR164_11 HR164_12 HR165_11 HR165_12 HR166_11 HR166_12 hx163_0 hx163_1 hx163_10 hx163_11 hx163_12 hx163_2 hx163_3 hx163_4 hx163_5 hx163_6 hx163_7 hx163_8 hx163_9 hx164_0 hx164_1 hx164_10 hx164_11 hx164_12 hx164_2 hx164_3 hx164_4 hx164_5 hx164_6 hx164_7 hx164_8 hx164_9 hx165_0 hx165_1 hx165_10 hx165_11 hx165_12 hx165_2 hx165_3 hx165_4 hx165_5 hx165_6 hx165_7 hx165_8 hx165_9 hx166_0 hx166_1 hx166_10 hx166_11 hx166_12 hx166_2 hx166_3 hx166_4 hx166_5 hx166_6 hx166_7 hx166_8 hx166_9 hHeld ⊢
         refine pure_ (i := 0) (N := some 17) (v := ?_) (a' := ?_) #[T',F',F',F',F',F',F',F',F',F',F',F',F',F',F',F',F',F',F',F',F',F',F',F',F'] rfl rfl (any_of HT_.out (by kernel_rfl)) (fun _ _ _ h => h) (Or.inl ⟨by rfl, ?_⟩) ?_ ?_
         rotate_left
         ·intro w'
          go_simp
          with_reducible rfl
         rotate_left
         ·simp only [Act.put, la_, lz_, ls_, i64_w, i32_w]
          rfl
         refine pure_ (i := 1) (N := some 18) (v := ?_) (a' := ?_) #[T',T',F',F',F',F',F',F',F',F',F',F',F',F',F',F',F',F',F',F',F',F',F',F',F'] rfl rfl (any_of HT_.out (by kernel_rfl)) (fun _ _ _ h => h) (Or.inl ⟨by rfl, ?_⟩) ?_ ?_
         rotate_left
         ·intro w'
          go_simp
          with_reducible rfl
         rotate_left
         ·simp only [Act.put, la_, lz_, ls_, i64_w, i32_w]
          rfl
         refine pure_ (i := 2) (N := some 19) (v := ?_) (a' := ?_) #[T',T',T',F',F',F',F',F',F',F',F',F',F',F',F',F',F',F',F',F',F',F',F',F',F'] rfl rfl (any_of HT_.out (by kernel_rfl)) (fun _ _ _ h => h) (Or.inl ⟨by rfl, ?_⟩) ?_ ?_
         rotate_left
         ·intro w'
          go_simp
          with_reducible rfl
         rotate_left
         ·simp only [Act.put, la_, lz_, ls_, i64_w, i32_w]
          rfl
         refine pure_ (i := 3) (N := some 20) (v := ?_) (a' := ?_) #[T',T',T',T',F',F',F',F',F',F',F',F',F',F',F',F',F',F',F',F',F',F',F',F',F'] rfl rfl (any_of HT_.out (by kernel_rfl)) (fun _ _ _ h => h) (Or.inl ⟨by rfl, ?_⟩) ?_ ?_
         rotate_left
         ·intro w'
          go_simp
          with_reducible rfl
         rotate_left
         ·simp only [Act.put, la_, lz_, ls_, i64_w, i32_w]
          rfl
         refine pure_ (i := 5) (N := some 22) (v := ?_) (a' := ?_) #[T',T',T',T',F',T',F',F',F',F',F',F',F',F',F',F',F',F',F',F',F',F',F',F',F'] rfl rfl (any_of HT_.out (by kernel_rfl)) (fun _ _ _ h => h) (Or.inl ⟨by rfl, ?_⟩) ?_ ?_
         rotate_left
         ·intro w'
          go_simp
          with_reducible rfl
         rotate_left
         ·simp only [Act.put, la_, lz_, ls_, i64_w, i32_w]
          rfl
         refine pure_ (i := 6) (N := some 23) (v := ?_) (a' := ?_) #[T',T',T',T',F',T',T',F',F',F',F',F',F',F',F',F',F',F',F',F',F',F',F',F',F'] rfl rfl (any_of HT_.out (by kernel_rfl)) (fun _ _ _ h => h) (Or.inl ⟨by rfl, ?_⟩) ?_ ?_
         rotate_left
         ·intro w'
          go_simp
          with_reducible rfl
         rotate_left
         ·simp only [Act.put, la_, lz_, ls_, i64_w, i32_w]
          rfl
         refine pure_ (i := 7) (N := some 24) (v := ?_) (a' := ?_) #[T',T',T',T',F',T',T',T',F',F',F',F',F',F',F',F',F',F',F',F',F',F',F',F',F'] rfl rfl (any_of HT_.out (by kernel_rfl)) (fun _ _ _ h => h) (Or.inl ⟨by rfl, ?_⟩) ?_ ?_
         rotate_left
         ·intro w'
          go_simp
          with_reducible rfl
         rotate_left
         ·simp only [Act.put, la_, lz_, ls_, i64_w, i32_w]
          rfl
         refine pure_ (i := 8) (N := some 25) (v := ?_) (a' := ?_) #[T',T',T',T',F',T',T',T',T',F',F',F',F',F',F',F',F',F',F',F',F',F',F',F',F'] rfl rfl (any_of HT_.out (by kernel_rfl)) (fun _ _ _ h => h) (Or.inl ⟨by rfl, ?_⟩) ?_ ?_
         rotate_left
         ·intro w'
          go_simp
          with_reducible rfl
         rotate_left
         ·simp only [Act.put, la_, lz_, ls_, i64_w, i32_w]
          rfl
         refine take_ (i := 4) (N := some 21) (v := ?_) (a' := ?_) #[T',T',T',T',T',T',T',T',T',F',F',F',F',F',F',F',F',F',F',F',F',F',F',F',F'] rfl rfl (take_ofW HT_.out HW_.out (by kernel_rfl)) (fun _ _ _ h => h) (Or.inl ⟨by rfl, ?_⟩) hHeld ?_ ?_
         rotate_left
         ·rintro w' ⟨s0, s1, s2, s3, s4, s5, s6, s7, s8, s9, s10, s11, s12, s13, s14, s15, s16, s17, s18, s19, s20, s21, s22, s23, s24, s25, s26, s27, s28, s29, s30, s31, s32, s33, s34, s35, s36, s37, s38, s39, s40, s41, s42, s43, s44, s45, s46, s47, s48, s49, s50, s51⟩
          go_simp
          with_reducible rfl
         rotate_left
         ·simp only [Act.put, la_, lz_, ls_, i64_w, i32_w]
          rfl
         refine take_ (i := 9) (N := some 26) (v := ?_) (a' := ?_) #[T',T',T',T',T',T',T',T',T',T',F',F',F',F',F',F',F',F',F',F',F',F',F',F',F'] rfl rfl (take_ofW HT_.out HW_.out (by kernel_rfl)) (fun _ _ _ h => h) (Or.inl ⟨by rfl, ?_⟩) hHeld ?_ ?_
         rotate_left
         ·rintro w' ⟨s0, s1, s2, s3, s4, s5, s6, s7, s8, s9, s10, s11, s12, s13, s14, s15, s16, s17, s18, s19, s20, s21, s22, s23, s24, s25, s26, s27, s28, s29, s30, s31, s32, s33, s34, s35, s36, s37, s38, s39, s40, s41, s42, s43, s44, s45, s46, s47, s48, s49, s50, s51⟩
          go_simp
          with_reducible rfl
         rotate_left
         ·simp only [Act.put, la_, lz_, ls_, i64_w, i32_w]
          rfl
         refine pure_ (i := 10) (N := some 27) (v := ?_) (a' := ?_) #[T',T',T',T',T',T',T',T',T',T',T',F',F',F',F',F',F',F',F',F',F',F',F',F',F'] rfl rfl (any_of HT_.out (by kernel_rfl)) (fun _ _ _ h => h) (Or.inl ⟨by rfl, ?_⟩) ?_ ?_
         rotate_left
         ·intro w'
          go_simp
          with_reducible rfl
         rotate_left
         ·simp only [Act.put, la_, lz_, ls_, i64_w, i32_w]
          rfl
         refine pure_ (i := 11) (N := some 28) (v := ?_) (a' := ?_) #[T',T',T',T',T',T',T',T',T',T',T',T',F',F',F',F',F',F',F',F',F',F',F',F',F'] rfl rfl (any_of HT_.out (by kernel_rfl)) (fun _ _ _ h => h) (Or.inl ⟨by rfl, ?_⟩) ?_ ?_
         rotate_left
         ·intro w'
          go_simp
          with_reducible rfl
         rotate_left
         ·simp only [Act.put, la_, lz_, ls_, i64_w, i32_w]
          rfl
         refine pure_ (i := 12) (N := some 29) (v := ?_) (a' := ?_) #[T',T',T',T',T',T',T',T',T',T',T',T',T',F',F',F',F',F',F',F',F',F',F',F',F'] rfl rfl (any_of HT_.out (by kernel_rfl)) (fun _ _ _ h => h) (Or.inl ⟨by rfl, ?_⟩) ?_ ?_
         rotate_left
         ·intro w'
          go_simp
          with_reducible rfl
         rotate_left
         ·simp only [Act.put, la_, lz_, ls_, i64_w, i32_w]
          rfl
         refine pure_ (i := 13) (N := some 30) (v := ?_) (a' := ?_) #[T',T',T',T',T',T',T',T',T',T',T',T',T',T',F',F',F',F',F',F',F',F',F',F',F'] rfl rfl (any_of HT_.out (by kernel_rfl)) (fun _ _ _ h => h) (Or.inl ⟨by rfl, ?_⟩) ?_ ?_
         rotate_left
         ·intro w'
          go_simp
          with_reducible rfl
         rotate_left
         ·simp only [Act.put, la_, lz_, ls_, i64_w, i32_w]
          rfl
         refine pure_ (i := 14) (N := some 31) (v := ?_) (a' := ?_) #[T',T',T',T',T',T',T',T',T',T',T',T',T',T',T',F',F',F',F',F',F',F',F',F',F'] rfl rfl (any_of HT_.out (by kernel_rfl)) (fun _ _ _ h => h) (Or.inl ⟨by rfl, ?_⟩) ?_ ?_
         rotate_left
         ·intro w'
          go_simp
          with_reducible rfl
         rotate_left
         ·simp only [Act.put, la_, lz_, ls_, i64_w, i32_w]
          rfl
         refine pure_ (i := 15) (N := some 32) (v := ?_) (a' := ?_) #[T',T',T',T',T',T',T',T',T',T',T',T',T',T',T',T',F',F',F',F',F',F',F',F',F'] rfl rfl (any_of HT_.out (by kernel_rfl)) (fun _ _ _ h => h) (Or.inl ⟨by rfl, ?_⟩) ?_ ?_
         rotate_left
         ·intro w'
          go_simp
          with_reducible rfl
         rotate_left
         ·simp only [Act.put, la_, lz_, ls_, i64_w, i32_w]
          rfl
         refine pure_ (i := 17) (N := some 34) (v := ?_) (a' := ?_) #[T',T',T',T',T',T',T',T',T',T',T',T',T',T',T',T',F',T',F',F',F',F',F',F',F'] rfl rfl (any_of HT_.out (by kernel_rfl)) (fun _ _ _ h => h) (Or.inl ⟨by rfl, ?_⟩) ?_ ?_
         rotate_left
         ·intro w'
          go_simp
          with_reducible rfl
         rotate_left
         ·simp only [Act.put, la_, lz_, ls_, i64_w, i32_w]
          rfl
         refine pure_ (i := 18) (N := some 35) (v := ?_) (a' := ?_) #[T',T',T',T',T',T',T',T',T',T',T',T',T',T',T',T',F',T',T',F',F',F',F',F',F'] rfl rfl (any_of HT_.out (by kernel_rfl)) (fun _ _ _ h => h) (Or.inl ⟨by rfl, ?_⟩) ?_ ?_
         rotate_left
         ·intro w'
          go_simp
          with_reducible rfl
         rotate_left
         ·simp only [Act.put, la_, lz_, ls_, i64_w, i32_w]
          rfl
         refine pure_ (i := 19) (N := some 36) (v := ?_) (a' := ?_) #[T',T',T',T',T',T',T',T',T',T',T',T',T',T',T',T',F',T',T',T',F',F',F',F',F'] rfl rfl (any_of HT_.out (by kernel_rfl)) (fun _ _ _ h => h) (Or.inl ⟨by rfl, ?_⟩) ?_ ?_
         rotate_left
         ·intro w'
          go_simp
          with_reducible rfl
         rotate_left
         ·simp only [Act.put, la_, lz_, ls_, i64_w, i32_w]
          rfl
         refine pure_ (i := 20) (N := some 37) (v := ?_) (a' := ?_) #[T',T',T',T',T',T',T',T',T',T',T',T',T',T',T',T',F',T',T',T',T',F',F',F',F'] rfl rfl (any_of HT_.out (by kernel_rfl)) (fun _ _ _ h => h) (Or.inl ⟨by rfl, ?_⟩) ?_ ?_
         rotate_left
         ·intro w'
          go_simp
          with_reducible rfl
         rotate_left
         ·simp only [Act.put, la_, lz_, ls_, i64_w, i32_w]
          rfl
         refine take_ (i := 16) (N := some 33) (v := ?_) (a' := ?_) #[T',T',T',T',T',T',T',T',T',T',T',T',T',T',T',T',T',T',T',T',T',F',F',F',F'] rfl rfl (take_ofW HT_.out HW_.out (by kernel_rfl)) (fun _ _ _ h => h) (Or.inl ⟨by rfl, ?_⟩) hHeld ?_ ?_
         rotate_left
         ·rintro w' ⟨s0, s1, s2, s3, s4, s5, s6, s7, s8, s9, s10, s11, s12, s13, s14, s15, s16, s17, s18, s19, s20, s21, s22, s23, s24, s25, s26, s27, s28, s29, s30, s31, s32, s33, s34, s35, s36, s37, s38, s39, s40, s41, s42, s43, s44, s45, s46, s47, s48, s49, s50, s51⟩
          go_simp
          with_reducible rfl
         rotate_left
         ·simp only [Act.put, la_, lz_, ls_, i64_w, i32_w]
          rfl
         refine take_ (i := 21) (N := some 38) (v := ?_) (a' := ?_) #[T',T',T',T',T',T',T',T',T',T',T',T',T',T',T',T',T',T',T',T',T',T',F',F',F'] rfl rfl (take_ofW HT_.out HW_.out (by kernel_rfl)) (fun _ _ _ h => h) (Or.inl ⟨by rfl, ?_⟩) hHeld ?_ ?_
         rotate_left
         ·rintro w' ⟨s0, s1, s2, s3, s4, s5, s6, s7, s8, s9, s10, s11, s12, s13, s14, s15, s16, s17, s18, s19, s20, s21, s22, s23, s24, s25, s26, s27, s28, s29, s30, s31, s32, s33, s34, s35, s36, s37, s38, s39, s40, s41, s42, s43, s44, s45, s46, s47, s48, s49, s50, s51⟩
          go_simp
          with_reducible rfl
         rotate_left
         ·simp only [Act.put, la_, lz_, ls_, i64_w, i32_w]
          rfl
         refine one_ (i := 22) (N := some 39) #[T',T',T',T',T',T',T',T',T',T',T',T',T',T',T',T',T',T',T',T',T',T',T',F',F'] rfl rfl (one_of HT_.out (by kernel_rfl)) (by decide) (fun K hK => ?_)
         refine goes_ Try.func39 (by kernel_rfl) rfl #[.agg #[.int .i64 ((rd_T63 l0 x5_1).f1.f0), .int .u32 ((rd_T63 l0 x5_1).f1.f1), .int .u8 ((rd_T63 l0 x5_1).f1.f2), .bool ((rd_T63 l0 x5_1).f1.f3), .int .u64 ((rd_T63 l0 x5_1).f1.f4), .string ((rd_T63 l0 x5_1).f1.f5), .string ((rd_T63 l0 x5_1).f1.f6), .int .u64 ((rd_T63 l0 x5_1).f1.f7.f0), .int .u16 ((rd_T63 l0 x5_1).f1.f7.f1), .slice A163_11 ((rd_T63 l0 x5_1).f1.f8).length c163_11, .slice A163_12 ((rd_T63 l0 x5_1).f1.f9).length c163_12], .agg #[.int .i64 ((rd_T63 l1 x5_1).f1.f0), .int .u32 ((rd_T63 l1 x5_1).f1.f1), .int .u8 ((rd_T63 l1 x5_1).f1.f2), .bool ((rd_T63 l1 x5_1).f1.f3), .int .u64 ((rd_T63 l1 x5_1).f1.f4), .string ((rd_T63 l1 x5_1).f1.f5), .string ((rd_T63 l1 x5_1).f1.f6), .int .u64 ((rd_T63 l1 x5_1).f1.f7.f0), .int .u16 ((rd_T63 l1 x5_1).f1.f7.f1), .slice A164_11 ((rd_T63 l1 x5_1).f1.f8).length c164_11, .slice A164_12 ((rd_T63 l1 x5_1).f1.f9).length c164_12]] (by rfl) rfl rfl (by (try simp only [List.map_toArray, List.map_cons, List.map_nil]); first | done | rfl | (simp only [List.length_drop, List.length_take]; rfl)) ?_
         with_reducible refine (annuletref08_Same.calls k1 ((rd_T63 l0 x5_1).f1.f0) ((rd_T63 l0 x5_1).f1.f1) ((rd_T63 l0 x5_1).f1.f2) ((rd_T63 l0 x5_1).f1.f3) ((rd_T63 l0 x5_1).f1.f4) ((rd_T63 l0 x5_1).f1.f5) ((rd_T63 l0 x5_1).f1.f6) ((rd_T63 l0 x5_1).f1.f7.f0) ((rd_T63 l0 x5_1).f1.f7.f1) _ _ ((rd_T63 l0 x5_1).f1.f8) _ _ ((rd_T63 l0 x5_1).f1.f9) ((rd_T63 l1 x5_1).f1.f0) ((rd_T63 l1 x5_1).f1.f1) ((rd_T63 l1 x5_1).f1.f2) ((rd_T63 l1 x5_1).f1.f3) ((rd_T63 l1 x5_1).f1.f4) ((rd_T63 l1 x5_1).f1.f5) ((rd_T63 l1 x5_1).f1.f6) ((rd_T63 l1 x5_1).f1.f7.f0) ((rd_T63 l1 x5_1).f1.f7.f1) _ _ ((rd_T63 l1 x5_1).f1.f8) _ _ ((rd_T63 l1 x5_1).f1.f9) true _ ?side1 ?side2 ?side3 ?side4 ?side5 ?side6 ?side7 ?side8 A9.out).mono ?_
         (case side1 => repeat (first | exact (Kd.C_below HR165_11.out HB.out) | (with_reducible refine Kd.C_alloc ?_ _) | (with_reducible refine Kd.C_drewN ?_ _) | (with_reducible refine Kd.C_drew ?_)))
         (case side2 => exact HC165_11.out)
         (case side3 => repeat (first | exact (Kd.C_below HR165_12.out HB.out) | (with_reducible refine Kd.C_alloc ?_ _) | (with_reducible refine Kd.C_drewN ?_ _) | (with_reducible refine Kd.C_drew ?_)))
         (case side4 => exact HC165_12.out)
         (case side5 => repeat (first | exact (Kd.C_below HR166_11.out HB.out) | (with_reducible refine Kd.C_alloc ?_ _) | (with_reducible refine Kd.C_drewN ?_ _) | (with_reducible refine Kd.C_drew ?_)))
         (case side6 => exact HC166_11.out)
         (case side7 => repeat (first | exact (Kd.C_below HR166_12.out HB.out) | (with_reducible refine Kd.C_alloc ?_ _) | (with_reducible refine Kd.C_drewN ?_ _) | (with_reducible refine Kd.C_drew ?_)))
         (case side8 => exact HC166_12.out)
         rintro e w12 ⟨rfl, hb⟩
         refine ⟨_, rfl, ?_⟩
         have n0_ := Aside0.mk (below_step (by repeat (first | (with_reducible first | exact HB.out | apply below_alloc | apply pw_below_drewN | apply below_drew1) | exact HB.out)) hb)
         clear HB
         have HB := n0_
         clear n0_
         (try clear hb)
         (try clear hb2)
         (try clear hk)
         (try clear hi)
         refine hK.out _ _ ⟨((HB.out.cell (World.block_lt_of_cell? w _ hw163_0)).trans hw163_0), ((HB.out.cell (World.block_lt_of_cell? w _ hw163_1)).trans hw163_1), ((HB.out.cell (World.block_lt_of_cell? w _ hw163_2)).trans hw163_2), ((HB.out.cell (World.block_lt_of_cell? w _ hw163_3)).trans hw163_3), ((HB.out.cell (World.block_lt_of_cell? w _ hw163_4)).trans hw163_4), ((HB.out.cell (World.block_lt_of_cell? w _ hw163_5)).trans hw163_5), ((HB.out.cell (World.block_lt_of_cell? w _ hw163_6)).trans hw163_6), ((HB.out.cell (World.block_lt_of_cell? w _ hw163_7)).trans hw163_7), ((HB.out.cell (World.block_lt_of_cell? w _ hw163_8)).trans hw163_8), ((HB.out.cell (World.block_lt_of_cell? w _ hw163_9)).trans hw163_9), ((HB.out.cell (World.block_lt_of_cell? w _ hw163_10)).trans hw163_10), ((HB.out.cell (World.block_lt_of_cell? w _ hw163_11)).trans hw163_11), ((HB.out.cell (World.block_lt_of_cell? w _ hw163_12)).trans hw163_12), ((HB.out.cell (World.block_lt_of_cell? w _ hw164_0)).trans hw164_0), ((HB.out.cell (World.block_lt_of_cell? w _ hw164_1)).trans hw164_1), ((HB.out.cell (World.block_lt_of_cell? w _ hw164_2)).trans hw164_2), ((HB.out.cell (World.block_lt_of_cell? w _ hw164_3)).trans hw164_3), ((HB.out.cell (World.block_lt_of_cell? w _ hw164_4)).trans hw164_4), ((HB.out.cell (World.block_lt_of_cell? w _ hw164_5)).trans hw164_5), ((HB.out.cell (World.block_lt_of_cell? w _ hw164_6)).trans hw164_6), ((HB.out.cell (World.block_lt_of_cell? w _ hw164_7)).trans hw164_7), ((HB.out.cell (World.block_lt_of_cell? w _ hw164_8)).trans hw164_8), ((HB.out.cell (World.block_lt_of_cell? w _ hw164_9)).trans hw164_9), ((HB.out.cell (World.block_lt_of_cell? w _ hw164_10)).trans hw164_10), ((HB.out.cell (World.block_lt_of_cell? w _ hw164_11)).trans hw164_11), ((HB.out.cell (World.block_lt_of_cell? w _ hw164_12)).trans hw164_12), ((HB.out.cell (World.block_lt_of_cell? w _ hw165_0)).trans hw165_0), ((HB.out.cell (World.block_lt_of_cell? w _ hw165_1)).trans hw165_1), ((HB.out.cell (World.block_lt_of_cell? w _ hw165_2)).trans hw165_2), ((HB.out.cell (World.block_lt_of_cell? w _ hw165_3)).trans hw165_3), ((HB.out.cell (World.block_lt_of_cell? w _ hw165_4)).trans hw165_4), ((HB.out.cell (World.block_lt_of_cell? w _ hw165_5)).trans hw165_5), ((HB.out.cell (World.block_lt_of_cell? w _ hw165_6)).trans hw165_6), ((HB.out.cell (World.block_lt_of_cell? w _ hw165_7)).trans hw165_7), ((HB.out.cell (World.block_lt_of_cell? w _ hw165_8)).trans hw165_8), ((HB.out.cell (World.block_lt_of_cell? w _ hw165_9)).trans hw165_9), ((HB.out.cell (World.block_lt_of_cell? w _ hw165_10)).trans hw165_10), ((HB.out.cell (World.block_lt_of_cell? w _ hw165_11)).trans hw165_11), ((HB.out.cell (World.block_lt_of_cell? w _ hw165_12)).trans hw165_12), ((HB.out.cell (World.block_lt_of_cell? w _ hw166_0)).trans hw166_0), ((HB.out.cell (World.block_lt_of_cell? w _ hw166_1)).trans hw166_1), ((HB.out.cell (World.block_lt_of_cell? w _ hw166_2)).trans hw166_2), ((HB.out.cell (World.block_lt_of_cell? w _ hw166_3)).trans hw166_3), ((HB.out.cell (World.block_lt_of_cell? w _ hw166_4)).trans hw166_4), ((HB.out.cell (World.block_lt_of_cell? w _ hw166_5)).trans hw166_5), ((HB.out.cell (World.block_lt_of_cell? w _ hw166_6)).trans hw166_6), ((HB.out.cell (World.block_lt_of_cell? w _ hw166_7)).trans hw166_7), ((HB.out.cell (World.block_lt_of_cell? w _ hw166_8)).trans hw166_8), ((HB.out.cell (World.block_lt_of_cell? w _ hw166_9)).trans hw166_9), ((HB.out.cell (World.block_lt_of_cell? w _ hw166_10)).trans hw166_10), ((HB.out.cell (World.block_lt_of_cell? w _ hw166_11)).trans hw166_11), ((HB.out.cell (World.block_lt_of_cell? w _ hw166_12)).trans hw166_12)⟩ (fun hHeld => ?_)
         clear hK K
         refine norm_ (a' := ?_) ?_ ?_
         rotate_left
         ·show Act.put _ (some 39) _ = _
          simp only [Act.put, la_, lz_, ls_, i64_w, i32_w]
          rfl
         refine pure_ (i := 23) (N := some 40) (v := ?_) (a' := ?_) #[T',T',T',T',T',T',T',T',T',T',T',T',T',T',T',T',T',T',T',T',T',T',T',T',F'] rfl rfl (any_of HT_.out (by kernel_rfl)) (fun _ _ _ h => h) (Or.inl ⟨by rfl, ?_⟩) ?_ ?_
         rotate_left
         ·intro w'
          go_simp
          with_reducible rfl
         rotate_left
         ·simp only [Act.put, la_, lz_, ls_, i64_w, i32_w]
          rfl
         refine pure_ (i := 24) (N := some 41) (v := ?_) (a' := ?_) #[T',T',T',T',T',T',T',T',T',T',T',T',T',T',T',T',T',T',T',T',T',T',T',T',T'] rfl rfl (any_of HT_.out (by kernel_rfl)) (fun _ _ _ h => h) (Or.inl ⟨by rfl, ?_⟩) ?_ ?_
         rotate_left
         ·intro w'
          go_simp
          with_reducible rfl
         rotate_left
         ·simp only [Act.put, la_, lz_, ls_, i64_w, i32_w]
          rfl
         refine done_ (done_of HT_.out (by kernel_rfl)) ?_
         try go_wp2
         go_roundg k1
         case measure => have := HK1.out; omega
         case rel => exact ⟨(wrap64 (x5_1 + 1)), (by first | rfl | (simp; done) | (simp [*]; done)), H', ⟨by have := HK1.out; omega⟩, ⟨by repeat (first | (with_reducible first | exact HB.out | apply below_alloc | apply pw_below_drewN | apply below_drew1) | exact HB.out)⟩⟩
        ·replace c10 := Bool.eq_false_iff.mpr c10
         subst c10
         have H1 : (some false) = some r := by rw [if_neg (show ¬ (false = true) by decide)] at H; exact H
         clear H
         have H := H1
         clear H1
         obtain rfl := Option.some.inj H
         try go_wp2
         have n0_ := Aside0.mk (below_drew1 HB.out)
         clear HB
         have HB := n0_
         clear n0_
         have p163 : 0 ≤ (x5_1 : Int) := of_decide_eq_true (by first | (with_reducible assumption) | assumption)
         have q163 : x5_1 < (l0.length : Int) := of_decide_eq_true (by first | (with_reducible assumption) | assumption)
         obtain ⟨ad163, A163_11, c163_11, A163_12, c163_12, e163, hx163_0, hx163_1, hx163_2, hx163_3, hx163_4, hx163_5, hx163_6, hx163_7, hx163_8, hx163_9, hx163_10, hx163_11, hx163_12, hl163_11, hi163_11, hl163_12, hi163_12⟩ := at_T63 HR0.out x5_1 p163 q163
         have hw163_12 := hx163_12
         have hw163_11 := hx163_11
         have hw163_10 := hx163_10
         have hw163_9 := hx163_9
         have hw163_8 := hx163_8
         have hw163_7 := hx163_7
         have hw163_6 := hx163_6
         have hw163_5 := hx163_5
         have hw163_4 := hx163_4
         have hw163_3 := hx163_3
         have hw163_2 := hx163_2
         have hw163_1 := hx163_1
         have hw163_0 := hx163_0
         cases e163
         replace hx163_0 := (HB.out.cell (World.block_lt_of_cell? w _ hx163_0)).trans hx163_0
         replace hx163_1 := (HB.out.cell (World.block_lt_of_cell? w _ hx163_1)).trans hx163_1
         replace hx163_2 := (HB.out.cell (World.block_lt_of_cell? w _ hx163_2)).trans hx163_2
         replace hx163_3 := (HB.out.cell (World.block_lt_of_cell? w _ hx163_3)).trans hx163_3
         replace hx163_4 := (HB.out.cell (World.block_lt_of_cell? w _ hx163_4)).trans hx163_4
         replace hx163_5 := (HB.out.cell (World.block_lt_of_cell? w _ hx163_5)).trans hx163_5
         replace hx163_6 := (HB.out.cell (World.block_lt_of_cell? w _ hx163_6)).trans hx163_6
         replace hx163_7 := (HB.out.cell (World.block_lt_of_cell? w _ hx163_7)).trans hx163_7
         replace hx163_8 := (HB.out.cell (World.block_lt_of_cell? w _ hx163_8)).trans hx163_8
         replace hx163_9 := (HB.out.cell (World.block_lt_of_cell? w _ hx163_9)).trans hx163_9
         replace hx163_10 := (HB.out.cell (World.block_lt_of_cell? w _ hx163_10)).trans hx163_10
         replace hx163_11 := (HB.out.cell (World.block_lt_of_cell? w _ hx163_11)).trans hx163_11
         replace hx163_12 := (HB.out.cell (World.block_lt_of_cell? w _ hx163_12)).trans hx163_12
         have HR163_11 := Aside0.mk hi163_11
         have HC163_11 := Aside0.mk hl163_11
         clear hi163_11 hl163_11
         have HR163_12 := Aside0.mk hi163_12
         have HC163_12 := Aside0.mk hl163_12
         clear hi163_12 hl163_12
         replace p163 := eq_true p163
         replace q163 := eq_true q163
         have p164 : 0 ≤ (x5_1 : Int) := of_decide_eq_true (by first | (with_reducible assumption) | assumption)
         have q164 : x5_1 < (l1.length : Int) := of_decide_eq_true (by first | (with_reducible assumption) | assumption)
         obtain ⟨ad164, A164_11, c164_11, A164_12, c164_12, e164, hx164_0, hx164_1, hx164_2, hx164_3, hx164_4, hx164_5, hx164_6, hx164_7, hx164_8, hx164_9, hx164_10, hx164_11, hx164_12, hl164_11, hi164_11, hl164_12, hi164_12⟩ := at_T63 HR1.out x5_1 p164 q164
         have hw164_12 := hx164_12
         have hw164_11 := hx164_11
         have hw164_10 := hx164_10
         have hw164_9 := hx164_9
         have hw164_8 := hx164_8
         have hw164_7 := hx164_7
         have hw164_6 := hx164_6
         have hw164_5 := hx164_5
         have hw164_4 := hx164_4
         have hw164_3 := hx164_3
         have hw164_2 := hx164_2
         have hw164_1 := hx164_1
         have hw164_0 := hx164_0
         cases e164
         replace hx164_0 := (HB.out.cell (World.block_lt_of_cell? w _ hx164_0)).trans hx164_0
         replace hx164_1 := (HB.out.cell (World.block_lt_of_cell? w _ hx164_1)).trans hx164_1
         replace hx164_2 := (HB.out.cell (World.block_lt_of_cell? w _ hx164_2)).trans hx164_2
         replace hx164_3 := (HB.out.cell (World.block_lt_of_cell? w _ hx164_3)).trans hx164_3
         replace hx164_4 := (HB.out.cell (World.block_lt_of_cell? w _ hx164_4)).trans hx164_4
         replace hx164_5 := (HB.out.cell (World.block_lt_of_cell? w _ hx164_5)).trans hx164_5
         replace hx164_6 := (HB.out.cell (World.block_lt_of_cell? w _ hx164_6)).trans hx164_6
         replace hx164_7 := (HB.out.cell (World.block_lt_of_cell? w _ hx164_7)).trans hx164_7
         replace hx164_8 := (HB.out.cell (World.block_lt_of_cell? w _ hx164_8)).trans hx164_8
         replace hx164_9 := (HB.out.cell (World.block_lt_of_cell? w _ hx164_9)).trans hx164_9
         replace hx164_10 := (HB.out.cell (World.block_lt_of_cell? w _ hx164_10)).trans hx164_10
         replace hx164_11 := (HB.out.cell (World.block_lt_of_cell? w _ hx164_11)).trans hx164_11
         replace hx164_12 := (HB.out.cell (World.block_lt_of_cell? w _ hx164_12)).trans hx164_12
         have HR164_11 := Aside0.mk hi164_11
         have HC164_11 := Aside0.mk hl164_11
         clear hi164_11 hl164_11
         have HR164_12 := Aside0.mk hi164_12
         have HC164_12 := Aside0.mk hl164_12
         clear hi164_12 hl164_12
         replace p164 := eq_true p164
         replace q164 := eq_true q164
         have p165 : 0 ≤ (x5_1 : Int) := of_decide_eq_true (by first | (with_reducible assumption) | assumption)
         have q165 : x5_1 < (l0.length : Int) := of_decide_eq_true (by first | (with_reducible assumption) | assumption)
         obtain ⟨ad165, A165_11, c165_11, A165_12, c165_12, e165, hx165_0, hx165_1, hx165_2, hx165_3, hx165_4, hx165_5, hx165_6, hx165_7, hx165_8, hx165_9, hx165_10, hx165_11, hx165_12, hl165_11, hi165_11, hl165_12, hi165_12⟩ := at_T63 HR0.out x5_1 p165 q165
         have hw165_12 := hx165_12
         have hw165_11 := hx165_11
         have hw165_10 := hx165_10
         have hw165_9 := hx165_9
         have hw165_8 := hx165_8
         have hw165_7 := hx165_7
         have hw165_6 := hx165_6
         have hw165_5 := hx165_5
         have hw165_4 := hx165_4
         have hw165_3 := hx165_3
         have hw165_2 := hx165_2
         have hw165_1 := hx165_1
         have hw165_0 := hx165_0
         obtain rfl : ad163 = ad165 := (by injection e165)
         replace hx165_0 := (HB.out.cell (World.block_lt_of_cell? w _ hx165_0)).trans hx165_0
         replace hx165_1 := (HB.out.cell (World.block_lt_of_cell? w _ hx165_1)).trans hx165_1
         replace hx165_2 := (HB.out.cell (World.block_lt_of_cell? w _ hx165_2)).trans hx165_2
         replace hx165_3 := (HB.out.cell (World.block_lt_of_cell? w _ hx165_3)).trans hx165_3
         replace hx165_4 := (HB.out.cell (World.block_lt_of_cell? w _ hx165_4)).trans hx165_4
         replace hx165_5 := (HB.out.cell (World.block_lt_of_cell? w _ hx165_5)).trans hx165_5
         replace hx165_6 := (HB.out.cell (World.block_lt_of_cell? w _ hx165_6)).trans hx165_6
         replace hx165_7 := (HB.out.cell (World.block_lt_of_cell? w _ hx165_7)).trans hx165_7
         replace hx165_8 := (HB.out.cell (World.block_lt_of_cell? w _ hx165_8)).trans hx165_8
         replace hx165_9 := (HB.out.cell (World.block_lt_of_cell? w _ hx165_9)).trans hx165_9
         replace hx165_10 := (HB.out.cell (World.block_lt_of_cell? w _ hx165_10)).trans hx165_10
         replace hx165_11 := (HB.out.cell (World.block_lt_of_cell? w _ hx165_11)).trans hx165_11
         replace hx165_12 := (HB.out.cell (World.block_lt_of_cell? w _ hx165_12)).trans hx165_12
         have HR165_11 := Aside0.mk hi165_11
         have HC165_11 := Aside0.mk hl165_11
         clear hi165_11 hl165_11
         have HR165_12 := Aside0.mk hi165_12
         have HC165_12 := Aside0.mk hl165_12
         clear hi165_12 hl165_12
         replace p165 := eq_true p165
         replace q165 := eq_true q165
         have ea_ := Option.some.inj (hx163_11.symm.trans hx165_11)
         injection ea_ with ea_ en_ ec_
         subst ea_
         subst ec_
         clear en_
         have ea_ := Option.some.inj (hx163_12.symm.trans hx165_12)
         injection ea_ with ea_ en_ ec_
         subst ea_
         subst ec_
         clear en_
         have p166 : 0 ≤ (x5_1 : Int) := of_decide_eq_true (by first | (with_reducible assumption) | assumption)
         have q166 : x5_1 < (l1.length : Int) := of_decide_eq_true (by first | (with_reducible assumption) | assumption)
         obtain ⟨ad166, A166_11, c166_11, A166_12, c166_12, e166, hx166_0, hx166_1, hx166_2, hx166_3, hx166_4, hx166_5, hx166_6, hx166_7, hx166_8, hx166_9, hx166_10, hx166_11, hx166_12, hl166_11, hi166_11, hl166_12, hi166_12⟩ := at_T63 HR1.out x5_1 p166 q166
         have hw166_12 := hx166_12
         have hw166_11 := hx166_11
         have hw166_10 := hx166_10
         have hw166_9 := hx166_9
         have hw166_8 := hx166_8
         have hw166_7 := hx166_7
         have hw166_6 := hx166_6
         have hw166_5 := hx166_5
         have hw166_4 := hx166_4
         have hw166_3 := hx166_3
         have hw166_2 := hx166_2
         have hw166_1 := hx166_1
         have hw166_0 := hx166_0
         obtain rfl : ad164 = ad166 := (by injection e166)
         replace hx166_0 := (HB.out.cell (World.block_lt_of_cell? w _ hx166_0)).trans hx166_0
         replace hx166_1 := (HB.out.cell (World.block_lt_of_cell? w _ hx166_1)).trans hx166_1
         replace hx166_2 := (HB.out.cell (World.block_lt_of_cell? w _ hx166_2)).trans hx166_2
         replace hx166_3 := (HB.out.cell (World.block_lt_of_cell? w _ hx166_3)).trans hx166_3
         replace hx166_4 := (HB.out.cell (World.block_lt_of_cell? w _ hx166_4)).trans hx166_4
         replace hx166_5 := (HB.out.cell (World.block_lt_of_cell? w _ hx166_5)).trans hx166_5
         replace hx166_6 := (HB.out.cell (World.block_lt_of_cell? w _ hx166_6)).trans hx166_6
         replace hx166_7 := (HB.out.cell (World.block_lt_of_cell? w _ hx166_7)).trans hx166_7
         replace hx166_8 := (HB.out.cell (World.block_lt_of_cell? w _ hx166_8)).trans hx166_8
         replace hx166_9 := (HB.out.cell (World.block_lt_of_cell? w _ hx166_9)).trans hx166_9
         replace hx166_10 := (HB.out.cell (World.block_lt_of_cell? w _ hx166_10)).trans hx166_10
         replace hx166_11 := (HB.out.cell (World.block_lt_of_cell? w _ hx166_11)).trans hx166_11
         replace hx166_12 := (HB.out.cell (World.block_lt_of_cell? w _ hx166_12)).trans hx166_12
         have HR166_11 := Aside0.mk hi166_11
         have HC166_11 := Aside0.mk hl166_11
         clear hi166_11 hl166_11
         have HR166_12 := Aside0.mk hi166_12
         have HC166_12 := Aside0.mk hl166_12
         clear hi166_12 hl166_12
         replace p166 := eq_true p166
         replace q166 := eq_true q166
         have ea_ := Option.some.inj (hx164_11.symm.trans hx166_11)
         injection ea_ with ea_ en_ ec_
         subst ea_
         subst ec_
         clear en_
         have ea_ := Option.some.inj (hx164_12.symm.trans hx166_12)
         injection ea_ with ea_ en_ ec_
         subst ea_
         subst ec_
         clear en_
         refine start_ (n := 25) (S := fun w' => w'.cell? (ad163.add ((x5_1).toNat * 13)) = some (.int .u64 ((rd_T63 l0 x5_1).f0.f0)) ∧ w'.cell? ⟨(ad163.add ((x5_1).toNat * 13)).block, (ad163.add ((x5_1).toNat * 13)).off + 1, none⟩ = some (.int .u16 ((rd_T63 l0 x5_1).f0.f1)) ∧ w'.cell? ⟨(ad163.add ((x5_1).toNat * 13)).block, (ad163.add ((x5_1).toNat * 13)).off + 2, none⟩ = some (.int .i64 ((rd_T63 l0 x5_1).f1.f0)) ∧ w'.cell? ⟨(ad163.add ((x5_1).toNat * 13)).block, (ad163.add ((x5_1).toNat * 13)).off + 3, none⟩ = some (.int .u32 ((rd_T63 l0 x5_1).f1.f1)) ∧ w'.cell? ⟨(ad163.add ((x5_1).toNat * 13)).block, (ad163.add ((x5_1).toNat * 13)).off + 4, none⟩ = some (.int .u8 ((rd_T63 l0 x5_1).f1.f2)) ∧ w'.cell? ⟨(ad163.add ((x5_1).toNat * 13)).block, (ad163.add ((x5_1).toNat * 13)).off + 5, none⟩ = some (.bool ((rd_T63 l0 x5_1).f1.f3)) ∧ w'.cell? ⟨(ad163.add ((x5_1).toNat * 13)).block, (ad163.add ((x5_1).toNat * 13)).off + 6, none⟩ = some (.int .u64 ((rd_T63 l0 x5_1).f1.f4)) ∧ w'.cell? ⟨(ad163.add ((x5_1).toNat * 13)).block, (ad163.add ((x5_1).toNat * 13)).off + 7, none⟩ = some (.string ((rd_T63 l0 x5_1).f1.f5)) ∧ w'.cell? ⟨(ad163.add ((x5_1).toNat * 13)).block, (ad163.add ((x5_1).toNat * 13)).off + 8, none⟩ = some (.string ((rd_T63 l0 x5_1).f1.f6)) ∧ w'.cell? ⟨(ad163.add ((x5_1).toNat * 13)).block, (ad163.add ((x5_1).toNat * 13)).off + 9, none⟩ = some (.int .u64 ((rd_T63 l0 x5_1).f1.f7.f0)) ∧ w'.cell? ⟨(ad163.add ((x5_1).toNat * 13)).block, (ad163.add ((x5_1).toNat * 13)).off + 10, none⟩ = some (.int .u16 ((rd_T63 l0 x5_1).f1.f7.f1)) ∧ w'.cell? ⟨(ad163.add ((x5_1).toNat * 13)).block, (ad163.add ((x5_1).toNat * 13)).off + 11, none⟩ = some (.slice A163_11 ((rd_T63 l0 x5_1).f1.f8).length c163_11) ∧ w'.cell? ⟨(ad163.add ((x5_1).toNat * 13)).block, (ad163.add ((x5_1).toNat * 13)).off + 12, none⟩ = some (.slice A163_12 ((rd_T63 l0 x5_1).f1.f9).length c163_12) ∧ w'.cell? (ad164.add ((x5_1).toNat * 13)) = some (.int .u64 ((rd_T63 l1 x5_1).f0.f0)) ∧ w'.cell? ⟨(ad164.add ((x5_1).toNat * 13)).block, (ad164.add ((x5_1).toNat * 13)).off + 1, none⟩ = some (.int .u16 ((rd_T63 l1 x5_1).f0.f1)) ∧ w'.cell? ⟨(ad164.add ((x5_1).toNat * 13)).block, (ad164.add ((x5_1).toNat * 13)).off + 2, none⟩ = some (.int .i64 ((rd_T63 l1 x5_1).f1.f0)) ∧ w'.cell? ⟨(ad164.add ((x5_1).toNat * 13)).block, (ad164.add ((x5_1).toNat * 13)).off + 3, none⟩ = some (.int .u32 ((rd_T63 l1 x5_1).f1.f1)) ∧ w'.cell? ⟨(ad164.add ((x5_1).toNat * 13)).block, (ad164.add ((x5_1).toNat * 13)).off + 4, none⟩ = some (.int .u8 ((rd_T63 l1 x5_1).f1.f2)) ∧ w'.cell? ⟨(ad164.add ((x5_1).toNat * 13)).block, (ad164.add ((x5_1).toNat * 13)).off + 5, none⟩ = some (.bool ((rd_T63 l1 x5_1).f1.f3)) ∧ w'.cell? ⟨(ad164.add ((x5_1).toNat * 13)).block, (ad164.add ((x5_1).toNat * 13)).off + 6, none⟩ = some (.int .u64 ((rd_T63 l1 x5_1).f1.f4)) ∧ w'.cell? ⟨(ad164.add ((x5_1).toNat * 13)).block, (ad164.add ((x5_1).toNat * 13)).off + 7, none⟩ = some (.string ((rd_T63 l1 x5_1).f1.f5)) ∧ w'.cell? ⟨(ad164.add ((x5_1).toNat * 13)).block, (ad164.add ((x5_1).toNat * 13)).off + 8, none⟩ = some (.string ((rd_T63 l1 x5_1).f1.f6)) ∧ w'.cell? ⟨(ad164.add ((x5_1).toNat * 13)).block, (ad164.add ((x5_1).toNat * 13)).off + 9, none⟩ = some (.int .u64 ((rd_T63 l1 x5_1).f1.f7.f0)) ∧ w'.cell? ⟨(ad164.add ((x5_1).toNat * 13)).block, (ad164.add ((x5_1).toNat * 13)).off + 10, none⟩ = some (.int .u16 ((rd_T63 l1 x5_1).f1.f7.f1)) ∧ w'.cell? ⟨(ad164.add ((x5_1).toNat * 13)).block, (ad164.add ((x5_1).toNat * 13)).off + 11, none⟩ = some (.slice A164_11 ((rd_T63 l1 x5_1).f1.f8).length c164_11) ∧ w'.cell? ⟨(ad164.add ((x5_1).toNat * 13)).block, (ad164.add ((x5_1).toNat * 13)).off + 12, none⟩ = some (.slice A164_12 ((rd_T63 l1 x5_1).f1.f9).length c164_12) ∧ w'.cell? (ad163.add ((x5_1).toNat * 13)) = some (.int .u64 ((rd_T63 l0 x5_1).f0.f0)) ∧ w'.cell? ⟨(ad163.add ((x5_1).toNat * 13)).block, (ad163.add ((x5_1).toNat * 13)).off + 1, none⟩ = some (.int .u16 ((rd_T63 l0 x5_1).f0.f1)) ∧ w'.cell? ⟨(ad163.add ((x5_1).toNat * 13)).block, (ad163.add ((x5_1).toNat * 13)).off + 2, none⟩ = some (.int .i64 ((rd_T63 l0 x5_1).f1.f0)) ∧ w'.cell? ⟨(ad163.add ((x5_1).toNat * 13)).block, (ad163.add ((x5_1).toNat * 13)).off + 3, none⟩ = some (.int .u32 ((rd_T63 l0 x5_1).f1.f1)) ∧ w'.cell? ⟨(ad163.add ((x5_1).toNat * 13)).block, (ad163.add ((x5_1).toNat * 13)).off + 4, none⟩ = some (.int .u8 ((rd_T63 l0 x5_1).f1.f2)) ∧ w'.cell? ⟨(ad163.add ((x5_1).toNat * 13)).block, (ad163.add ((x5_1).toNat * 13)).off + 5, none⟩ = some (.bool ((rd_T63 l0 x5_1).f1.f3)) ∧ w'.cell? ⟨(ad163.add ((x5_1).toNat * 13)).block, (ad163.add ((x5_1).toNat * 13)).off + 6, none⟩ = some (.int .u64 ((rd_T63 l0 x5_1).f1.f4)) ∧ w'.cell? ⟨(ad163.add ((x5_1).toNat * 13)).block, (ad163.add ((x5_1).toNat * 13)).off + 7, none⟩ = some (.string ((rd_T63 l0 x5_1).f1.f5)) ∧ w'.cell? ⟨(ad163.add ((x5_1).toNat * 13)).block, (ad163.add ((x5_1).toNat * 13)).off + 8, none⟩ = some (.string ((rd_T63 l0 x5_1).f1.f6)) ∧ w'.cell? ⟨(ad163.add ((x5_1).toNat * 13)).block, (ad163.add ((x5_1).toNat * 13)).off + 9, none⟩ = some (.int .u64 ((rd_T63 l0 x5_1).f1.f7.f0)) ∧ w'.cell? ⟨(ad163.add ((x5_1).toNat * 13)).block, (ad163.add ((x5_1).toNat * 13)).off + 10, none⟩ = some (.int .u16 ((rd_T63 l0 x5_1).f1.f7.f1)) ∧ w'.cell? ⟨(ad163.add ((x5_1).toNat * 13)).block, (ad163.add ((x5_1).toNat * 13)).off + 11, none⟩ = some (.slice A163_11 ((rd_T63 l0 x5_1).f1.f8).length c163_11) ∧ w'.cell? ⟨(ad163.add ((x5_1).toNat * 13)).block, (ad163.add ((x5_1).toNat * 13)).off + 12, none⟩ = some (.slice A163_12 ((rd_T63 l0 x5_1).f1.f9).length c163_12) ∧ w'.cell? (ad164.add ((x5_1).toNat * 13)) = some (.int .u64 ((rd_T63 l1 x5_1).f0.f0)) ∧ w'.cell? ⟨(ad164.add ((x5_1).toNat * 13)).block, (ad164.add ((x5_1).toNat * 13)).off + 1, none⟩ = some (.int .u16 ((rd_T63 l1 x5_1).f0.f1)) ∧ w'.cell? ⟨(ad164.add ((x5_1).toNat * 13)).block, (ad164.add ((x5_1).toNat * 13)).off + 2, none⟩ = some (.int .i64 ((rd_T63 l1 x5_1).f1.f0)) ∧ w'.cell? ⟨(ad164.add ((x5_1).toNat * 13)).block, (ad164.add ((x5_1).toNat * 13)).off + 3, none⟩ = some (.int .u32 ((rd_T63 l1 x5_1).f1.f1)) ∧ w'.cell? ⟨(ad164.add ((x5_1).toNat * 13)).block, (ad164.add ((x5_1).toNat * 13)).off + 4, none⟩ = some (.int .u8 ((rd_T63 l1 x5_1).f1.f2)) ∧ w'.cell? ⟨(ad164.add ((x5_1).toNat * 13)).block, (ad164.add ((x5_1).toNat * 13)).off + 5, none⟩ = some (.bool ((rd_T63 l1 x5_1).f1.f3)) ∧ w'.cell? ⟨(ad164.add ((x5_1).toNat * 13)).block, (ad164.add ((x5_1).toNat * 13)).off + 6, none⟩ = some (.int .u64 ((rd_T63 l1 x5_1).f1.f4)) ∧ w'.cell? ⟨(ad164.add ((x5_1).toNat * 13)).block, (ad164.add ((x5_1).toNat * 13)).off + 7, none⟩ = some (.string ((rd_T63 l1 x5_1).f1.f5)) ∧ w'.cell? ⟨(ad164.add ((x5_1).toNat * 13)).block, (ad164.add ((x5_1).toNat * 13)).off + 8, none⟩ = some (.string ((rd_T63 l1 x5_1).f1.f6)) ∧ w'.cell? ⟨(ad164.add ((x5_1).toNat * 13)).block, (ad164.add ((x5_1).toNat * 13)).off + 9, none⟩ = some (.int .u64 ((rd_T63 l1 x5_1).f1.f7.f0)) ∧ w'.cell? ⟨(ad164.add ((x5_1).toNat * 13)).block, (ad164.add ((x5_1).toNat * 13)).off + 10, none⟩ = some (.int .u16 ((rd_T63 l1 x5_1).f1.f7.f1)) ∧ w'.cell? ⟨(ad164.add ((x5_1).toNat * 13)).block, (ad164.add ((x5_1).toNat * 13)).off + 11, none⟩ = some (.slice A164_11 ((rd_T63 l1 x5_1).f1.f8).length c164_11) ∧ w'.cell? ⟨(ad164.add ((x5_1).toNat * 13)).block, (ad164.add ((x5_1).toNat * 13)).off + 12, none⟩ = some (.slice A164_12 ((rd_T63 l1 x5_1).f1.f9).length c164_12)) (ds := []) #[F',F',F',F',F',F',F',F',F',F',F',F',F',F',F',F',F',F',F',F',F',F',F',F',F'] (by kernel_rfl) rfl rfl ⟨((HB.out.cell (World.block_lt_of_cell? w _ hw163_0)).trans hw163_0), ((HB.out.cell (World.block_lt_of_cell? w _ hw163_1)).trans hw163_1), ((HB.out.cell (World.block_lt_of_cell? w _ hw163_2)).trans hw163_2), ((HB.out.cell (World.block_lt_of_cell? w _ hw163_3)).trans hw163_3), ((HB.out.cell (World.block_lt_of_cell? w _ hw163_4)).trans hw163_4), ((HB.out.cell (World.block_lt_of_cell? w _ hw163_5)).trans hw163_5), ((HB.out.cell (World.block_lt_of_cell? w _ hw163_6)).trans hw163_6), ((HB.out.cell (World.block_lt_of_cell? w _ hw163_7)).trans hw163_7), ((HB.out.cell (World.block_lt_of_cell? w _ hw163_8)).trans hw163_8), ((HB.out.cell (World.block_lt_of_cell? w _ hw163_9)).trans hw163_9), ((HB.out.cell (World.block_lt_of_cell? w _ hw163_10)).trans hw163_10), ((HB.out.cell (World.block_lt_of_cell? w _ hw163_11)).trans hw163_11), ((HB.out.cell (World.block_lt_of_cell? w _ hw163_12)).trans hw163_12), ((HB.out.cell (World.block_lt_of_cell? w _ hw164_0)).trans hw164_0), ((HB.out.cell (World.block_lt_of_cell? w _ hw164_1)).trans hw164_1), ((HB.out.cell (World.block_lt_of_cell? w _ hw164_2)).trans hw164_2), ((HB.out.cell (World.block_lt_of_cell? w _ hw164_3)).trans hw164_3), ((HB.out.cell (World.block_lt_of_cell? w _ hw164_4)).trans hw164_4), ((HB.out.cell (World.block_lt_of_cell? w _ hw164_5)).trans hw164_5), ((HB.out.cell (World.block_lt_of_cell? w _ hw164_6)).trans hw164_6), ((HB.out.cell (World.block_lt_of_cell? w _ hw164_7)).trans hw164_7), ((HB.out.cell (World.block_lt_of_cell? w _ hw164_8)).trans hw164_8), ((HB.out.cell (World.block_lt_of_cell? w _ hw164_9)).trans hw164_9), ((HB.out.cell (World.block_lt_of_cell? w _ hw164_10)).trans hw164_10), ((HB.out.cell (World.block_lt_of_cell? w _ hw164_11)).trans hw164_11), ((HB.out.cell (World.block_lt_of_cell? w _ hw164_12)).trans hw164_12), ((HB.out.cell (World.block_lt_of_cell? w _ hw165_0)).trans hw165_0), ((HB.out.cell (World.block_lt_of_cell? w _ hw165_1)).trans hw165_1), ((HB.out.cell (World.block_lt_of_cell? w _ hw165_2)).trans hw165_2), ((HB.out.cell (World.block_lt_of_cell? w _ hw165_3)).trans hw165_3), ((HB.out.cell (World.block_lt_of_cell? w _ hw165_4)).trans hw165_4), ((HB.out.cell (World.block_lt_of_cell? w _ hw165_5)).trans hw165_5), ((HB.out.cell (World.block_lt_of_cell? w _ hw165_6)).trans hw165_6), ((HB.out.cell (World.block_lt_of_cell? w _ hw165_7)).trans hw165_7), ((HB.out.cell (World.block_lt_of_cell? w _ hw165_8)).trans hw165_8), ((HB.out.cell (World.block_lt_of_cell? w _ hw165_9)).trans hw165_9), ((HB.out.cell (World.block_lt_of_cell? w _ hw165_10)).trans hw165_10), ((HB.out.cell (World.block_lt_of_cell? w _ hw165_11)).trans hw165_11), ((HB.out.cell (World.block_lt_of_cell? w _ hw165_12)).trans hw165_12), ((HB.out.cell (World.block_lt_of_cell? w _ hw166_0)).trans hw166_0), ((HB.out.cell (World.block_lt_of_cell? w _ hw166_1)).trans hw166_1), ((HB.out.cell (World.block_lt_of_cell? w _ hw166_2)).trans hw166_2), ((HB.out.cell (World.block_lt_of_cell? w _ hw166_3)).trans hw166_3), ((HB.out.cell (World.block_lt_of_cell? w _ hw166_4)).trans hw166_4), ((HB.out.cell (World.block_lt_of_cell? w _ hw166_5)).trans hw166_5), ((HB.out.cell (World.block_lt_of_cell? w _ hw166_6)).trans hw166_6), ((HB.out.cell (World.block_lt_of_cell? w _ hw166_7)).trans hw166_7), ((HB.out.cell (World.block_lt_of_cell? w _ hw166_8)).trans hw166_8), ((HB.out.cell (World.block_lt_of_cell? w _ hw166_9)).trans hw166_9), ((HB.out.cell (World.block_lt_of_cell? w _ hw166_10)).trans hw166_10), ((HB.out.cell (World.block_lt_of_cell? w _ hw166_11)).trans hw166_11), ((HB.out.cell (World.block_lt_of_cell? w _ hw166_12)).trans hw166_12)⟩ (fun hHeld => ?_); refine with_tabW annuletref30_Outs.tab6 annuletref30_Outs.bits6 (fun HT_ HW_ => ?_)
         generalize wr.drew = w13 at HB HR163_11 HR163_12 HR164_11 HR164_12 HR165_11 HR165_12 HR166_11 HR166_12 hx163_0 hx163_1 hx163_10 hx163_11 hx163_12 hx163_2 hx163_3 hx163_4 hx163_5 hx163_6 hx163_7 hx163_8 hx163_9 hx164_0 hx164_1 hx164_10 hx164_11 hx164_12 hx164_2 hx164_3 hx164_4 hx164_5 hx164_6 hx164_7 hx164_8 hx164_9 hx165_0 hx165_1 hx165_10 hx165_11 hx165_12 hx165_2 hx165_3 hx165_4 hx165_5 hx165_6 hx165_7 hx165_8 hx165_9 hx166_0 hx166_1 hx166_10 hx166_11 hx166_12 hx166_2 hx166_3 hx166_4 hx166_5 hx166_6 hx166_7 hx166_8 hx166_9 hHeld ⊢
         refine pure_ (i := 0) (N := some 17) (v := ?_) (a' := ?_) #[T',F',F',F',F',F',F',F',F',F',F',F',F',F',F',F',F',F',F',F',F',F',F',F',F'] rfl rfl (any_of HT_.out (by kernel_rfl)) (fun _ _ _ h => h) (Or.inl ⟨by rfl, ?_⟩) ?_ ?_
         rotate_left
         ·intro w'
          go_simp
          with_reducible rfl
         rotate_left
         ·simp only [Act.put, la_, lz_, ls_, i64_w, i32_w]
          rfl
         refine pure_ (i := 1) (N := some 18) (v := ?_) (a' := ?_) #[T',T',F',F',F',F',F',F',F',F',F',F',F',F',F',F',F',F',F',F',F',F',F',F',F'] rfl rfl (any_of HT_.out (by kernel_rfl)) (fun _ _ _ h => h) (Or.inl ⟨by rfl, ?_⟩) ?_ ?_
         rotate_left
         ·intro w'
          go_simp
          with_reducible rfl
         rotate_left
         ·simp only [Act.put, la_, lz_, ls_, i64_w, i32_w]
          rfl
         refine pure_ (i := 2) (N := some 19) (v := ?_) (a' := ?_) #[T',T',T',F',F',F',F',F',F',F',F',F',F',F',F',F',F',F',F',F',F',F',F',F',F'] rfl rfl (any_of HT_.out (by kernel_rfl)) (fun _ _ _ h => h) (Or.inl ⟨by rfl, ?_⟩) ?_ ?_
         rotate_left
         ·intro w'
          go_simp
          with_reducible rfl
         rotate_left
         ·simp only [Act.put, la_, lz_, ls_, i64_w, i32_w]
          rfl
         refine pure_ (i := 3) (N := some 20) (v := ?_) (a' := ?_) #[T',T',T',T',F',F',F',F',F',F',F',F',F',F',F',F',F',F',F',F',F',F',F',F',F'] rfl rfl (any_of HT_.out (by kernel_rfl)) (fun _ _ _ h => h) (Or.inl ⟨by rfl, ?_⟩) ?_ ?_
         rotate_left
         ·intro w'
          go_simp
          with_reducible rfl
         rotate_left
         ·simp only [Act.put, la_, lz_, ls_, i64_w, i32_w]
          rfl
         refine pure_ (i := 5) (N := some 22) (v := ?_) (a' := ?_) #[T',T',T',T',F',T',F',F',F',F',F',F',F',F',F',F',F',F',F',F',F',F',F',F',F'] rfl rfl (any_of HT_.out (by kernel_rfl)) (fun _ _ _ h => h) (Or.inl ⟨by rfl, ?_⟩) ?_ ?_
         rotate_left
         ·intro w'
          go_simp
          with_reducible rfl
         rotate_left
         ·simp only [Act.put, la_, lz_, ls_, i64_w, i32_w]
          rfl
         refine pure_ (i := 6) (N := some 23) (v := ?_) (a' := ?_) #[T',T',T',T',F',T',T',F',F',F',F',F',F',F',F',F',F',F',F',F',F',F',F',F',F'] rfl rfl (any_of HT_.out (by kernel_rfl)) (fun _ _ _ h => h) (Or.inl ⟨by rfl, ?_⟩) ?_ ?_
         rotate_left
         ·intro w'
          go_simp
          with_reducible rfl
         rotate_left
         ·simp only [Act.put, la_, lz_, ls_, i64_w, i32_w]
          rfl
         refine pure_ (i := 7) (N := some 24) (v := ?_) (a' := ?_) #[T',T',T',T',F',T',T',T',F',F',F',F',F',F',F',F',F',F',F',F',F',F',F',F',F'] rfl rfl (any_of HT_.out (by kernel_rfl)) (fun _ _ _ h => h) (Or.inl ⟨by rfl, ?_⟩) ?_ ?_
         rotate_left
         ·intro w'
          go_simp
          with_reducible rfl
         rotate_left
         ·simp only [Act.put, la_, lz_, ls_, i64_w, i32_w]
          rfl
         refine pure_ (i := 8) (N := some 25) (v := ?_) (a' := ?_) #[T',T',T',T',F',T',T',T',T',F',F',F',F',F',F',F',F',F',F',F',F',F',F',F',F'] rfl rfl (any_of HT_.out (by kernel_rfl)) (fun _ _ _ h => h) (Or.inl ⟨by rfl, ?_⟩) ?_ ?_
         rotate_left
         ·intro w'
          go_simp
          with_reducible rfl
         rotate_left
         ·simp only [Act.put, la_, lz_, ls_, i64_w, i32_w]
          rfl
         refine take_ (i := 4) (N := some 21) (v := ?_) (a' := ?_) #[T',T',T',T',T',T',T',T',T',F',F',F',F',F',F',F',F',F',F',F',F',F',F',F',F'] rfl rfl (take_ofW HT_.out HW_.out (by kernel_rfl)) (fun _ _ _ h => h) (Or.inl ⟨by rfl, ?_⟩) hHeld ?_ ?_
         rotate_left
         ·rintro w' ⟨s0, s1, s2, s3, s4, s5, s6, s7, s8, s9, s10, s11, s12, s13, s14, s15, s16, s17, s18, s19, s20, s21, s22, s23, s24, s25, s26, s27, s28, s29, s30, s31, s32, s33, s34, s35, s36, s37, s38, s39, s40, s41, s42, s43, s44, s45, s46, s47, s48, s49, s50, s51⟩
          go_simp
          with_reducible rfl
         rotate_left
         ·simp only [Act.put, la_, lz_, ls_, i64_w, i32_w]
          rfl
         refine take_ (i := 9) (N := some 26) (v := ?_) (a' := ?_) #[T',T',T',T',T',T',T',T',T',T',F',F',F',F',F',F',F',F',F',F',F',F',F',F',F'] rfl rfl (take_ofW HT_.out HW_.out (by kernel_rfl)) (fun _ _ _ h => h) (Or.inl ⟨by rfl, ?_⟩) hHeld ?_ ?_
         rotate_left
         ·rintro w' ⟨s0, s1, s2, s3, s4, s5, s6, s7, s8, s9, s10, s11, s12, s13, s14, s15, s16, s17, s18, s19, s20, s21, s22, s23, s24, s25, s26, s27, s28, s29, s30, s31, s32, s33, s34, s35, s36, s37, s38, s39, s40, s41, s42, s43, s44, s45, s46, s47, s48, s49, s50, s51⟩
          go_simp
          with_reducible rfl
         rotate_left
         ·simp only [Act.put, la_, lz_, ls_, i64_w, i32_w]
          rfl
         refine pure_ (i := 10) (N := some 27) (v := ?_) (a' := ?_) #[T',T',T',T',T',T',T',T',T',T',T',F',F',F',F',F',F',F',F',F',F',F',F',F',F'] rfl rfl (any_of HT_.out (by kernel_rfl)) (fun _ _ _ h => h) (Or.inl ⟨by rfl, ?_⟩) ?_ ?_
         rotate_left
         ·intro w'
          go_simp
          with_reducible rfl
         rotate_left
         ·simp only [Act.put, la_, lz_, ls_, i64_w, i32_w]
          rfl
         refine pure_ (i := 11) (N := some 28) (v := ?_) (a' := ?_) #[T',T',T',T',T',T',T',T',T',T',T',T',F',F',F',F',F',F',F',F',F',F',F',F',F'] rfl rfl (any_of HT_.out (by kernel_rfl)) (fun _ _ _ h => h) (Or.inl ⟨by rfl, ?_⟩) ?_ ?_
         rotate_left
         ·intro w'
          go_simp
          with_reducible rfl
         rotate_left
         ·simp only [Act.put, la_, lz_, ls_, i64_w, i32_w]
          rfl
         refine pure_ (i := 12) (N := some 29) (v := ?_) (a' := ?_) #[T',T',T',T',T',T',T',T',T',T',T',T',T',F',F',F',F',F',F',F',F',F',F',F',F'] rfl rfl (any_of HT_.out (by kernel_rfl)) (fun _ _ _ h => h) (Or.inl ⟨by rfl, ?_⟩) ?_ ?_
         rotate_left
         ·intro w'
          go_simp
          with_reducible rfl
         rotate_left
         ·simp only [Act.put, la_, lz_, ls_, i64_w, i32_w]
          rfl
         refine pure_ (i := 13) (N := some 30) (v := ?_) (a' := ?_) #[T',T',T',T',T',T',T',T',T',T',T',T',T',T',F',F',F',F',F',F',F',F',F',F',F'] rfl rfl (any_of HT_.out (by kernel_rfl)) (fun _ _ _ h => h) (Or.inl ⟨by rfl, ?_⟩) ?_ ?_
         rotate_left
         ·intro w'
          go_simp
          with_reducible rfl
         rotate_left
         ·simp only [Act.put, la_, lz_, ls_, i64_w, i32_w]
          rfl
         refine pure_ (i := 14) (N := some 31) (v := ?_) (a' := ?_) #[T',T',T',T',T',T',T',T',T',T',T',T',T',T',T',F',F',F',F',F',F',F',F',F',F'] rfl rfl (any_of HT_.out (by kernel_rfl)) (fun _ _ _ h => h) (Or.inl ⟨by rfl, ?_⟩) ?_ ?_
         rotate_left
         ·intro w'
          go_simp
          with_reducible rfl
         rotate_left
         ·simp only [Act.put, la_, lz_, ls_, i64_w, i32_w]
          rfl
         refine pure_ (i := 15) (N := some 32) (v := ?_) (a' := ?_) #[T',T',T',T',T',T',T',T',T',T',T',T',T',T',T',T',F',F',F',F',F',F',F',F',F'] rfl rfl (any_of HT_.out (by kernel_rfl)) (fun _ _ _ h => h) (Or.inl ⟨by rfl, ?_⟩) ?_ ?_
         rotate_left
         ·intro w'
          go_simp
          with_reducible rfl
         rotate_left
         ·simp only [Act.put, la_, lz_, ls_, i64_w, i32_w]
          rfl
         refine pure_ (i := 17) (N := some 34) (v := ?_) (a' := ?_) #[T',T',T',T',T',T',T',T',T',T',T',T',T',T',T',T',F',T',F',F',F',F',F',F',F'] rfl rfl (any_of HT_.out (by kernel_rfl)) (fun _ _ _ h => h) (Or.inl ⟨by rfl, ?_⟩) ?_ ?_
         rotate_left
         ·intro w'
          go_simp
          with_reducible rfl
         rotate_left
         ·simp only [Act.put, la_, lz_, ls_, i64_w, i32_w]
          rfl
         refine pure_ (i := 18) (N := some 35) (v := ?_) (a' := ?_) #[T',T',T',T',T',T',T',T',T',T',T',T',T',T',T',T',F',T',T',F',F',F',F',F',F'] rfl rfl (any_of HT_.out (by kernel_rfl)) (fun _ _ _ h => h) (Or.inl ⟨by rfl, ?_⟩) ?_ ?_
         rotate_left
         ·intro w'
          go_simp
          with_reducible rfl
         rotate_left
         ·simp only [Act.put, la_, lz_, ls_, i64_w, i32_w]
          rfl
         refine pure_ (i := 19) (N := some 36) (v := ?_) (a' := ?_) #[T',T',T',T',T',T',T',T',T',T',T',T',T',T',T',T',F',T',T',T',F',F',F',F',F'] rfl rfl (any_of HT_.out (by kernel_rfl)) (fun _ _ _ h => h) (Or.inl ⟨by rfl, ?_⟩) ?_ ?_
         rotate_left
         ·intro w'
          go_simp
          with_reducible rfl
         rotate_left
         ·simp only [Act.put, la_, lz_, ls_, i64_w, i32_w]
          rfl
         refine pure_ (i := 20) (N := some 37) (v := ?_) (a' := ?_) #[T',T',T',T',T',T',T',T',T',T',T',T',T',T',T',T',F',T',T',T',T',F',F',F',F'] rfl rfl (any_of HT_.out (by kernel_rfl)) (fun _ _ _ h => h) (Or.inl ⟨by rfl, ?_⟩) ?_ ?_
         rotate_left
         ·intro w'
          go_simp
          with_reducible rfl
         rotate_left
         ·simp only [Act.put, la_, lz_, ls_, i64_w, i32_w]
          rfl
         refine take_ (i := 16) (N := some 33) (v := ?_) (a' := ?_) #[T',T',T',T',T',T',T',T',T',T',T',T',T',T',T',T',T',T',T',T',T',F',F',F',F'] rfl rfl (take_ofW HT_.out HW_.out (by kernel_rfl)) (fun _ _ _ h => h) (Or.inl ⟨by rfl, ?_⟩) hHeld ?_ ?_
         rotate_left
         ·rintro w' ⟨s0, s1, s2, s3, s4, s5, s6, s7, s8, s9, s10, s11, s12, s13, s14, s15, s16, s17, s18, s19, s20, s21, s22, s23, s24, s25, s26, s27, s28, s29, s30, s31, s32, s33, s34, s35, s36, s37, s38, s39, s40, s41, s42, s43, s44, s45, s46, s47, s48, s49, s50, s51⟩
          go_simp
          with_reducible rfl
         rotate_left
         ·simp only [Act.put, la_, lz_, ls_, i64_w, i32_w]
          rfl
         refine take_ (i := 21) (N := some 38) (v := ?_) (a' := ?_) #[T',T',T',T',T',T',T',T',T',T',T',T',T',T',T',T',T',T',T',T',T',T',F',F',F'] rfl rfl (take_ofW HT_.out HW_.out (by kernel_rfl)) (fun _ _ _ h => h) (Or.inl ⟨by rfl, ?_⟩) hHeld ?_ ?_
         rotate_left
         ·rintro w' ⟨s0, s1, s2, s3, s4, s5, s6, s7, s8, s9, s10, s11, s12, s13, s14, s15, s16, s17, s18, s19, s20, s21, s22, s23, s24, s25, s26, s27, s28, s29, s30, s31, s32, s33, s34, s35, s36, s37, s38, s39, s40, s41, s42, s43, s44, s45, s46, s47, s48, s49, s50, s51⟩
          go_simp
          with_reducible rfl
         rotate_left
         ·simp only [Act.put, la_, lz_, ls_, i64_w, i32_w]
          rfl
         refine one_ (i := 22) (N := some 39) #[T',T',T',T',T',T',T',T',T',T',T',T',T',T',T',T',T',T',T',T',T',T',T',F',F'] rfl rfl (one_of HT_.out (by kernel_rfl)) (by decide) (fun K hK => ?_)
         refine goes_ Try.func39 (by kernel_rfl) rfl #[.agg #[.int .i64 ((rd_T63 l0 x5_1).f1.f0), .int .u32 ((rd_T63 l0 x5_1).f1.f1), .int .u8 ((rd_T63 l0 x5_1).f1.f2), .bool ((rd_T63 l0 x5_1).f1.f3), .int .u64 ((rd_T63 l0 x5_1).f1.f4), .string ((rd_T63 l0 x5_1).f1.f5), .string ((rd_T63 l0 x5_1).f1.f6), .int .u64 ((rd_T63 l0 x5_1).f1.f7.f0), .int .u16 ((rd_T63 l0 x5_1).f1.f7.f1), .slice A163_11 ((rd_T63 l0 x5_1).f1.f8).length c163_11, .slice A163_12 ((rd_T63 l0 x5_1).f1.f9).length c163_12], .agg #[.int .i64 ((rd_T63 l1 x5_1).f1.f0), .int .u32 ((rd_T63 l1 x5_1).f1.f1), .int .u8 ((rd_T63 l1 x5_1).f1.f2), .bool ((rd_T63 l1 x5_1).f1.f3), .int .u64 ((rd_T63 l1 x5_1).f1.f4), .string ((rd_T63 l1 x5_1).f1.f5), .string ((rd_T63 l1 x5_1).f1.f6), .int .u64 ((rd_T63 l1 x5_1).f1.f7.f0), .int .u16 ((rd_T63 l1 x5_1).f1.f7.f1), .slice A164_11 ((rd_T63 l1 x5_1).f1.f8).length c164_11, .slice A164_12 ((rd_T63 l1 x5_1).f1.f9).length c164_12]] (by rfl) rfl rfl (by (try simp only [List.map_toArray, List.map_cons, List.map_nil]); first | done | rfl | (simp only [List.length_drop, List.length_take]; rfl)) ?_
         with_reducible refine (annuletref08_Same.calls k1 ((rd_T63 l0 x5_1).f1.f0) ((rd_T63 l0 x5_1).f1.f1) ((rd_T63 l0 x5_1).f1.f2) ((rd_T63 l0 x5_1).f1.f3) ((rd_T63 l0 x5_1).f1.f4) ((rd_T63 l0 x5_1).f1.f5) ((rd_T63 l0 x5_1).f1.f6) ((rd_T63 l0 x5_1).f1.f7.f0) ((rd_T63 l0 x5_1).f1.f7.f1) _ _ ((rd_T63 l0 x5_1).f1.f8) _ _ ((rd_T63 l0 x5_1).f1.f9) ((rd_T63 l1 x5_1).f1.f0) ((rd_T63 l1 x5_1).f1.f1) ((rd_T63 l1 x5_1).f1.f2) ((rd_T63 l1 x5_1).f1.f3) ((rd_T63 l1 x5_1).f1.f4) ((rd_T63 l1 x5_1).f1.f5) ((rd_T63 l1 x5_1).f1.f6) ((rd_T63 l1 x5_1).f1.f7.f0) ((rd_T63 l1 x5_1).f1.f7.f1) _ _ ((rd_T63 l1 x5_1).f1.f8) _ _ ((rd_T63 l1 x5_1).f1.f9) false _ ?side1 ?side2 ?side3 ?side4 ?side5 ?side6 ?side7 ?side8 A9.out).mono ?_
         (case side1 => repeat (first | exact (Kd.C_below HR165_11.out HB.out) | (with_reducible refine Kd.C_alloc ?_ _) | (with_reducible refine Kd.C_drewN ?_ _) | (with_reducible refine Kd.C_drew ?_)))
         (case side2 => exact HC165_11.out)
         (case side3 => repeat (first | exact (Kd.C_below HR165_12.out HB.out) | (with_reducible refine Kd.C_alloc ?_ _) | (with_reducible refine Kd.C_drewN ?_ _) | (with_reducible refine Kd.C_drew ?_)))
         (case side4 => exact HC165_12.out)
         (case side5 => repeat (first | exact (Kd.C_below HR166_11.out HB.out) | (with_reducible refine Kd.C_alloc ?_ _) | (with_reducible refine Kd.C_drewN ?_ _) | (with_reducible refine Kd.C_drew ?_)))
         (case side6 => exact HC166_11.out)
         (case side7 => repeat (first | exact (Kd.C_below HR166_12.out HB.out) | (with_reducible refine Kd.C_alloc ?_ _) | (with_reducible refine Kd.C_drewN ?_ _) | (with_reducible refine Kd.C_drew ?_)))
         (case side8 => exact HC166_12.out)
         rintro e w14 ⟨rfl, hb⟩
         refine ⟨_, rfl, ?_⟩
         have n0_ := Aside0.mk (below_step (by repeat (first | (with_reducible first | exact HB.out | apply below_alloc | apply pw_below_drewN | apply below_drew1) | exact HB.out)) hb)
         clear HB
         have HB := n0_
         clear n0_
         (try clear hb)
         (try clear hb2)
         (try clear hk)
         (try clear hi)
         refine hK.out _ _ ⟨((HB.out.cell (World.block_lt_of_cell? w _ hw163_0)).trans hw163_0), ((HB.out.cell (World.block_lt_of_cell? w _ hw163_1)).trans hw163_1), ((HB.out.cell (World.block_lt_of_cell? w _ hw163_2)).trans hw163_2), ((HB.out.cell (World.block_lt_of_cell? w _ hw163_3)).trans hw163_3), ((HB.out.cell (World.block_lt_of_cell? w _ hw163_4)).trans hw163_4), ((HB.out.cell (World.block_lt_of_cell? w _ hw163_5)).trans hw163_5), ((HB.out.cell (World.block_lt_of_cell? w _ hw163_6)).trans hw163_6), ((HB.out.cell (World.block_lt_of_cell? w _ hw163_7)).trans hw163_7), ((HB.out.cell (World.block_lt_of_cell? w _ hw163_8)).trans hw163_8), ((HB.out.cell (World.block_lt_of_cell? w _ hw163_9)).trans hw163_9), ((HB.out.cell (World.block_lt_of_cell? w _ hw163_10)).trans hw163_10), ((HB.out.cell (World.block_lt_of_cell? w _ hw163_11)).trans hw163_11), ((HB.out.cell (World.block_lt_of_cell? w _ hw163_12)).trans hw163_12), ((HB.out.cell (World.block_lt_of_cell? w _ hw164_0)).trans hw164_0), ((HB.out.cell (World.block_lt_of_cell? w _ hw164_1)).trans hw164_1), ((HB.out.cell (World.block_lt_of_cell? w _ hw164_2)).trans hw164_2), ((HB.out.cell (World.block_lt_of_cell? w _ hw164_3)).trans hw164_3), ((HB.out.cell (World.block_lt_of_cell? w _ hw164_4)).trans hw164_4), ((HB.out.cell (World.block_lt_of_cell? w _ hw164_5)).trans hw164_5), ((HB.out.cell (World.block_lt_of_cell? w _ hw164_6)).trans hw164_6), ((HB.out.cell (World.block_lt_of_cell? w _ hw164_7)).trans hw164_7), ((HB.out.cell (World.block_lt_of_cell? w _ hw164_8)).trans hw164_8), ((HB.out.cell (World.block_lt_of_cell? w _ hw164_9)).trans hw164_9), ((HB.out.cell (World.block_lt_of_cell? w _ hw164_10)).trans hw164_10), ((HB.out.cell (World.block_lt_of_cell? w _ hw164_11)).trans hw164_11), ((HB.out.cell (World.block_lt_of_cell? w _ hw164_12)).trans hw164_12), ((HB.out.cell (World.block_lt_of_cell? w _ hw165_0)).trans hw165_0), ((HB.out.cell (World.block_lt_of_cell? w _ hw165_1)).trans hw165_1), ((HB.out.cell (World.block_lt_of_cell? w _ hw165_2)).trans hw165_2), ((HB.out.cell (World.block_lt_of_cell? w _ hw165_3)).trans hw165_3), ((HB.out.cell (World.block_lt_of_cell? w _ hw165_4)).trans hw165_4), ((HB.out.cell (World.block_lt_of_cell? w _ hw165_5)).trans hw165_5), ((HB.out.cell (World.block_lt_of_cell? w _ hw165_6)).trans hw165_6), ((HB.out.cell (World.block_lt_of_cell? w _ hw165_7)).trans hw165_7), ((HB.out.cell (World.block_lt_of_cell? w _ hw165_8)).trans hw165_8), ((HB.out.cell (World.block_lt_of_cell? w _ hw165_9)).trans hw165_9), ((HB.out.cell (World.block_lt_of_cell? w _ hw165_10)).trans hw165_10), ((HB.out.cell (World.block_lt_of_cell? w _ hw165_11)).trans hw165_11), ((HB.out.cell (World.block_lt_of_cell? w _ hw165_12)).trans hw165_12), ((HB.out.cell (World.block_lt_of_cell? w _ hw166_0)).trans hw166_0), ((HB.out.cell (World.block_lt_of_cell? w _ hw166_1)).trans hw166_1), ((HB.out.cell (World.block_lt_of_cell? w _ hw166_2)).trans hw166_2), ((HB.out.cell (World.block_lt_of_cell? w _ hw166_3)).trans hw166_3), ((HB.out.cell (World.block_lt_of_cell? w _ hw166_4)).trans hw166_4), ((HB.out.cell (World.block_lt_of_cell? w _ hw166_5)).trans hw166_5), ((HB.out.cell (World.block_lt_of_cell? w _ hw166_6)).trans hw166_6), ((HB.out.cell (World.block_lt_of_cell? w _ hw166_7)).trans hw166_7), ((HB.out.cell (World.block_lt_of_cell? w _ hw166_8)).trans hw166_8), ((HB.out.cell (World.block_lt_of_cell? w _ hw166_9)).trans hw166_9), ((HB.out.cell (World.block_lt_of_cell? w _ hw166_10)).trans hw166_10), ((HB.out.cell (World.block_lt_of_cell? w _ hw166_11)).trans hw166_11), ((HB.out.cell (World.block_lt_of_cell? w _ hw166_12)).trans hw166_12)⟩ (fun hHeld => ?_)
         clear hK K
         refine norm_ (a' := ?_) ?_ ?_
         rotate_left
         ·show Act.put _ (some 39) _ = _
          simp only [Act.put, la_, lz_, ls_, i64_w, i32_w]
          rfl
         refine pure_ (i := 23) (N := some 40) (v := ?_) (a' := ?_) #[T',T',T',T',T',T',T',T',T',T',T',T',T',T',T',T',T',T',T',T',T',T',T',T',F'] rfl rfl (any_of HT_.out (by kernel_rfl)) (fun _ _ _ h => h) (Or.inl ⟨by rfl, ?_⟩) ?_ ?_
         rotate_left
         ·intro w'
          go_simp
          with_reducible rfl
         rotate_left
         ·simp only [Act.put, la_, lz_, ls_, i64_w, i32_w]
          rfl
         refine pure_ (i := 24) (N := some 41) (v := ?_) (a' := ?_) #[T',T',T',T',T',T',T',T',T',T',T',T',T',T',T',T',T',T',T',T',T',T',T',T',T'] rfl rfl (any_of HT_.out (by kernel_rfl)) (fun _ _ _ h => h) (Or.inl ⟨by rfl, ?_⟩) ?_ ?_
         rotate_left
         ·intro w'
          go_simp
          with_reducible rfl
         rotate_left
         ·simp only [Act.put, la_, lz_, ls_, i64_w, i32_w]
          rfl
         refine done_ (done_of HT_.out (by kernel_rfl)) ?_
         try go_wp2
         go_ret
         exact ⟨by first | rfl | (simp [errW_none, errW_some] <;> rfl) | (simp [*, errW_none, errW_some] <;> rfl), by repeat (first | (with_reducible first | exact HB.out | apply below_alloc | apply pw_below_drewN | apply below_drew1) | exact HB.out)⟩
      ·rw [if_neg c6] at H
       exact absurd H (by simp)
     ·rw [if_neg c5] at H
      exact absurd H (by simp)
    ·rw [if_neg c4] at H
     have c4b0 : decide (x5_1 < (l0.length : Int)) = false := decide_eq_false c4
     clear c4
     obtain rfl := Option.some.inj H
     go_wp2
     go_ret
     exact ⟨by first | rfl | (simp [errW_none, errW_some] <;> rfl) | (simp [*, errW_none, errW_some] <;> rfl), by repeat (first | (with_reducible first | exact HB.out | apply below_alloc | apply pw_below_drewN | apply below_drew1) | exact HB.out)⟩
 ·rw [if_neg c3] at H
  have c3b0 : ((l0.length : Int) == (l1.length : Int)) = false := beq_eq_false_iff_ne.mpr c3
  have c3b1 : ((l0.length : Int) != (l1.length : Int)) = true := bne_iff_ne.mpr c3
  have c3b2 : (l0.length == l1.length) = false := by first | simpa using c3 | (simp at c3 ⊢; omega)
  obtain rfl := Option.some.inj H
  go_enter Try.func13, Try.ntmps13
  go_wp2
  go_ret
  exact ⟨by first | rfl | (simp [errW_none, errW_some] <;> rfl) | (simp [*, errW_none, errW_some] <;> rfl), by repeat (first | (with_reducible first | exact HB.out | apply below_alloc | apply pw_below_drewN | apply below_drew1) | exact HB.out)⟩

end Go.Proofs.Ytfgalgeloflilaa.P
