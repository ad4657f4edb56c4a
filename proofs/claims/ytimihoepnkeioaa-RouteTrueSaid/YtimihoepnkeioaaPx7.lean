-- Printed by fprint.py (a program of this session's, over the kit's print), for this claim.
import Derived.Test.YtimihoepnkeioaaPx0
import Derived.Test.YtimihoepnkeioaaPx1
import Derived.Test.YtimihoepnkeioaaPx6
namespace Go.Proofs.Ytimihoepnkeioaa.P
open Go.RowKit Go.Proofs.YtimihoepnkeioaaW.PrintWords Go.Proofs.YtimihoepnkeioaaW.PrintLast Go.Proofs.YtimihoepnkeioaaW.PrintMore
attribute [local go_sem] max2_int min2_int max_two min_two max_three min_three max_four min_four   -- for this text's walks alone
set_option linter.unusedVariables false
set_option linter.unusedSimpArgs false

attribute [local go_sem high] eqA25
/-! ### annuletlaw32_awake: function 7 -/
def annuletlaw32_awake.f (k : Nat)  : Option (Bool) := (some (([(⟨(⟨4, 2⟩ : S25), 0⟩ : S46)] : List (S46)) : List (S46))).bind fun y142 => ((route_Step.f k 0 1 0 false ([] : List (S46)) y142 ([] : List (S63)) ([] : List (S61)) ([] : List (S114)) ([] : List (S50)) ([] : List (S53)) 0 0 0 3).bind fun bt146 => ((route_Step.f k 0 1 0 false ([] : List (S46)) y142 ([] : List (S63)) ([] : List (S61)) ([] : List (S114)) ([] : List (S50)) ([] : List (S53)) 0 0 0 5).bind fun bt153 => ((route_Step.f k 4 2 0 false ([] : List (S46)) ([] : List (S46)) ([] : List (S63)) ([] : List (S61)) ([] : List (S114)) ([] : List (S50)) ([] : List (S53)) 0 0 0 9).bind fun bt160 => (if (bt146.1 == 4 && (bt146.2.1 == 2)) = true then (if bt146.2.2.2 = true then (if (bt153.2.2.1.length : Int) = 1 then (if 0 < (bt153.2.2.1.length : Int) then (if (((rd_T25 bt153.2.2.1 0).f0) == 4 && (((rd_T25 bt153.2.2.1 0).f1) == 2)) = true then (if bt153.2.2.2 = true then (none) else (if (bt160.1 == 4 && (bt160.2.1 == 2)) = true then (if bt160.2.2.2 = true then ((route_Mine.f k 0 1 0 false ([] : List (S46)) y142 ([] : List (S63)) ([] : List (S61)) ([] : List (S114)) ([] : List (S50)) ([] : List (S53)) 0 0 0 0).bind fun t168 => (if t168 = true then ((route_Mine.f k 0 1 0 false ([] : List (S46)) y142 ([] : List (S63)) ([] : List (S61)) ([] : List (S114)) ([] : List (S50)) ([] : List (S53)) 0 0 0 3).bind fun t169 => (some (!t169))) else (none))) else (none)) else (none))) else (none)) else (none)) else (none)) else (none)) else (none)))))
theorem annuletlaw32_awake.mono : ∀ k, LeO (annuletlaw32_awake.f k ) (annuletlaw32_awake.f (k + 1) ) := by
 intro  k
 unfold annuletlaw32_awake.f
 repeat' first
   | (with_reducible exact route_Mine.mono _ _ _ _ _ _ _ _ _ _ _ _ _ _ _ _)
   | (with_reducible exact route_Step.mono _ _ _ _ _ _ _ _ _ _ _ _ _ _ _ _)
   | (with_reducible exact LeO.refl _)
   | (with_reducible exact LeO.none _)
   | (with_reducible refine LeO.ite ?_ ?_)
   | (with_reducible refine LeO.bind ?_ (fun _ => ?_))
   | exact route_Mine.mono _ _ _ _ _ _ _ _ _ _ _ _ _ _ _ _
   | exact route_Step.mono _ _ _ _ _ _ _ _ _ _ _ _ _ _ _ _
   | exact LeO.none _
   | refine LeO.ite ?_ ?_
   | refine LeO.bind ?_ (fun _ => ?_)
def annuletlaw32_awake.T6 : Bool × List (List Nat × List Nat) := (true, [([], []), ([], []), ([0, 1], [0, 1]), ([2], [2]), ([3], [3]), ([3, 4], [3, 4]), ([5, 3], [5]), ([6], [6]), ([7, 6], [6, 7]), ([8, 6], [6, 8]), ([6, 9], [6, 9]), ([10, 6], [10]), ([11], [11]), ([12, 11], [11, 12]), ([13, 11], [11, 13]), ([11], [11]), ([14, 15, 11], [11, 14, 15]), ([11, 16], [11, 16]), ([17, 11], [17]), ([18], [18]), ([19, 18], [18, 19]), ([18, 20], [18, 20]), ([21, 18], [21]), ([22], [22]), ([22], [22]), ([23, 24, 22], [22, 23, 24]), ([22, 25], [22, 25]), ([26, 22], [26]), ([27], [27]), ([27, 28], [27, 28]), ([29, 27], [29]), ([30], [30]), ([31, 30, 30], [30, 31]), ([30, 32], [30, 32]), ([33, 32], [33]), ([34], [34]), ([35, 34, 34], [34, 35]), ([36, 34], [34, 36]), ([34, 37], [34, 37]), ([38, 36, 0, 1, 2, 3, 4, 5, 6, 7, 8, 9, 10, 11, 12, 13, 14, 15, 16, 17, 18, 19, 20, 21, 22, 23, 24, 25, 26, 27, 28, 29, 30, 31, 32, 33, 34, 35, 36, 37, 38], [38])])
def annuletlaw32_awake.B6 : List Nat := [0, 0, 3, 7, 15, 31, 63, 127, 255, 511, 1023, 2047, 4095, 8191, 16383, 4095, 65535, 131071, 262143, 524287, 1048575, 2097151, 4194303, 8388607, 8388607, 33554431, 67108863, 134217727, 268435455, 536870911, 1073741823, 2147483647, 4294967295, 8589934591, 17179869183, 34359738367, 68719476735, 137438953471, 274877906943, 549755813887]
theorem annuletlaw32_awake.tab6 : rtab .any (opsOf Try.f7 6) = annuletlaw32_awake.T6 := by kernel_rfl
theorem annuletlaw32_awake.bits6 : waitsOk annuletlaw32_awake.T6.2 annuletlaw32_awake.B6 = true := by kernel_rfl
set_option maxHeartbeats 8000000 in
set_option maxRecDepth 100000 in
theorem annuletlaw32_awake.calls (k : Nat)  (r : Bool) (w : World) (h : annuletlaw32_awake.f k  = some r) :
  Calls Try.prog 7 #[] w fun e w' => e = .returned (.bool r) ∧ Below w.heap.size w w' := by
 have hu25 := Try.underlying25
 have hu46 := Try.underlying46
 have hu34 := Try.underlying34
 have HB := Aside0.mk (Below.refl w.heap.size w)
 have H : ((some (([(⟨(⟨4, 2⟩ : S25), 0⟩ : S46)] : List (S46)) : List (S46))).bind fun y142 => ((route_Step.f k 0 1 0 false ([] : List (S46)) y142 ([] : List (S63)) ([] : List (S61)) ([] : List (S114)) ([] : List (S50)) ([] : List (S53)) 0 0 0 3).bind fun bt146 => ((route_Step.f k 0 1 0 false ([] : List (S46)) y142 ([] : List (S63)) ([] : List (S61)) ([] : List (S114)) ([] : List (S50)) ([] : List (S53)) 0 0 0 5).bind fun bt153 => ((route_Step.f k 4 2 0 false ([] : List (S46)) ([] : List (S46)) ([] : List (S63)) ([] : List (S61)) ([] : List (S114)) ([] : List (S50)) ([] : List (S53)) 0 0 0 9).bind fun bt160 => (if (bt146.1 == 4 && (bt146.2.1 == 2)) = true then (if bt146.2.2.2 = true then (if (bt153.2.2.1.length : Int) = 1 then (if 0 < (bt153.2.2.1.length : Int) then (if (((rd_T25 bt153.2.2.1 0).f0) == 4 && (((rd_T25 bt153.2.2.1 0).f1) == 2)) = true then (if bt153.2.2.2 = true then (none) else (if (bt160.1 == 4 && (bt160.2.1 == 2)) = true then (if bt160.2.2.2 = true then ((route_Mine.f k 0 1 0 false ([] : List (S46)) y142 ([] : List (S63)) ([] : List (S61)) ([] : List (S114)) ([] : List (S50)) ([] : List (S53)) 0 0 0 0).bind fun t168 => (if t168 = true then ((route_Mine.f k 0 1 0 false ([] : List (S46)) y142 ([] : List (S63)) ([] : List (S61)) ([] : List (S114)) ([] : List (S50)) ([] : List (S53)) 0 0 0 3).bind fun t169 => (some (!t169))) else (none))) else (none)) else (none))) else (none)) else (none)) else (none)) else (none)) else (none)))))) = some r := h
 clear h
 obtain ⟨y142, hy142⟩ : ∃ y_ : List (S46), y_ = (([(⟨(⟨4, 2⟩ : S25), 0⟩ : S46)] : List (S46))) := ⟨_, rfl⟩
 replace H : ((route_Step.f k 0 1 0 false ([] : List (S46)) y142 ([] : List (S63)) ([] : List (S61)) ([] : List (S114)) ([] : List (S50)) ([] : List (S53)) 0 0 0 3).bind fun bt146 => ((route_Step.f k 0 1 0 false ([] : List (S46)) y142 ([] : List (S63)) ([] : List (S61)) ([] : List (S114)) ([] : List (S50)) ([] : List (S53)) 0 0 0 5).bind fun bt153 => ((route_Step.f k 4 2 0 false ([] : List (S46)) ([] : List (S46)) ([] : List (S63)) ([] : List (S61)) ([] : List (S114)) ([] : List (S50)) ([] : List (S53)) 0 0 0 9).bind fun bt160 => (if (bt146.1 == 4 && (bt146.2.1 == 2)) = true then (if bt146.2.2.2 = true then (if (bt153.2.2.1.length : Int) = 1 then (if 0 < (bt153.2.2.1.length : Int) then (if (((rd_T25 bt153.2.2.1 0).f0) == 4 && (((rd_T25 bt153.2.2.1 0).f1) == 2)) = true then (if bt153.2.2.2 = true then (none) else (if (bt160.1 == 4 && (bt160.2.1 == 2)) = true then (if bt160.2.2.2 = true then ((route_Mine.f k 0 1 0 false ([] : List (S46)) y142 ([] : List (S63)) ([] : List (S61)) ([] : List (S114)) ([] : List (S50)) ([] : List (S53)) 0 0 0 0).bind fun t168 => (if t168 = true then ((route_Mine.f k 0 1 0 false ([] : List (S46)) y142 ([] : List (S63)) ([] : List (S61)) ([] : List (S114)) ([] : List (S50)) ([] : List (S53)) 0 0 0 3).bind fun t169 => (some (!t169))) else (none))) else (none)) else (none))) else (none)) else (none)) else (none)) else (none)) else (none))))) = some r := by first | (rw [hy142]; with_reducible exact H) | (have H2_ := (Option.bind_some _ _).symm.trans H; rw [hy142]; with_reducible exact H2_) | (have H2_ := (Option.bind_some _ _).symm.trans H; with_reducible exact H2_) | with_reducible exact H | (rw [hy142]; exact H) | exact H
 have Ny142 := Aside0.mk hy142
 clear hy142
 replace H := Option.bind_eq_some_iff.mp H
 obtain ⟨⟨t146, t147, t148, t151⟩, A10, H⟩ := H
 replace H : ((route_Step.f k 0 1 0 false ([] : List (S46)) y142 ([] : List (S63)) ([] : List (S61)) ([] : List (S114)) ([] : List (S50)) ([] : List (S53)) 0 0 0 5).bind fun bt153 => ((route_Step.f k 4 2 0 false ([] : List (S46)) ([] : List (S46)) ([] : List (S63)) ([] : List (S61)) ([] : List (S114)) ([] : List (S50)) ([] : List (S53)) 0 0 0 9).bind fun bt160 => (if (t146 == 4 && (t147 == 2)) = true then (if t151 = true then (if (bt153.2.2.1.length : Int) = 1 then (if 0 < (bt153.2.2.1.length : Int) then (if (((rd_T25 bt153.2.2.1 0).f0) == 4 && (((rd_T25 bt153.2.2.1 0).f1) == 2)) = true then (if bt153.2.2.2 = true then (none) else (if (bt160.1 == 4 && (bt160.2.1 == 2)) = true then (if bt160.2.2.2 = true then ((route_Mine.f k 0 1 0 false ([] : List (S46)) y142 ([] : List (S63)) ([] : List (S61)) ([] : List (S114)) ([] : List (S50)) ([] : List (S53)) 0 0 0 0).bind fun t168 => (if t168 = true then ((route_Mine.f k 0 1 0 false ([] : List (S46)) y142 ([] : List (S63)) ([] : List (S61)) ([] : List (S114)) ([] : List (S50)) ([] : List (S53)) 0 0 0 3).bind fun t169 => (some (!t169))) else (none))) else (none)) else (none))) else (none)) else (none)) else (none)) else (none)) else (none)))) = some r := H
 have A1 := Aside0.mk A10
 clear A10
 replace H := Option.bind_eq_some_iff.mp H
 obtain ⟨⟨t153, t154, t155, t158⟩, A20, H⟩ := H
 replace H : ((route_Step.f k 4 2 0 false ([] : List (S46)) ([] : List (S46)) ([] : List (S63)) ([] : List (S61)) ([] : List (S114)) ([] : List (S50)) ([] : List (S53)) 0 0 0 9).bind fun bt160 => (if (t146 == 4 && (t147 == 2)) = true then (if t151 = true then (if (t155.length : Int) = 1 then (if 0 < (t155.length : Int) then (if (((rd_T25 t155 0).f0) == 4 && (((rd_T25 t155 0).f1) == 2)) = true then (if t158 = true then (none) else (if (bt160.1 == 4 && (bt160.2.1 == 2)) = true then (if bt160.2.2.2 = true then ((route_Mine.f k 0 1 0 false ([] : List (S46)) y142 ([] : List (S63)) ([] : List (S61)) ([] : List (S114)) ([] : List (S50)) ([] : List (S53)) 0 0 0 0).bind fun t168 => (if t168 = true then ((route_Mine.f k 0 1 0 false ([] : List (S46)) y142 ([] : List (S63)) ([] : List (S61)) ([] : List (S114)) ([] : List (S50)) ([] : List (S53)) 0 0 0 3).bind fun t169 => (some (!t169))) else (none))) else (none)) else (none))) else (none)) else (none)) else (none)) else (none)) else (none))) = some r := H
 have A2 := Aside0.mk A20
 clear A20
 replace H := Option.bind_eq_some_iff.mp H
 obtain ⟨⟨t160, t161, t162, t165⟩, A30, H⟩ := H
 replace H : (if (t146 == 4 && (t147 == 2)) = true then (if t151 = true then (if (t155.length : Int) = 1 then (if 0 < (t155.length : Int) then (if (((rd_T25 t155 0).f0) == 4 && (((rd_T25 t155 0).f1) == 2)) = true then (if t158 = true then (none) else (if (t160 == 4 && (t161 == 2)) = true then (if t165 = true then ((route_Mine.f k 0 1 0 false ([] : List (S46)) y142 ([] : List (S63)) ([] : List (S61)) ([] : List (S114)) ([] : List (S50)) ([] : List (S53)) 0 0 0 0).bind fun t168 => (if t168 = true then ((route_Mine.f k 0 1 0 false ([] : List (S46)) y142 ([] : List (S63)) ([] : List (S61)) ([] : List (S114)) ([] : List (S50)) ([] : List (S53)) 0 0 0 3).bind fun t169 => (some (!t169))) else (none))) else (none)) else (none))) else (none)) else (none)) else (none)) else (none)) else (none)) = some r := H
 have A3 := Aside0.mk A30
 clear A30
 by_cases c4 : (t146 == 4 && (t147 == 2)) = true
 ·rw [if_pos c4] at H
  have c4b0 : (t146 == 4 && (t147 == 2)) = true := c4
  (try (have c4b1 : decide (t146 = 4 && (t147 == 2)) = true := by simpa using c4))
  (try (have c4b2 : (t146 == 4 && (t147 == 2)) = true := by simpa using c4))
  clear c4
  by_cases c5 : t151 = true
  ·subst c5
   have H1 : (if (t155.length : Int) = 1 then (if 0 < (t155.length : Int) then (if (((rd_T25 t155 0).f0) == 4 && (((rd_T25 t155 0).f1) == 2)) = true then (if t158 = true then (none) else (if (t160 == 4 && (t161 == 2)) = true then (if t165 = true then ((route_Mine.f k 0 1 0 false ([] : List (S46)) y142 ([] : List (S63)) ([] : List (S61)) ([] : List (S114)) ([] : List (S50)) ([] : List (S53)) 0 0 0 0).bind fun t168 => (if t168 = true then ((route_Mine.f k 0 1 0 false ([] : List (S46)) y142 ([] : List (S63)) ([] : List (S61)) ([] : List (S114)) ([] : List (S50)) ([] : List (S53)) 0 0 0 3).bind fun t169 => (some (!t169))) else (none))) else (none)) else (none))) else (none)) else (none)) else (none)) = some r := by rw [if_pos rfl] at H; exact H
   clear H
   have H := H1
   clear H1
   by_cases c6 : (t155.length : Int) = 1
   ·rw [if_pos c6] at H
    have c6b0 : ((t155.length : Int) == 1) = true := beq_iff_eq.mpr c6
    have c6b1 : ((t155.length : Int) != 1) = false := bne_eq_false_iff_eq.mpr c6
    clear c6
    by_cases c7 : 0 < (t155.length : Int)
    ·rw [if_pos c7] at H
     have c7b0 : decide (0 < (t155.length : Int)) = true := decide_eq_true c7
     have c7b1 : decide (0 < t155.length) = true := decide_eq_true (by omega)
     clear c7
     by_cases c8 : (((rd_T25 t155 0).f0) == 4 && (((rd_T25 t155 0).f1) == 2)) = true
     ·rw [if_pos c8] at H
      have c8b0 : (((rd_T25 t155 0).f0) == 4 && (((rd_T25 t155 0).f1) == 2)) = true := c8
      (try (have c8b1 : decide (((rd_T25 t155 0).f0) = 4 && (((rd_T25 t155 0).f1) == 2)) = true := by simpa using c8))
      (try (have c8b2 : (((rd_T25 t155 0).f0) == 4 && (((rd_T25 t155 0).f1) == 2)) = true := by simpa using c8))
      clear c8
      by_cases c9 : t158 = true
      ·subst c9
       have H1 : (none) = some r := by rw [if_pos rfl] at H; exact H
       clear H
       have H := H1
       clear H1
       exact absurd H (by simp)
      ·replace c9 := Bool.eq_false_iff.mpr c9
       subst c9
       have H1 : (if (t160 == 4 && (t161 == 2)) = true then (if t165 = true then ((route_Mine.f k 0 1 0 false ([] : List (S46)) y142 ([] : List (S63)) ([] : List (S61)) ([] : List (S114)) ([] : List (S50)) ([] : List (S53)) 0 0 0 0).bind fun t168 => (if t168 = true then ((route_Mine.f k 0 1 0 false ([] : List (S46)) y142 ([] : List (S63)) ([] : List (S61)) ([] : List (S114)) ([] : List (S50)) ([] : List (S53)) 0 0 0 3).bind fun t169 => (some (!t169))) else (none))) else (none)) else (none)) = some r := by rw [if_neg (show ¬ (false = true) by decide)] at H; exact H
       clear H
       have H := H1
       clear H1
       by_cases c10 : (t160 == 4 && (t161 == 2)) = true
       ·rw [if_pos c10] at H
        have c10b0 : (t160 == 4 && (t161 == 2)) = true := c10
        (try (have c10b1 : decide (t160 = 4 && (t161 == 2)) = true := by simpa using c10))
        (try (have c10b2 : (t160 == 4 && (t161 == 2)) = true := by simpa using c10))
        clear c10
        by_cases c11 : t165 = true
        ·subst c11
         have H1 : ((route_Mine.f k 0 1 0 false ([] : List (S46)) y142 ([] : List (S63)) ([] : List (S61)) ([] : List (S114)) ([] : List (S50)) ([] : List (S53)) 0 0 0 0).bind fun t168 => (if t168 = true then ((route_Mine.f k 0 1 0 false ([] : List (S46)) y142 ([] : List (S63)) ([] : List (S61)) ([] : List (S114)) ([] : List (S50)) ([] : List (S53)) 0 0 0 3).bind fun t169 => (some (!t169))) else (none))) = some r := by rw [if_pos rfl] at H; exact H
         clear H
         have H := H1
         clear H1
         replace H := Option.bind_eq_some_iff.mp H
         obtain ⟨t168, A120, H⟩ := H
         replace H : (if t168 = true then ((route_Mine.f k 0 1 0 false ([] : List (S46)) y142 ([] : List (S63)) ([] : List (S61)) ([] : List (S114)) ([] : List (S50)) ([] : List (S53)) 0 0 0 3).bind fun t169 => (some (!t169))) else (none)) = some r := H
         have A12 := Aside0.mk A120
         clear A120
         by_cases c13 : t168 = true
         ·subst c13
          have H1 : ((route_Mine.f k 0 1 0 false ([] : List (S46)) y142 ([] : List (S63)) ([] : List (S61)) ([] : List (S114)) ([] : List (S50)) ([] : List (S53)) 0 0 0 3).bind fun t169 => (some (!t169))) = some r := by rw [if_pos rfl] at H; exact H
          clear H
          have H := H1
          clear H1
          replace H := Option.bind_eq_some_iff.mp H
          obtain ⟨t169, A140, H⟩ := H
          replace H : (some (!t169)) = some r := H
          have A14 := Aside0.mk A140
          clear A140
          obtain rfl := Option.some.inj H
          go_enter Try.func7, Try.ntmps7
          try go_wp2_with (first | ((with_reducible refine gate_dst (N := 1) rfl ?_); (try (refine gate_guard (by rfl) ?_; dsimp only)); refine box_event ?hg (N := 1) ?hd (cs := #[.int .u64 0, .int .u16 0]) (t := 25) ?hr ?_; (case hd => rfl); (case hg => rfl); (case hr => first | (go_simp; done) | (go_simp; rfl)); intro gb141 hg w15 hbox hb; have n0_ := Aside0.mk (below_step (by repeat (first | (with_reducible first | exact HB.out | apply below_alloc | apply pw_below_drewN | apply below_drew1) | exact HB.out)) hb); have n1_ := Aside0.mk (hbox); have n2_ := Aside0.mk ((by rw [hg]; exact (below_size (by repeat (first | (with_reducible first | exact HB.out | apply below_alloc | apply pw_below_drewN | apply below_drew1) | exact HB.out))) : w.heap.size ≤ gb141)); have n3_ := Aside0.mk ((by rw [hg]; exact (below_size (by repeat (first | (with_reducible first | exact HB.out | apply below_alloc | apply pw_below_drewN | apply below_drew1) | exact HB.out))) : w.heap.size ≤ gb141)); clear HB; have HB := n0_; have BK141 := n1_; have GW141 := n2_; have GE141 := n3_; clear n0_ n1_ n2_ n3_; clear hb hbox hg; obtain ⟨hcz16_0, hcz16_1, hfz16_0, hfz16_1⟩ := box2f (w := w15) (g := gb141) BK141.out) | ((with_reducible refine gate_dst (N := 16) rfl ?_); (try (refine gate_guard (by rfl) ?_; dsimp only)); refine Kd.R_lit k46 _ 46 ?hg (N := 16) ?hd (xs := ([(⟨(⟨4, 2⟩ : S25), 0⟩ : S46)] : List (S46))) (inner := [.int .u64 4, .int .u16 2, .int .i64 0]) (ok := fun _ => True) (okp := fun _ => True) ?hr ?hp (fun _ hk => hk) trivial (Below.refl _ _) (Nat.le_refl _) (by simp) ?_; (case hd => rfl); (case hg => rfl); (case hr => first | (go_simp; done) | (go_simp; rfl)); (case hp => exact (Reps.c3 (show Kd.M k46 _ _ _ (⟨(⟨4, 2⟩ : S25), 0⟩ : S46) [.int .u64 4, .int .u16 2, .int .i64 0] from (k46_mkM _ _ _ (⟨(⟨4, 2⟩ : S25), 0⟩ : S46) )) (Reps.none _ _))); intro v143 w17 ho18 hb hg_ hnew_; clear hg_ hnew_; (first | rw [← Ny142.out] at ho18 | (simp only [Int.reduceToNat] at ho18; rw [← Ny142.out] at ho18)); have n0_ := Aside0.mk (Kd.R_lower ho18 (below_size (by repeat (first | (with_reducible first | exact HB.out | apply below_alloc | apply pw_below_drewN | apply below_drew1 | refine below_set ?_ GE141.out) | exact HB.out)))); have n1_ := Aside0.mk (blk_below (g := gb141) (o := .cells #[.int .u64 4, .int .u16 2] 25 (0, 0)) (by (with_reducible repeat (first | refine blk_drewN ?_ _ | refine blk_drew ?_ | refine blk_alloc ?_ _)); refine blk_put (cs := #[.int .u64 4, .int .u16 0]) ?_ 1 _ rfl; (with_reducible repeat (first | refine blk_drewN ?_ _ | refine blk_drew ?_ | refine blk_alloc ?_ _)); refine blk_put (cs := #[.int .u64 0, .int .u16 0]) ?_ 0 _ rfl; (with_reducible repeat (first | refine blk_drewN ?_ _ | refine blk_drew ?_ | refine blk_alloc ?_ _)); exact BK141.out) hb); have n2_ := Aside0.mk (below_step (by repeat (first | (with_reducible first | exact HB.out | apply below_alloc | apply pw_below_drewN | apply below_drew1 | refine below_set ?_ GE141.out) | exact HB.out)) hb); clear BK141; clear HB; have HO144 := n0_; have BK141 := n1_; have HB := n2_; clear n0_ n1_ n2_; clear hb ho18; obtain ⟨Ao19, co19, eo19⟩ := Kd.R_slice HO144.out; subst eo19) | ((with_reducible refine gate_dst (N := 2) rfl ?_); (try (refine gate_guard (by rfl) ?_; dsimp only)); refine box_event ?hg (N := 2) ?hd (cs := #[.int .u64 0, .int .u16 0, .int .i64 0, .bool false, .slice none 0 0, .slice none 0 0, .slice none 0 0, .slice none 0 0, .slice none 0 0, .slice none 0 0, .slice none 0 0, .int .u32 0, .int .i64 0, .int .i64 0]) (t := 34) ?hr ?_; (case hd => rfl); (case hg => rfl); (case hr => first | (go_simp; done) | (go_simp; rfl)); intro gb145 hg w20 hbox hb; have n0_ := Aside0.mk (Kd.R_below (by (with_reducible repeat (first | apply Kd.R_alloc | apply Kd.R_drewN | apply Kd.R_drew)); exact HO144.out) hb); have n1_ := Aside0.mk (blk_below (g := gb141) (o := .cells #[.int .u64 4, .int .u16 2] 25 (0, 0)) (by (with_reducible repeat (first | refine blk_drewN ?_ _ | refine blk_drew ?_ | refine blk_alloc ?_ _)); exact BK141.out) hb); have n2_ := Aside0.mk (below_step (by repeat (first | (with_reducible first | exact HB.out | apply below_alloc | apply pw_below_drewN | apply below_drew1 | refine below_set ?_ GE141.out) | exact HB.out)) hb); have n3_ := Aside0.mk (hbox); have n4_ := Aside0.mk ((by rw [hg]; exact (below_size (by repeat (first | (with_reducible first | exact HB.out | apply below_alloc | apply pw_below_drewN | apply below_drew1 | refine below_set ?_ GE141.out) | exact HB.out))) : w.heap.size ≤ gb145)); have n5_ := Aside0.mk ((by rw [hg]; exact (below_size (by repeat (first | (with_reducible first | exact HB.out | apply below_alloc | apply pw_below_drewN | apply below_drew1 | refine below_set ?_ GE141.out) | exact HB.out))) : w.heap.size ≤ gb145)); have n6_ := Aside0.mk ((by rw [hg]; exact Nat.ne_of_lt (blk_lt (g := gb141) (by (with_reducible repeat (first | refine blk_drewN ?_ _ | refine blk_drew ?_ | refine blk_alloc ?_ _)); exact BK141.out)) : gb141 ≠ gb145)); have n7_ := Aside0.mk ((by rw [hg]; exact Nat.ne_of_gt (blk_lt (g := gb141) (by (with_reducible repeat (first | refine blk_drewN ?_ _ | refine blk_drew ?_ | refine blk_alloc ?_ _)); exact BK141.out)) : gb145 ≠ gb141)); clear HO144; clear BK141; clear HB; have HO144 := n0_; have BK141 := n1_; have HB := n2_; have BK145 := n3_; have GW145 := n4_; have GE145 := n5_; have NB141_145 := n6_; have NB145_141 := n7_; clear n0_ n1_ n2_ n3_ n4_ n5_ n6_ n7_; clear hb hbox hg; have hnb21 := NB145_141.out; have hnc21 := NB141_145.out; obtain ⟨hcz22_0, hcz22_1, hcz22_2, hcz22_3, hcz22_4, hcz22_5, hcz22_6, hcz22_7, hcz22_8, hcz22_9, hcz22_10, hcz22_11, hcz22_12, hcz22_13, hfz22_0, hfz22_1, hfz22_2, hfz22_3, hfz22_4, hfz22_5, hfz22_6, hfz22_7, hfz22_8, hfz22_9, hfz22_10, hfz22_11, hfz22_12, hfz22_13⟩ := box14f (w := w20) (g := gb145) BK145.out) | ((with_reducible refine gate_callee (f := 8) rfl ?_); refine goesL_ (some 20) rfl rfl Try.func8 (by kernel_rfl) rfl #[.agg #[.int .u64 0, .int .u16 1, .int .i64 0, .bool false, .slice none 0 0, .slice Ao19 y142.length co19, .slice none 0 0, .slice none 0 0, .slice none 0 0, .slice none 0 0, .slice none 0 0, .int .u32 0, .int .i64 0, .int .i64 0], .int .u64 3] rfl (by (try simp only [List.map_toArray, List.map_cons, List.map_nil]); first | done | rfl | (simp only [List.length_drop, List.length_take]; rfl)) ?_; (refine (route_Step.calls k 0 1 0 false _ _ ([] : List (S46)) _ _ y142 _ _ ([] : List (S63)) _ _ ([] : List (S61)) _ _ ([] : List (S114)) _ _ ([] : List (S50)) _ _ ([] : List (S53)) 0 0 0 3 t146 t147 t148 true _ ?side1 ?side2 ?side3 ?side4 ?side5 ?side6 ?side7 ?side8 ?side9 ?side10 ?side11 ?side12 ?side13 ?side14 A1.out).mono ?_); (case side1 => exact Kd.C_nil _ _); (case side2 => exact Nat.le_refl _); (case side3 => refine (Kd.R_reads' (e := 46) (base := w.heap.size) (ok := fun k_ => True) (n := y142.length) (c := co19) ?_).2.2; exact (by (with_reducible repeat (first | apply Kd.R_alloc | apply Kd.R_drewN | apply Kd.R_drew)); exact (Kd.R_mono (Kd.R_far (p := ⟨gb145, 13, none⟩) (Kd.R_far (p := ⟨gb145, 12, none⟩) (Kd.R_far (p := ⟨gb145, 11, none⟩) (Kd.R_far (p := ⟨gb145, 10, none⟩) (Kd.R_far (p := ⟨gb145, 9, none⟩) (Kd.R_far (p := ⟨gb145, 8, none⟩) (Kd.R_far (p := ⟨gb145, 7, none⟩) (Kd.R_far (p := ⟨gb145, 6, none⟩) (Kd.R_far (p := ⟨gb145, 5, none⟩) (Kd.R_far (p := ⟨gb145, 4, none⟩) (Kd.R_far (p := ⟨gb145, 3, none⟩) (Kd.R_far (p := ⟨gb145, 2, none⟩) (Kd.R_far (p := ⟨gb145, 1, none⟩) (Kd.R_far (p := ⟨gb145, 0, none⟩) (Kd.R_types HO144.out BK145.out (by decide)) (fun _ hk => hk.2) (.int .u64 0)) (fun _ hk => hk.2) (.int .u16 1)) (fun _ hk => hk.2) (.int .i64 0)) (fun _ hk => hk.2) (.bool false)) (fun _ hk => hk.2) (.slice none 0 0)) (fun _ hk => hk.2) (.slice Ao19 y142.length co19)) (fun _ hk => hk.2) (.slice none 0 0)) (fun _ hk => hk.2) (.slice none 0 0)) (fun _ hk => hk.2) (.slice none 0 0)) (fun _ hk => hk.2) (.slice none 0 0)) (fun _ hk => hk.2) (.slice none 0 0)) (fun _ hk => hk.2) (.int .u32 0)) (fun _ hk => hk.2) (.int .i64 0)) (fun _ hk => hk.2) (.int .i64 0)) (fun _ h_ => h_.1)))); (case side4 => exact (Kd.R_reads' HO144.out).2.1); (case side5 => exact Kd.C_nil _ _); (case side6 => exact Nat.le_refl _); (case side7 => exact Kd.C_nil _ _); (case side8 => exact Nat.le_refl _); (case side9 => exact Kd.C_nil _ _); (case side10 => exact Nat.le_refl _); (case side11 => exact Kd.C_nil _ _); (case side12 => exact Nat.le_refl _); (case side13 => exact Kd.C_nil _ _); (case side14 => exact Nat.le_refl _); rintro e w23 ⟨v149, rfl, ho0, hb⟩; refine ⟨_, rfl, ?_⟩; have n0_ := Aside0.mk (Kd.R_below (by (with_reducible repeat (first | apply Kd.R_alloc | apply Kd.R_drewN | apply Kd.R_drew)); exact (Kd.R_mono (Kd.R_far (p := ⟨gb145, 13, none⟩) (Kd.R_far (p := ⟨gb145, 12, none⟩) (Kd.R_far (p := ⟨gb145, 11, none⟩) (Kd.R_far (p := ⟨gb145, 10, none⟩) (Kd.R_far (p := ⟨gb145, 9, none⟩) (Kd.R_far (p := ⟨gb145, 8, none⟩) (Kd.R_far (p := ⟨gb145, 7, none⟩) (Kd.R_far (p := ⟨gb145, 6, none⟩) (Kd.R_far (p := ⟨gb145, 5, none⟩) (Kd.R_far (p := ⟨gb145, 4, none⟩) (Kd.R_far (p := ⟨gb145, 3, none⟩) (Kd.R_far (p := ⟨gb145, 2, none⟩) (Kd.R_far (p := ⟨gb145, 1, none⟩) (Kd.R_far (p := ⟨gb145, 0, none⟩) (Kd.R_types HO144.out BK145.out (by decide)) (fun _ hk => hk.2) (.int .u64 0)) (fun _ hk => hk.2) (.int .u16 1)) (fun _ hk => hk.2) (.int .i64 0)) (fun _ hk => hk.2) (.bool false)) (fun _ hk => hk.2) (.slice none 0 0)) (fun _ hk => hk.2) (.slice Ao19 y142.length co19)) (fun _ hk => hk.2) (.slice none 0 0)) (fun _ hk => hk.2) (.slice none 0 0)) (fun _ hk => hk.2) (.slice none 0 0)) (fun _ hk => hk.2) (.slice none 0 0)) (fun _ hk => hk.2) (.slice none 0 0)) (fun _ hk => hk.2) (.int .u32 0)) (fun _ hk => hk.2) (.int .i64 0)) (fun _ hk => hk.2) (.int .i64 0)) (fun _ h_ => h_.1))) hb); have n1_ := Aside0.mk (Kd.R_lower (Kd.R_newB ho0 (g := gb141) (o := .cells #[.int .u64 4, .int .u16 2] 25 (0, 0)) (by (with_reducible repeat (first | refine blk_drewN ?_ _ | refine blk_drew ?_ | refine blk_alloc ?_ _)); refine blk_far ?_ NB141_145.out _; (with_reducible repeat (first | refine blk_drewN ?_ _ | refine blk_drew ?_ | refine blk_alloc ?_ _)); refine blk_far ?_ NB141_145.out _; (with_reducible repeat (first | refine blk_drewN ?_ _ | refine blk_drew ?_ | refine blk_alloc ?_ _)); refine blk_far ?_ NB141_145.out _; (with_reducible repeat (first | refine blk_drewN ?_ _ | refine blk_drew ?_ | refine blk_alloc ?_ _)); refine blk_far ?_ NB141_145.out _; (with_reducible repeat (first | refine blk_drewN ?_ _ | refine blk_drew ?_ | refine blk_alloc ?_ _)); refine blk_far ?_ NB141_145.out _; (with_reducible repeat (first | refine blk_drewN ?_ _ | refine blk_drew ?_ | refine blk_alloc ?_ _)); refine blk_far ?_ NB141_145.out _; (with_reducible repeat (first | refine blk_drewN ?_ _ | refine blk_drew ?_ | refine blk_alloc ?_ _)); refine blk_far ?_ NB141_145.out _; (with_reducible repeat (first | refine blk_drewN ?_ _ | refine blk_drew ?_ | refine blk_alloc ?_ _)); refine blk_far ?_ NB141_145.out _; (with_reducible repeat (first | refine blk_drewN ?_ _ | refine blk_drew ?_ | refine blk_alloc ?_ _)); refine blk_far ?_ NB141_145.out _; (with_reducible repeat (first | refine blk_drewN ?_ _ | refine blk_drew ?_ | refine blk_alloc ?_ _)); refine blk_far ?_ NB141_145.out _; (with_reducible repeat (first | refine blk_drewN ?_ _ | refine blk_drew ?_ | refine blk_alloc ?_ _)); refine blk_far ?_ NB141_145.out _; (with_reducible repeat (first | refine blk_drewN ?_ _ | refine blk_drew ?_ | refine blk_alloc ?_ _)); refine blk_far ?_ NB141_145.out _; (with_reducible repeat (first | refine blk_drewN ?_ _ | refine blk_drew ?_ | refine blk_alloc ?_ _)); refine blk_far ?_ NB141_145.out _; (with_reducible repeat (first | refine blk_drewN ?_ _ | refine blk_drew ?_ | refine blk_alloc ?_ _)); refine blk_far ?_ NB141_145.out _; (with_reducible repeat (first | refine blk_drewN ?_ _ | refine blk_drew ?_ | refine blk_alloc ?_ _)); exact BK141.out)) (below_size (by repeat (first | (with_reducible first | exact HB.out | apply below_alloc | apply pw_below_drewN | apply below_drew1 | refine below_set ?_ GE141.out | refine below_set ?_ GE145.out) | exact HB.out)))); have n2_ := Aside0.mk (blk_below (g := gb141) (o := .cells #[.int .u64 4, .int .u16 2] 25 (0, 0)) (by (with_reducible repeat (first | refine blk_drewN ?_ _ | refine blk_drew ?_ | refine blk_alloc ?_ _)); refine blk_far ?_ NB141_145.out _; (with_reducible repeat (first | refine blk_drewN ?_ _ | refine blk_drew ?_ | refine blk_alloc ?_ _)); refine blk_far ?_ NB141_145.out _; (with_reducible repeat (first | refine blk_drewN ?_ _ | refine blk_drew ?_ | refine blk_alloc ?_ _)); refine blk_far ?_ NB141_145.out _; (with_reducible repeat (first | refine blk_drewN ?_ _ | refine blk_drew ?_ | refine blk_alloc ?_ _)); refine blk_far ?_ NB141_145.out _; (with_reducible repeat (first | refine blk_drewN ?_ _ | refine blk_drew ?_ | refine blk_alloc ?_ _)); refine blk_far ?_ NB141_145.out _; (with_reducible repeat (first | refine blk_drewN ?_ _ | refine blk_drew ?_ | refine blk_alloc ?_ _)); refine blk_far ?_ NB141_145.out _; (with_reducible repeat (first | refine blk_drewN ?_ _ | refine blk_drew ?_ | refine blk_alloc ?_ _)); refine blk_far ?_ NB141_145.out _; (with_reducible repeat (first | refine blk_drewN ?_ _ | refine blk_drew ?_ | refine blk_alloc ?_ _)); refine blk_far ?_ NB141_145.out _; (with_reducible repeat (first | refine blk_drewN ?_ _ | refine blk_drew ?_ | refine blk_alloc ?_ _)); refine blk_far ?_ NB141_145.out _; (with_reducible repeat (first | refine blk_drewN ?_ _ | refine blk_drew ?_ | refine blk_alloc ?_ _)); refine blk_far ?_ NB141_145.out _; (with_reducible repeat (first | refine blk_drewN ?_ _ | refine blk_drew ?_ | refine blk_alloc ?_ _)); refine blk_far ?_ NB141_145.out _; (with_reducible repeat (first | refine blk_drewN ?_ _ | refine blk_drew ?_ | refine blk_alloc ?_ _)); refine blk_far ?_ NB141_145.out _; (with_reducible repeat (first | refine blk_drewN ?_ _ | refine blk_drew ?_ | refine blk_alloc ?_ _)); refine blk_far ?_ NB141_145.out _; (with_reducible repeat (first | refine blk_drewN ?_ _ | refine blk_drew ?_ | refine blk_alloc ?_ _)); refine blk_far ?_ NB141_145.out _; (with_reducible repeat (first | refine blk_drewN ?_ _ | refine blk_drew ?_ | refine blk_alloc ?_ _)); exact BK141.out) hb); have n3_ := Aside0.mk (blk_below (g := gb145) (o := .cells #[.int .u64 0, .int .u16 1, .int .i64 0, .bool false, .slice none 0 0, .slice Ao19 y142.length co19, .slice none 0 0, .slice none 0 0, .slice none 0 0, .slice none 0 0, .slice none 0 0, .int .u32 0, .int .i64 0, .int .i64 0] 34 (0, 0)) (by (with_reducible repeat (first | refine blk_drewN ?_ _ | refine blk_drew ?_ | refine blk_alloc ?_ _)); refine blk_put (cs := #[.int .u64 0, .int .u16 1, .int .i64 0, .bool false, .slice none 0 0, .slice Ao19 y142.length co19, .slice none 0 0, .slice none 0 0, .slice none 0 0, .slice none 0 0, .slice none 0 0, .int .u32 0, .int .i64 0, .int .i64 0]) ?_ 13 _ rfl; (with_reducible repeat (first | refine blk_drewN ?_ _ | refine blk_drew ?_ | refine blk_alloc ?_ _)); refine blk_put (cs := #[.int .u64 0, .int .u16 1, .int .i64 0, .bool false, .slice none 0 0, .slice Ao19 y142.length co19, .slice none 0 0, .slice none 0 0, .slice none 0 0, .slice none 0 0, .slice none 0 0, .int .u32 0, .int .i64 0, .int .i64 0]) ?_ 12 _ rfl; (with_reducible repeat (first | refine blk_drewN ?_ _ | refine blk_drew ?_ | refine blk_alloc ?_ _)); refine blk_put (cs := #[.int .u64 0, .int .u16 1, .int .i64 0, .bool false, .slice none 0 0, .slice Ao19 y142.length co19, .slice none 0 0, .slice none 0 0, .slice none 0 0, .slice none 0 0, .slice none 0 0, .int .u32 0, .int .i64 0, .int .i64 0]) ?_ 11 _ rfl; (with_reducible repeat (first | refine blk_drewN ?_ _ | refine blk_drew ?_ | refine blk_alloc ?_ _)); refine blk_put (cs := #[.int .u64 0, .int .u16 1, .int .i64 0, .bool false, .slice none 0 0, .slice Ao19 y142.length co19, .slice none 0 0, .slice none 0 0, .slice none 0 0, .slice none 0 0, .slice none 0 0, .int .u32 0, .int .i64 0, .int .i64 0]) ?_ 10 _ rfl; (with_reducible repeat (first | refine blk_drewN ?_ _ | refine blk_drew ?_ | refine blk_alloc ?_ _)); refine blk_put (cs := #[.int .u64 0, .int .u16 1, .int .i64 0, .bool false, .slice none 0 0, .slice Ao19 y142.length co19, .slice none 0 0, .slice none 0 0, .slice none 0 0, .slice none 0 0, .slice none 0 0, .int .u32 0, .int .i64 0, .int .i64 0]) ?_ 9 _ rfl; (with_reducible repeat (first | refine blk_drewN ?_ _ | refine blk_drew ?_ | refine blk_alloc ?_ _)); refine blk_put (cs := #[.int .u64 0, .int .u16 1, .int .i64 0, .bool false, .slice none 0 0, .slice Ao19 y142.length co19, .slice none 0 0, .slice none 0 0, .slice none 0 0, .slice none 0 0, .slice none 0 0, .int .u32 0, .int .i64 0, .int .i64 0]) ?_ 8 _ rfl; (with_reducible repeat (first | refine blk_drewN ?_ _ | refine blk_drew ?_ | refine blk_alloc ?_ _)); refine blk_put (cs := #[.int .u64 0, .int .u16 1, .int .i64 0, .bool false, .slice none 0 0, .slice Ao19 y142.length co19, .slice none 0 0, .slice none 0 0, .slice none 0 0, .slice none 0 0, .slice none 0 0, .int .u32 0, .int .i64 0, .int .i64 0]) ?_ 7 _ rfl; (with_reducible repeat (first | refine blk_drewN ?_ _ | refine blk_drew ?_ | refine blk_alloc ?_ _)); refine blk_put (cs := #[.int .u64 0, .int .u16 1, .int .i64 0, .bool false, .slice none 0 0, .slice Ao19 y142.length co19, .slice none 0 0, .slice none 0 0, .slice none 0 0, .slice none 0 0, .slice none 0 0, .int .u32 0, .int .i64 0, .int .i64 0]) ?_ 6 _ rfl; (with_reducible repeat (first | refine blk_drewN ?_ _ | refine blk_drew ?_ | refine blk_alloc ?_ _)); refine blk_put (cs := #[.int .u64 0, .int .u16 1, .int .i64 0, .bool false, .slice none 0 0, .slice none 0 0, .slice none 0 0, .slice none 0 0, .slice none 0 0, .slice none 0 0, .slice none 0 0, .int .u32 0, .int .i64 0, .int .i64 0]) ?_ 5 _ rfl; (with_reducible repeat (first | refine blk_drewN ?_ _ | refine blk_drew ?_ | refine blk_alloc ?_ _)); refine blk_put (cs := #[.int .u64 0, .int .u16 1, .int .i64 0, .bool false, .slice none 0 0, .slice none 0 0, .slice none 0 0, .slice none 0 0, .slice none 0 0, .slice none 0 0, .slice none 0 0, .int .u32 0, .int .i64 0, .int .i64 0]) ?_ 4 _ rfl; (with_reducible repeat (first | refine blk_drewN ?_ _ | refine blk_drew ?_ | refine blk_alloc ?_ _)); refine blk_put (cs := #[.int .u64 0, .int .u16 1, .int .i64 0, .bool false, .slice none 0 0, .slice none 0 0, .slice none 0 0, .slice none 0 0, .slice none 0 0, .slice none 0 0, .slice none 0 0, .int .u32 0, .int .i64 0, .int .i64 0]) ?_ 3 _ rfl; (with_reducible repeat (first | refine blk_drewN ?_ _ | refine blk_drew ?_ | refine blk_alloc ?_ _)); refine blk_put (cs := #[.int .u64 0, .int .u16 1, .int .i64 0, .bool false, .slice none 0 0, .slice none 0 0, .slice none 0 0, .slice none 0 0, .slice none 0 0, .slice none 0 0, .slice none 0 0, .int .u32 0, .int .i64 0, .int .i64 0]) ?_ 2 _ rfl; (with_reducible repeat (first | refine blk_drewN ?_ _ | refine blk_drew ?_ | refine blk_alloc ?_ _)); refine blk_put (cs := #[.int .u64 0, .int .u16 0, .int .i64 0, .bool false, .slice none 0 0, .slice none 0 0, .slice none 0 0, .slice none 0 0, .slice none 0 0, .slice none 0 0, .slice none 0 0, .int .u32 0, .int .i64 0, .int .i64 0]) ?_ 1 _ rfl; (with_reducible repeat (first | refine blk_drewN ?_ _ | refine blk_drew ?_ | refine blk_alloc ?_ _)); refine blk_put (cs := #[.int .u64 0, .int .u16 0, .int .i64 0, .bool false, .slice none 0 0, .slice none 0 0, .slice none 0 0, .slice none 0 0, .slice none 0 0, .slice none 0 0, .slice none 0 0, .int .u32 0, .int .i64 0, .int .i64 0]) ?_ 0 _ rfl; (with_reducible repeat (first | refine blk_drewN ?_ _ | refine blk_drew ?_ | refine blk_alloc ?_ _)); exact BK145.out) hb); have n4_ := Aside0.mk (below_step (by repeat (first | (with_reducible first | exact HB.out | apply below_alloc | apply pw_below_drewN | apply below_drew1 | refine below_set ?_ GE141.out | refine below_set ?_ GE145.out) | exact HB.out)) hb); clear HO144; clear BK141; clear BK145; clear HB; have HO144 := n0_; have HO150 := n1_; have BK141 := n2_; have BK145 := n3_; have HB := n4_; clear n0_ n1_ n2_ n3_ n4_; (try clear hb); (try clear hb2); (try clear hk); (try clear hi); (try clear ho0)) | ((with_reducible refine gate_dst (N := 3) rfl ?_); (try (refine gate_guard (by rfl) ?_; dsimp only)); refine box_event ?hg (N := 3) ?hd (cs := #[.int .u64 0, .int .u16 0]) (t := 25) ?hr ?_; (case hd => rfl); (case hg => rfl); (case hr => first | (go_simp; done) | (go_simp; rfl)); intro gb152 hg w24 hbox hb; have n0_ := Aside0.mk (Kd.R_below (by (with_reducible repeat (first | apply Kd.R_alloc | apply Kd.R_drewN | apply Kd.R_drew)); exact HO144.out) hb); have n1_ := Aside0.mk (Kd.R_below (Kd.R_elderB (by (with_reducible repeat (first | apply Kd.R_alloc | apply Kd.R_drewN | apply Kd.R_drew)); exact HO150.out) gb152 (Nat.le_of_eq hg.symm)) hb); have n2_ := Aside0.mk (blk_below (g := gb141) (o := .cells #[.int .u64 4, .int .u16 2] 25 (0, 0)) (by (with_reducible repeat (first | refine blk_drewN ?_ _ | refine blk_drew ?_ | refine blk_alloc ?_ _)); exact BK141.out) hb); have n3_ := Aside0.mk (blk_below (g := gb145) (o := .cells #[.int .u64 0, .int .u16 1, .int .i64 0, .bool false, .slice none 0 0, .slice Ao19 y142.length co19, .slice none 0 0, .slice none 0 0, .slice none 0 0, .slice none 0 0, .slice none 0 0, .int .u32 0, .int .i64 0, .int .i64 0] 34 (0, 0)) (by (with_reducible repeat (first | refine blk_drewN ?_ _ | refine blk_drew ?_ | refine blk_alloc ?_ _)); exact BK145.out) hb); have n4_ := Aside0.mk (below_step (by repeat (first | (with_reducible first | exact HB.out | apply below_alloc | apply pw_below_drewN | apply below_drew1 | refine below_set ?_ GE141.out | refine below_set ?_ GE145.out) | exact HB.out)) hb); have n5_ := Aside0.mk (hbox); have n6_ := Aside0.mk ((by rw [hg]; exact (below_size (by repeat (first | (with_reducible first | exact HB.out | apply below_alloc | apply pw_below_drewN | apply below_drew1 | refine below_set ?_ GE141.out | refine below_set ?_ GE145.out) | exact HB.out))) : w.heap.size ≤ gb152)); have n7_ := Aside0.mk ((by rw [hg]; exact (below_size (by repeat (first | (with_reducible first | exact HB.out | apply below_alloc | apply pw_below_drewN | apply below_drew1 | refine below_set ?_ GE141.out | refine below_set ?_ GE145.out) | exact HB.out))) : w.heap.size ≤ gb152)); have n8_ := Aside0.mk ((by rw [hg]; exact Nat.ne_of_lt (blk_lt (g := gb141) (by (with_reducible repeat (first | refine blk_drewN ?_ _ | refine blk_drew ?_ | refine blk_alloc ?_ _)); exact BK141.out)) : gb141 ≠ gb152)); have n9_ := Aside0.mk ((by rw [hg]; exact Nat.ne_of_gt (blk_lt (g := gb141) (by (with_reducible repeat (first | refine blk_drewN ?_ _ | refine blk_drew ?_ | refine blk_alloc ?_ _)); exact BK141.out)) : gb152 ≠ gb141)); have n10_ := Aside0.mk ((by rw [hg]; exact Nat.ne_of_lt (blk_lt (g := gb145) (by (with_reducible repeat (first | refine blk_drewN ?_ _ | refine blk_drew ?_ | refine blk_alloc ?_ _)); exact BK145.out)) : gb145 ≠ gb152)); have n11_ := Aside0.mk ((by rw [hg]; exact Nat.ne_of_gt (blk_lt (g := gb145) (by (with_reducible repeat (first | refine blk_drewN ?_ _ | refine blk_drew ?_ | refine blk_alloc ?_ _)); exact BK145.out)) : gb152 ≠ gb145)); clear HO144; clear HO150; clear BK141; clear BK145; clear HB; have HO144 := n0_; have HO150 := n1_; have BK141 := n2_; have BK145 := n3_; have HB := n4_; have BK152 := n5_; have GW152 := n6_; have GE152 := n7_; have NB141_152 := n8_; have NB152_141 := n9_; have NB145_152 := n10_; have NB152_145 := n11_; clear n0_ n1_ n2_ n3_ n4_ n5_ n6_ n7_ n8_ n9_ n10_ n11_; clear hb hbox hg; have hnb25 := NB152_141.out; have hnc25 := NB141_152.out; have hnb26 := NB152_145.out; have hnc26 := NB145_152.out; obtain ⟨hcz27_0, hcz27_1, hfz27_0, hfz27_1⟩ := box2f (w := w24) (g := gb152) BK152.out; obtain ⟨hcz28_0, hcz28_1, hcz28_2, hcz28_3, hcz28_4, hcz28_5, hcz28_6, hcz28_7, hcz28_8, hcz28_9, hcz28_10, hcz28_11, hcz28_12, hcz28_13, hfz28_0, hfz28_1, hfz28_2, hfz28_3, hfz28_4, hfz28_5, hfz28_6, hfz28_7, hfz28_8, hfz28_9, hfz28_10, hfz28_11, hfz28_12, hfz28_13⟩ := box14f (w := w24) (g := gb145) BK145.out) | ((with_reducible refine gate_callee (f := 8) rfl ?_); refine goesL_ (some 26) rfl rfl Try.func8 (by kernel_rfl) rfl #[.agg #[.int .u64 0, .int .u16 1, .int .i64 0, .bool false, .slice none 0 0, .slice Ao19 y142.length co19, .slice none 0 0, .slice none 0 0, .slice none 0 0, .slice none 0 0, .slice none 0 0, .int .u32 0, .int .i64 0, .int .i64 0], .int .u64 5] rfl (by (try simp only [List.map_toArray, List.map_cons, List.map_nil]); first | done | rfl | (simp only [List.length_drop, List.length_take]; rfl)) ?_; (refine (route_Step.calls k 0 1 0 false _ _ ([] : List (S46)) _ _ y142 _ _ ([] : List (S63)) _ _ ([] : List (S61)) _ _ ([] : List (S114)) _ _ ([] : List (S50)) _ _ ([] : List (S53)) 0 0 0 5 t153 t154 t155 false _ ?side1 ?side2 ?side3 ?side4 ?side5 ?side6 ?side7 ?side8 ?side9 ?side10 ?side11 ?side12 ?side13 ?side14 A2.out).mono ?_); (case side1 => exact Kd.C_nil _ _); (case side2 => exact Nat.le_refl _); (case side3 => refine (Kd.R_reads' (e := 46) (base := w.heap.size) (ok := fun k_ => True) (n := y142.length) (c := co19) ?_).2.2; exact (by (with_reducible repeat (first | apply Kd.R_alloc | apply Kd.R_drewN | apply Kd.R_drew)); exact (Kd.R_mono (Kd.R_far (p := ⟨gb152, 1, none⟩) (Kd.R_far (p := ⟨gb152, 0, none⟩) (Kd.R_types HO144.out BK152.out (by decide)) (fun _ hk => hk.2) (.int .u64 t146)) (fun _ hk => hk.2) (.int .u16 t147)) (fun _ h_ => h_.1)))); (case side4 => exact (Kd.R_reads' HO144.out).2.1); (case side5 => exact Kd.C_nil _ _); (case side6 => exact Nat.le_refl _); (case side7 => exact Kd.C_nil _ _); (case side8 => exact Nat.le_refl _); (case side9 => exact Kd.C_nil _ _); (case side10 => exact Nat.le_refl _); (case side11 => exact Kd.C_nil _ _); (case side12 => exact Nat.le_refl _); (case side13 => exact Kd.C_nil _ _); (case side14 => exact Nat.le_refl _); rintro e w29 ⟨v156, rfl, ho0, hb⟩; refine ⟨_, rfl, ?_⟩; have n0_ := Aside0.mk (Kd.R_below (by (with_reducible repeat (first | apply Kd.R_alloc | apply Kd.R_drewN | apply Kd.R_drew)); exact (Kd.R_mono (Kd.R_far (p := ⟨gb152, 1, none⟩) (Kd.R_far (p := ⟨gb152, 0, none⟩) (Kd.R_types HO144.out BK152.out (by decide)) (fun _ hk => hk.2) (.int .u64 t146)) (fun _ hk => hk.2) (.int .u16 t147)) (fun _ h_ => h_.1))) hb); have n1_ := Aside0.mk (Kd.R_elder' (by (with_reducible repeat (first | apply Kd.R_alloc | apply Kd.R_drewN | apply Kd.R_drew)); exact (Kd.R_mono (Kd.R_far (p := ⟨gb152, 1, none⟩) (Kd.R_far (p := ⟨gb152, 0, none⟩) (Kd.R_mono HO150.out (fun k_ hk => (⟨hk, hk.2⟩ : _ ∧ k_ ≠ gb152))) (fun _ hk => hk.2) (.int .u64 t146)) (fun _ hk => hk.2) (.int .u16 t147)) (fun _ h_ => h_.1))) (Kd.R_base ho0) hb); have n2_ := Aside0.mk (Kd.R_lower (Kd.R_newB (Kd.R_newB (Kd.R_new' ho0 (Kd.R_lt (by (with_reducible repeat (first | apply Kd.R_alloc | apply Kd.R_drewN | apply Kd.R_drew)); exact (Kd.R_mono (Kd.R_far (p := ⟨gb152, 1, none⟩) (Kd.R_far (p := ⟨gb152, 0, none⟩) (Kd.R_mono HO150.out (fun k_ hk => (⟨hk, hk.2⟩ : _ ∧ k_ ≠ gb152))) (fun _ hk => hk.2) (.int .u64 t146)) (fun _ hk => hk.2) (.int .u16 t147)) (fun _ h_ => h_.1))))) (g := gb141) (o := .cells #[.int .u64 4, .int .u16 2] 25 (0, 0)) (by (with_reducible repeat (first | refine blk_drewN ?_ _ | refine blk_drew ?_ | refine blk_alloc ?_ _)); refine blk_far ?_ NB141_152.out _; (with_reducible repeat (first | refine blk_drewN ?_ _ | refine blk_drew ?_ | refine blk_alloc ?_ _)); refine blk_far ?_ NB141_152.out _; (with_reducible repeat (first | refine blk_drewN ?_ _ | refine blk_drew ?_ | refine blk_alloc ?_ _)); exact BK141.out)) (g := gb152) (o := .cells #[.int .u64 t146, .int .u16 t147] 25 (0, 0)) (by (with_reducible repeat (first | refine blk_drewN ?_ _ | refine blk_drew ?_ | refine blk_alloc ?_ _)); refine blk_put (cs := #[.int .u64 t146, .int .u16 0]) ?_ 1 _ rfl; (with_reducible repeat (first | refine blk_drewN ?_ _ | refine blk_drew ?_ | refine blk_alloc ?_ _)); refine blk_put (cs := #[.int .u64 0, .int .u16 0]) ?_ 0 _ rfl; (with_reducible repeat (first | refine blk_drewN ?_ _ | refine blk_drew ?_ | refine blk_alloc ?_ _)); exact BK152.out)) (below_size (by repeat (first | (with_reducible first | exact HB.out | apply below_alloc | apply pw_below_drewN | apply below_drew1 | refine below_set ?_ GE141.out | refine below_set ?_ GE145.out | refine below_set ?_ GE152.out) | exact HB.out)))); have n3_ := Aside0.mk (blk_below (g := gb141) (o := .cells #[.int .u64 4, .int .u16 2] 25 (0, 0)) (by (with_reducible repeat (first | refine blk_drewN ?_ _ | refine blk_drew ?_ | refine blk_alloc ?_ _)); refine blk_far ?_ NB141_152.out _; (with_reducible repeat (first | refine blk_drewN ?_ _ | refine blk_drew ?_ | refine blk_alloc ?_ _)); refine blk_far ?_ NB141_152.out _; (with_reducible repeat (first | refine blk_drewN ?_ _ | refine blk_drew ?_ | refine blk_alloc ?_ _)); exact BK141.out) hb); have n4_ := Aside0.mk (blk_below (g := gb145) (o := .cells #[.int .u64 0, .int .u16 1, .int .i64 0, .bool false, .slice none 0 0, .slice Ao19 y142.length co19, .slice none 0 0, .slice none 0 0, .slice none 0 0, .slice none 0 0, .slice none 0 0, .int .u32 0, .int .i64 0, .int .i64 0] 34 (0, 0)) (by (with_reducible repeat (first | refine blk_drewN ?_ _ | refine blk_drew ?_ | refine blk_alloc ?_ _)); refine blk_far ?_ NB145_152.out _; (with_reducible repeat (first | refine blk_drewN ?_ _ | refine blk_drew ?_ | refine blk_alloc ?_ _)); refine blk_far ?_ NB145_152.out _; (with_reducible repeat (first | refine blk_drewN ?_ _ | refine blk_drew ?_ | refine blk_alloc ?_ _)); exact BK145.out) hb); have n5_ := Aside0.mk (blk_below (g := gb152) (o := .cells #[.int .u64 t146, .int .u16 t147] 25 (0, 0)) (by (with_reducible repeat (first | refine blk_drewN ?_ _ | refine blk_drew ?_ | refine blk_alloc ?_ _)); refine blk_put (cs := #[.int .u64 t146, .int .u16 0]) ?_ 1 _ rfl; (with_reducible repeat (first | refine blk_drewN ?_ _ | refine blk_drew ?_ | refine blk_alloc ?_ _)); refine blk_put (cs := #[.int .u64 0, .int .u16 0]) ?_ 0 _ rfl; (with_reducible repeat (first | refine blk_drewN ?_ _ | refine blk_drew ?_ | refine blk_alloc ?_ _)); exact BK152.out) hb); have n6_ := Aside0.mk (below_step (by repeat (first | (with_reducible first | exact HB.out | apply below_alloc | apply pw_below_drewN | apply below_drew1 | refine below_set ?_ GE141.out | refine below_set ?_ GE145.out | refine below_set ?_ GE152.out) | exact HB.out)) hb); clear HO144; clear HO150; clear BK141; clear BK145; clear BK152; clear HB; have HO144 := n0_; have HO150 := n1_; have HO157 := n2_; have BK141 := n3_; have BK145 := n4_; have BK152 := n5_; have HB := n6_; clear n0_ n1_ n2_ n3_ n4_ n5_ n6_; (try clear hb); (try clear hb2); (try clear hk); (try clear hi); (try clear ho0)) | ((with_reducible refine gate_dst (N := 6) rfl ?_); (try (refine gate_guard (by rfl) ?_; dsimp only)); refine box_event ?hg (N := 6) ?hd (cs := #[.int .u64 0, .int .u16 0]) (t := 25) ?hr ?_; (case hd => rfl); (case hg => rfl); (case hr => first | (go_simp; done) | (go_simp; rfl)); intro gb159 hg w30 hbox hb; have n0_ := Aside0.mk (Kd.R_below (by (with_reducible repeat (first | apply Kd.R_alloc | apply Kd.R_drewN | apply Kd.R_drew)); exact HO144.out) hb); have n1_ := Aside0.mk (Kd.R_below (Kd.R_elderB (by (with_reducible repeat (first | apply Kd.R_alloc | apply Kd.R_drewN | apply Kd.R_drew)); exact HO150.out) gb159 (Nat.le_of_eq hg.symm)) hb); have n2_ := Aside0.mk (Kd.R_below (Kd.R_elderB (by (with_reducible repeat (first | apply Kd.R_alloc | apply Kd.R_drewN | apply Kd.R_drew)); exact HO157.out) gb159 (Nat.le_of_eq hg.symm)) hb); have n3_ := Aside0.mk (blk_below (g := gb141) (o := .cells #[.int .u64 4, .int .u16 2] 25 (0, 0)) (by (with_reducible repeat (first | refine blk_drewN ?_ _ | refine blk_drew ?_ | refine blk_alloc ?_ _)); exact BK141.out) hb); have n4_ := Aside0.mk (blk_below (g := gb145) (o := .cells #[.int .u64 0, .int .u16 1, .int .i64 0, .bool false, .slice none 0 0, .slice Ao19 y142.length co19, .slice none 0 0, .slice none 0 0, .slice none 0 0, .slice none 0 0, .slice none 0 0, .int .u32 0, .int .i64 0, .int .i64 0] 34 (0, 0)) (by (with_reducible repeat (first | refine blk_drewN ?_ _ | refine blk_drew ?_ | refine blk_alloc ?_ _)); exact BK145.out) hb); have n5_ := Aside0.mk (blk_below (g := gb152) (o := .cells #[.int .u64 t146, .int .u16 t147] 25 (0, 0)) (by (with_reducible repeat (first | refine blk_drewN ?_ _ | refine blk_drew ?_ | refine blk_alloc ?_ _)); exact BK152.out) hb); have n6_ := Aside0.mk (below_step (by repeat (first | (with_reducible first | exact HB.out | apply below_alloc | apply pw_below_drewN | apply below_drew1 | refine below_set ?_ GE141.out | refine below_set ?_ GE145.out | refine below_set ?_ GE152.out) | exact HB.out)) hb); have n7_ := Aside0.mk (hbox); have n8_ := Aside0.mk ((by rw [hg]; exact (below_size (by repeat (first | (with_reducible first | exact HB.out | apply below_alloc | apply pw_below_drewN | apply below_drew1 | refine below_set ?_ GE141.out | refine below_set ?_ GE145.out | refine below_set ?_ GE152.out) | exact HB.out))) : w.heap.size ≤ gb159)); have n9_ := Aside0.mk ((by rw [hg]; exact (below_size (by repeat (first | (with_reducible first | exact HB.out | apply below_alloc | apply pw_below_drewN | apply below_drew1 | refine below_set ?_ GE141.out | refine below_set ?_ GE145.out | refine below_set ?_ GE152.out) | exact HB.out))) : w.heap.size ≤ gb159)); have n10_ := Aside0.mk ((by rw [hg]; exact Nat.ne_of_lt (blk_lt (g := gb141) (by (with_reducible repeat (first | refine blk_drewN ?_ _ | refine blk_drew ?_ | refine blk_alloc ?_ _)); exact BK141.out)) : gb141 ≠ gb159)); have n11_ := Aside0.mk ((by rw [hg]; exact Nat.ne_of_gt (blk_lt (g := gb141) (by (with_reducible repeat (first | refine blk_drewN ?_ _ | refine blk_drew ?_ | refine blk_alloc ?_ _)); exact BK141.out)) : gb159 ≠ gb141)); have n12_ := Aside0.mk ((by rw [hg]; exact Nat.ne_of_lt (blk_lt (g := gb145) (by (with_reducible repeat (first | refine blk_drewN ?_ _ | refine blk_drew ?_ | refine blk_alloc ?_ _)); exact BK145.out)) : gb145 ≠ gb159)); have n13_ := Aside0.mk ((by rw [hg]; exact Nat.ne_of_gt (blk_lt (g := gb145) (by (with_reducible repeat (first | refine blk_drewN ?_ _ | refine blk_drew ?_ | refine blk_alloc ?_ _)); exact BK145.out)) : gb159 ≠ gb145)); have n14_ := Aside0.mk ((by rw [hg]; exact Nat.ne_of_lt (blk_lt (g := gb152) (by (with_reducible repeat (first | refine blk_drewN ?_ _ | refine blk_drew ?_ | refine blk_alloc ?_ _)); exact BK152.out)) : gb152 ≠ gb159)); have n15_ := Aside0.mk ((by rw [hg]; exact Nat.ne_of_gt (blk_lt (g := gb152) (by (with_reducible repeat (first | refine blk_drewN ?_ _ | refine blk_drew ?_ | refine blk_alloc ?_ _)); exact BK152.out)) : gb159 ≠ gb152)); clear HO144; clear HO150; clear HO157; clear BK141; clear BK145; clear BK152; clear HB; have HO144 := n0_; have HO150 := n1_; have HO157 := n2_; have BK141 := n3_; have BK145 := n4_; have BK152 := n5_; have HB := n6_; have BK159 := n7_; have GW159 := n8_; have GE159 := n9_; have NB141_159 := n10_; have NB159_141 := n11_; have NB145_159 := n12_; have NB159_145 := n13_; have NB152_159 := n14_; have NB159_152 := n15_; clear n0_ n1_ n2_ n3_ n4_ n5_ n6_ n7_ n8_ n9_ n10_ n11_ n12_ n13_ n14_ n15_; clear hb hbox hg; have hnb31 := NB159_141.out; have hnc31 := NB141_159.out; have hnb32 := NB159_145.out; have hnc32 := NB145_159.out; have hnb33 := NB159_152.out; have hnc33 := NB152_159.out; obtain ⟨hcz34_0, hcz34_1, hfz34_0, hfz34_1⟩ := box2f (w := w30) (g := gb159) BK159.out; obtain ⟨hcz35_0, hcz35_1, hfz35_0, hfz35_1⟩ := box2f (w := w30) (g := gb141) BK141.out) | ((with_reducible refine gate_callee (f := 8) rfl ?_); refine goesL_ (some 33) rfl rfl Try.func8 (by kernel_rfl) rfl #[.agg #[.int .u64 4, .int .u16 2, .int .i64 0, .bool false, .slice none 0 0, .slice none 0 0, .slice none 0 0, .slice none 0 0, .slice none 0 0, .slice none 0 0, .slice none 0 0, .int .u32 0, .int .i64 0, .int .i64 0], .int .u64 9] rfl (by (try simp only [List.map_toArray, List.map_cons, List.map_nil]); first | done | rfl | (simp only [List.length_drop, List.length_take]; rfl)) ?_; (refine (route_Step.calls k 4 2 0 false _ _ ([] : List (S46)) _ _ ([] : List (S46)) _ _ ([] : List (S63)) _ _ ([] : List (S61)) _ _ ([] : List (S114)) _ _ ([] : List (S50)) _ _ ([] : List (S53)) 0 0 0 9 t160 t161 t162 true _ ?side1 ?side2 ?side3 ?side4 ?side5 ?side6 ?side7 ?side8 ?side9 ?side10 ?side11 ?side12 ?side13 ?side14 A3.out).mono ?_); (case side1 => exact Kd.C_nil _ _); (case side2 => exact Nat.le_refl _); (case side3 => exact Kd.C_nil _ _); (case side4 => exact Nat.le_refl _); (case side5 => exact Kd.C_nil _ _); (case side6 => exact Nat.le_refl _); (case side7 => exact Kd.C_nil _ _); (case side8 => exact Nat.le_refl _); (case side9 => exact Kd.C_nil _ _); (case side10 => exact Nat.le_refl _); (case side11 => exact Kd.C_nil _ _); (case side12 => exact Nat.le_refl _); (case side13 => exact Kd.C_nil _ _); (case side14 => exact Nat.le_refl _); rintro e w36 ⟨v163, rfl, ho0, hb⟩; refine ⟨_, rfl, ?_⟩; have n0_ := Aside0.mk (Kd.R_below (by (with_reducible repeat (first | apply Kd.R_alloc | apply Kd.R_drewN | apply Kd.R_drew)); exact (Kd.R_mono (Kd.R_far (p := ⟨gb159, 1, none⟩) (Kd.R_far (p := ⟨gb159, 0, none⟩) (Kd.R_types HO144.out BK159.out (by decide)) (fun _ hk => hk.2) (.int .u64 t153)) (fun _ hk => hk.2) (.int .u16 t154)) (fun _ h_ => h_.1))) hb); have n1_ := Aside0.mk (Kd.R_elder' (by (with_reducible repeat (first | apply Kd.R_alloc | apply Kd.R_drewN | apply Kd.R_drew)); exact (Kd.R_mono (Kd.R_far (p := ⟨gb159, 1, none⟩) (Kd.R_far (p := ⟨gb159, 0, none⟩) (Kd.R_mono HO150.out (fun k_ hk => (⟨hk, hk.2⟩ : _ ∧ k_ ≠ gb159))) (fun _ hk => hk.2) (.int .u64 t153)) (fun _ hk => hk.2) (.int .u16 t154)) (fun _ h_ => h_.1))) (Kd.R_base ho0) hb); have n2_ := Aside0.mk (Kd.R_elder' (by (with_reducible repeat (first | apply Kd.R_alloc | apply Kd.R_drewN | apply Kd.R_drew)); exact (Kd.R_mono (Kd.R_far (p := ⟨gb159, 1, none⟩) (Kd.R_far (p := ⟨gb159, 0, none⟩) (Kd.R_mono HO157.out (fun k_ hk => (⟨hk, hk.2⟩ : _ ∧ k_ ≠ gb159))) (fun _ hk => hk.2) (.int .u64 t153)) (fun _ hk => hk.2) (.int .u16 t154)) (fun _ h_ => h_.1))) (Kd.R_base ho0) hb); have n3_ := Aside0.mk (Kd.R_lower (Kd.R_newB (Kd.R_newB (Kd.R_newB (Kd.R_new' (Kd.R_new' ho0 (Kd.R_lt (by (with_reducible repeat (first | apply Kd.R_alloc | apply Kd.R_drewN | apply Kd.R_drew)); exact (Kd.R_mono (Kd.R_far (p := ⟨gb159, 1, none⟩) (Kd.R_far (p := ⟨gb159, 0, none⟩) (Kd.R_mono HO150.out (fun k_ hk => (⟨hk, hk.2⟩ : _ ∧ k_ ≠ gb159))) (fun _ hk => hk.2) (.int .u64 t153)) (fun _ hk => hk.2) (.int .u16 t154)) (fun _ h_ => h_.1))))) (Kd.R_lt (by (with_reducible repeat (first | apply Kd.R_alloc | apply Kd.R_drewN | apply Kd.R_drew)); exact (Kd.R_mono (Kd.R_far (p := ⟨gb159, 1, none⟩) (Kd.R_far (p := ⟨gb159, 0, none⟩) (Kd.R_mono HO157.out (fun k_ hk => (⟨hk, hk.2⟩ : _ ∧ k_ ≠ gb159))) (fun _ hk => hk.2) (.int .u64 t153)) (fun _ hk => hk.2) (.int .u16 t154)) (fun _ h_ => h_.1))))) (g := gb141) (o := .cells #[.int .u64 4, .int .u16 2] 25 (0, 0)) (by (with_reducible repeat (first | refine blk_drewN ?_ _ | refine blk_drew ?_ | refine blk_alloc ?_ _)); refine blk_far ?_ NB141_159.out _; (with_reducible repeat (first | refine blk_drewN ?_ _ | refine blk_drew ?_ | refine blk_alloc ?_ _)); refine blk_far ?_ NB141_159.out _; (with_reducible repeat (first | refine blk_drewN ?_ _ | refine blk_drew ?_ | refine blk_alloc ?_ _)); exact BK141.out)) (g := gb152) (o := .cells #[.int .u64 t146, .int .u16 t147] 25 (0, 0)) (by (with_reducible repeat (first | refine blk_drewN ?_ _ | refine blk_drew ?_ | refine blk_alloc ?_ _)); refine blk_far ?_ NB152_159.out _; (with_reducible repeat (first | refine blk_drewN ?_ _ | refine blk_drew ?_ | refine blk_alloc ?_ _)); refine blk_far ?_ NB152_159.out _; (with_reducible repeat (first | refine blk_drewN ?_ _ | refine blk_drew ?_ | refine blk_alloc ?_ _)); exact BK152.out)) (g := gb159) (o := .cells #[.int .u64 t153, .int .u16 t154] 25 (0, 0)) (by (with_reducible repeat (first | refine blk_drewN ?_ _ | refine blk_drew ?_ | refine blk_alloc ?_ _)); refine blk_put (cs := #[.int .u64 t153, .int .u16 0]) ?_ 1 _ rfl; (with_reducible repeat (first | refine blk_drewN ?_ _ | refine blk_drew ?_ | refine blk_alloc ?_ _)); refine blk_put (cs := #[.int .u64 0, .int .u16 0]) ?_ 0 _ rfl; (with_reducible repeat (first | refine blk_drewN ?_ _ | refine blk_drew ?_ | refine blk_alloc ?_ _)); exact BK159.out)) (below_size (by repeat (first | (with_reducible first | exact HB.out | apply below_alloc | apply pw_below_drewN | apply below_drew1 | refine below_set ?_ GE141.out | refine below_set ?_ GE145.out | refine below_set ?_ GE152.out | refine below_set ?_ GE159.out) | exact HB.out)))); have n4_ := Aside0.mk (blk_below (g := gb141) (o := .cells #[.int .u64 4, .int .u16 2] 25 (0, 0)) (by (with_reducible repeat (first | refine blk_drewN ?_ _ | refine blk_drew ?_ | refine blk_alloc ?_ _)); refine blk_far ?_ NB141_159.out _; (with_reducible repeat (first | refine blk_drewN ?_ _ | refine blk_drew ?_ | refine blk_alloc ?_ _)); refine blk_far ?_ NB141_159.out _; (with_reducible repeat (first | refine blk_drewN ?_ _ | refine blk_drew ?_ | refine blk_alloc ?_ _)); exact BK141.out) hb); have n5_ := Aside0.mk (blk_below (g := gb145) (o := .cells #[.int .u64 0, .int .u16 1, .int .i64 0, .bool false, .slice none 0 0, .slice Ao19 y142.length co19, .slice none 0 0, .slice none 0 0, .slice none 0 0, .slice none 0 0, .slice none 0 0, .int .u32 0, .int .i64 0, .int .i64 0] 34 (0, 0)) (by (with_reducible repeat (first | refine blk_drewN ?_ _ | refine blk_drew ?_ | refine blk_alloc ?_ _)); refine blk_far ?_ NB145_159.out _; (with_reducible repeat (first | refine blk_drewN ?_ _ | refine blk_drew ?_ | refine blk_alloc ?_ _)); refine blk_far ?_ NB145_159.out _; (with_reducible repeat (first | refine blk_drewN ?_ _ | refine blk_drew ?_ | refine blk_alloc ?_ _)); exact BK145.out) hb); have n6_ := Aside0.mk (blk_below (g := gb152) (o := .cells #[.int .u64 t146, .int .u16 t147] 25 (0, 0)) (by (with_reducible repeat (first | refine blk_drewN ?_ _ | refine blk_drew ?_ | refine blk_alloc ?_ _)); refine blk_far ?_ NB152_159.out _; (with_reducible repeat (first | refine blk_drewN ?_ _ | refine blk_drew ?_ | refine blk_alloc ?_ _)); refine blk_far ?_ NB152_159.out _; (with_reducible repeat (first | refine blk_drewN ?_ _ | refine blk_drew ?_ | refine blk_alloc ?_ _)); exact BK152.out) hb); have n7_ := Aside0.mk (blk_below (g := gb159) (o := .cells #[.int .u64 t153, .int .u16 t154] 25 (0, 0)) (by (with_reducible repeat (first | refine blk_drewN ?_ _ | refine blk_drew ?_ | refine blk_alloc ?_ _)); refine blk_put (cs := #[.int .u64 t153, .int .u16 0]) ?_ 1 _ rfl; (with_reducible repeat (first | refine blk_drewN ?_ _ | refine blk_drew ?_ | refine blk_alloc ?_ _)); refine blk_put (cs := #[.int .u64 0, .int .u16 0]) ?_ 0 _ rfl; (with_reducible repeat (first | refine blk_drewN ?_ _ | refine blk_drew ?_ | refine blk_alloc ?_ _)); exact BK159.out) hb); have n8_ := Aside0.mk (below_step (by repeat (first | (with_reducible first | exact HB.out | apply below_alloc | apply pw_below_drewN | apply below_drew1 | refine below_set ?_ GE141.out | refine below_set ?_ GE145.out | refine below_set ?_ GE152.out | refine below_set ?_ GE159.out) | exact HB.out)) hb); clear HO144; clear HO150; clear HO157; clear BK141; clear BK145; clear BK152; clear BK159; clear HB; have HO144 := n0_; have HO150 := n1_; have HO157 := n2_; have HO164 := n3_; have BK141 := n4_; have BK145 := n5_; have BK152 := n6_; have BK159 := n7_; have HB := n8_; clear n0_ n1_ n2_ n3_ n4_ n5_ n6_ n7_ n8_; (try clear hb); (try clear hb2); (try clear hk); (try clear hi); (try clear ho0)) | ((with_reducible refine gate_dst (N := 9) rfl ?_); (try (refine gate_guard (by rfl) ?_; dsimp only)); refine box_event ?hg (N := 9) ?hd (cs := #[.int .u64 0, .int .u16 0]) (t := 25) ?hr ?_; (case hd => rfl); (case hg => rfl); (case hr => first | (go_simp; done) | (go_simp; rfl)); intro gb166 hg w37 hbox hb; have n0_ := Aside0.mk (Kd.R_below (by (with_reducible repeat (first | apply Kd.R_alloc | apply Kd.R_drewN | apply Kd.R_drew)); exact HO144.out) hb); have n1_ := Aside0.mk (Kd.R_below (Kd.R_elderB (by (with_reducible repeat (first | apply Kd.R_alloc | apply Kd.R_drewN | apply Kd.R_drew)); exact HO150.out) gb166 (Nat.le_of_eq hg.symm)) hb); have n2_ := Aside0.mk (Kd.R_below (Kd.R_elderB (by (with_reducible repeat (first | apply Kd.R_alloc | apply Kd.R_drewN | apply Kd.R_drew)); exact HO157.out) gb166 (Nat.le_of_eq hg.symm)) hb); have n3_ := Aside0.mk (Kd.R_below (Kd.R_elderB (by (with_reducible repeat (first | apply Kd.R_alloc | apply Kd.R_drewN | apply Kd.R_drew)); exact HO164.out) gb166 (Nat.le_of_eq hg.symm)) hb); have n4_ := Aside0.mk (blk_below (g := gb141) (o := .cells #[.int .u64 4, .int .u16 2] 25 (0, 0)) (by (with_reducible repeat (first | refine blk_drewN ?_ _ | refine blk_drew ?_ | refine blk_alloc ?_ _)); exact BK141.out) hb); have n5_ := Aside0.mk (blk_below (g := gb145) (o := .cells #[.int .u64 0, .int .u16 1, .int .i64 0, .bool false, .slice none 0 0, .slice Ao19 y142.length co19, .slice none 0 0, .slice none 0 0, .slice none 0 0, .slice none 0 0, .slice none 0 0, .int .u32 0, .int .i64 0, .int .i64 0] 34 (0, 0)) (by (with_reducible repeat (first | refine blk_drewN ?_ _ | refine blk_drew ?_ | refine blk_alloc ?_ _)); exact BK145.out) hb); have n6_ := Aside0.mk (blk_below (g := gb152) (o := .cells #[.int .u64 t146, .int .u16 t147] 25 (0, 0)) (by (with_reducible repeat (first | refine blk_drewN ?_ _ | refine blk_drew ?_ | refine blk_alloc ?_ _)); exact BK152.out) hb); have n7_ := Aside0.mk (blk_below (g := gb159) (o := .cells #[.int .u64 t153, .int .u16 t154] 25 (0, 0)) (by (with_reducible repeat (first | refine blk_drewN ?_ _ | refine blk_drew ?_ | refine blk_alloc ?_ _)); exact BK159.out) hb); have n8_ := Aside0.mk (below_step (by repeat (first | (with_reducible first | exact HB.out | apply below_alloc | apply pw_below_drewN | apply below_drew1 | refine below_set ?_ GE141.out | refine below_set ?_ GE145.out | refine below_set ?_ GE152.out | refine below_set ?_ GE159.out) | exact HB.out)) hb); have n9_ := Aside0.mk (hbox); have n10_ := Aside0.mk ((by rw [hg]; exact (below_size (by repeat (first | (with_reducible first | exact HB.out | apply below_alloc | apply pw_below_drewN | apply below_drew1 | refine below_set ?_ GE141.out | refine below_set ?_ GE145.out | refine below_set ?_ GE152.out | refine below_set ?_ GE159.out) | exact HB.out))) : w.heap.size ≤ gb166)); have n11_ := Aside0.mk ((by rw [hg]; exact (below_size (by repeat (first | (with_reducible first | exact HB.out | apply below_alloc | apply pw_below_drewN | apply below_drew1 | refine below_set ?_ GE141.out | refine below_set ?_ GE145.out | refine below_set ?_ GE152.out | refine below_set ?_ GE159.out) | exact HB.out))) : w.heap.size ≤ gb166)); have n12_ := Aside0.mk ((by rw [hg]; exact Nat.ne_of_lt (blk_lt (g := gb141) (by (with_reducible repeat (first | refine blk_drewN ?_ _ | refine blk_drew ?_ | refine blk_alloc ?_ _)); exact BK141.out)) : gb141 ≠ gb166)); have n13_ := Aside0.mk ((by rw [hg]; exact Nat.ne_of_gt (blk_lt (g := gb141) (by (with_reducible repeat (first | refine blk_drewN ?_ _ | refine blk_drew ?_ | refine blk_alloc ?_ _)); exact BK141.out)) : gb166 ≠ gb141)); have n14_ := Aside0.mk ((by rw [hg]; exact Nat.ne_of_lt (blk_lt (g := gb145) (by (with_reducible repeat (first | refine blk_drewN ?_ _ | refine blk_drew ?_ | refine blk_alloc ?_ _)); exact BK145.out)) : gb145 ≠ gb166)); have n15_ := Aside0.mk ((by rw [hg]; exact Nat.ne_of_gt (blk_lt (g := gb145) (by (with_reducible repeat (first | refine blk_drewN ?_ _ | refine blk_drew ?_ | refine blk_alloc ?_ _)); exact BK145.out)) : gb166 ≠ gb145)); have n16_ := Aside0.mk ((by rw [hg]; exact Nat.ne_of_lt (blk_lt (g := gb152) (by (with_reducible repeat (first | refine blk_drewN ?_ _ | refine blk_drew ?_ | refine blk_alloc ?_ _)); exact BK152.out)) : gb152 ≠ gb166)); have n17_ := Aside0.mk ((by rw [hg]; exact Nat.ne_of_gt (blk_lt (g := gb152) (by (with_reducible repeat (first | refine blk_drewN ?_ _ | refine blk_drew ?_ | refine blk_alloc ?_ _)); exact BK152.out)) : gb166 ≠ gb152)); have n18_ := Aside0.mk ((by rw [hg]; exact Nat.ne_of_lt (blk_lt (g := gb159) (by (with_reducible repeat (first | refine blk_drewN ?_ _ | refine blk_drew ?_ | refine blk_alloc ?_ _)); exact BK159.out)) : gb159 ≠ gb166)); have n19_ := Aside0.mk ((by rw [hg]; exact Nat.ne_of_gt (blk_lt (g := gb159) (by (with_reducible repeat (first | refine blk_drewN ?_ _ | refine blk_drew ?_ | refine blk_alloc ?_ _)); exact BK159.out)) : gb166 ≠ gb159)); clear HO144; clear HO150; clear HO157; clear HO164; clear BK141; clear BK145; clear BK152; clear BK159; clear HB; have HO144 := n0_; have HO150 := n1_; have HO157 := n2_; have HO164 := n3_; have BK141 := n4_; have BK145 := n5_; have BK152 := n6_; have BK159 := n7_; have HB := n8_; have BK166 := n9_; have GW166 := n10_; have GE166 := n11_; have NB141_166 := n12_; have NB166_141 := n13_; have NB145_166 := n14_; have NB166_145 := n15_; have NB152_166 := n16_; have NB166_152 := n17_; have NB159_166 := n18_; have NB166_159 := n19_; clear n0_ n1_ n2_ n3_ n4_ n5_ n6_ n7_ n8_ n9_ n10_ n11_ n12_ n13_ n14_ n15_ n16_ n17_ n18_ n19_; clear hb hbox hg; have hnb38 := NB166_141.out; have hnc38 := NB141_166.out; have hnb39 := NB166_145.out; have hnc39 := NB145_166.out; have hnb40 := NB166_152.out; have hnc40 := NB152_166.out; have hnb41 := NB166_159.out; have hnc41 := NB159_166.out; obtain ⟨hcz42_0, hcz42_1, hfz42_0, hfz42_1⟩ := box2f (w := w37) (g := gb166) BK166.out))
          have n0_ : Aside0 (Kd.R k46 46 ((w37.setCell ⟨gb166, 0, none⟩ (.int .u64 t160)).setCell ⟨gb166, 1, none⟩ (.int .u16 t161)) w.heap.size (fun _ => True) (.slice Ao19 y142.length co19) y142) := ⟨by (with_reducible repeat (first | apply Kd.R_alloc | apply Kd.R_drewN | apply Kd.R_drew)); exact Kd.R_mono (Kd.R_far (p := ⟨gb166, 1, none⟩) (Kd.R_far (p := ⟨gb166, 0, none⟩) (Kd.R_types HO144.out BK166.out (by decide)) (fun _ hk => hk.2) (.int .u64 t160)) (fun _ hk => hk.2) (.int .u16 t161)) (fun _ hk => trivial)⟩
          have n1_ : Aside0 (Kd.R k25 25 ((w37.setCell ⟨gb166, 0, none⟩ (.int .u64 t160)).setCell ⟨gb166, 1, none⟩ (.int .u16 t161)) w.heap.size (fun k_ => some k_ ≠ (v156 : Value).ownBlock ∧ some k_ ≠ (v163 : Value).ownBlock ∧ k_ ≠ gb141 ∧ k_ ≠ gb152 ∧ k_ ≠ gb159 ∧ k_ ≠ gb166) v149 t148) := ⟨by (with_reducible repeat (first | apply Kd.R_alloc | apply Kd.R_drewN | apply Kd.R_drew)); exact Kd.R_mono (Kd.R_far (p := ⟨gb166, 1, none⟩) (Kd.R_far (p := ⟨gb166, 0, none⟩) (Kd.R_mono HO150.out (fun k_ hk => (⟨hk, hk.2⟩ : _ ∧ k_ ≠ gb166))) (fun _ hk => hk.2) (.int .u64 t160)) (fun _ hk => hk.2) (.int .u16 t161)) (fun _ hk => ⟨hk.1.1.1.1.2, ⟨hk.1.1.2, ⟨hk.1.1.1.1.1.1.2, ⟨hk.1.1.1.1.1.2, ⟨hk.1.1.1.2, hk.1.2⟩⟩⟩⟩⟩)⟩
          have n2_ : Aside0 (Kd.R k25 25 ((w37.setCell ⟨gb166, 0, none⟩ (.int .u64 t160)).setCell ⟨gb166, 1, none⟩ (.int .u16 t161)) w.heap.size (fun k_ => some k_ ≠ (v149 : Value).ownBlock ∧ some k_ ≠ (v163 : Value).ownBlock ∧ k_ ≠ gb141 ∧ k_ ≠ gb152 ∧ k_ ≠ gb159 ∧ k_ ≠ gb166) v156 t155) := ⟨by (with_reducible repeat (first | apply Kd.R_alloc | apply Kd.R_drewN | apply Kd.R_drew)); exact Kd.R_mono (Kd.R_far (p := ⟨gb166, 1, none⟩) (Kd.R_far (p := ⟨gb166, 0, none⟩) (Kd.R_mono HO157.out (fun k_ hk => (⟨hk, hk.2⟩ : _ ∧ k_ ≠ gb166))) (fun _ hk => hk.2) (.int .u64 t160)) (fun _ hk => hk.2) (.int .u16 t161)) (fun _ hk => ⟨hk.1.1.1.1.1.1.2, ⟨hk.1.1.2, ⟨hk.1.1.1.1.1.2, ⟨hk.1.1.1.1.2, ⟨hk.1.1.1.2, hk.1.2⟩⟩⟩⟩⟩)⟩
          have n3_ : Aside0 (Kd.R k25 25 ((w37.setCell ⟨gb166, 0, none⟩ (.int .u64 t160)).setCell ⟨gb166, 1, none⟩ (.int .u16 t161)) w.heap.size (fun k_ => some k_ ≠ (v149 : Value).ownBlock ∧ some k_ ≠ (v156 : Value).ownBlock ∧ k_ ≠ gb141 ∧ k_ ≠ gb152 ∧ k_ ≠ gb159 ∧ k_ ≠ gb166) v163 t162) := ⟨by (with_reducible repeat (first | apply Kd.R_alloc | apply Kd.R_drewN | apply Kd.R_drew)); exact Kd.R_mono (Kd.R_far (p := ⟨gb166, 1, none⟩) (Kd.R_far (p := ⟨gb166, 0, none⟩) (Kd.R_mono HO164.out (fun k_ hk => (⟨hk, hk.2⟩ : _ ∧ k_ ≠ gb166))) (fun _ hk => hk.2) (.int .u64 t160)) (fun _ hk => hk.2) (.int .u16 t161)) (fun _ hk => ⟨hk.1.1.1.1.1.1.2, ⟨hk.1.1.1.1.1.2, ⟨hk.1.1.1.1.2, ⟨hk.1.1.1.2, ⟨hk.1.1.2, hk.1.2⟩⟩⟩⟩⟩)⟩
          have n4_ : Aside0 (((w37.setCell ⟨gb166, 0, none⟩ (.int .u64 t160)).setCell ⟨gb166, 1, none⟩ (.int .u16 t161)).heap[gb141]? = some (.cells #[.int .u64 4, .int .u16 2] 25 (0, 0))) := ⟨by (with_reducible repeat (first | refine blk_drewN ?_ _ | refine blk_drew ?_ | refine blk_alloc ?_ _)); refine blk_far ?_ NB141_166.out _; (with_reducible repeat (first | refine blk_drewN ?_ _ | refine blk_drew ?_ | refine blk_alloc ?_ _)); refine blk_far ?_ NB141_166.out _; (with_reducible repeat (first | refine blk_drewN ?_ _ | refine blk_drew ?_ | refine blk_alloc ?_ _)); exact BK141.out⟩
          have n5_ : Aside0 (((w37.setCell ⟨gb166, 0, none⟩ (.int .u64 t160)).setCell ⟨gb166, 1, none⟩ (.int .u16 t161)).heap[gb145]? = some (.cells #[.int .u64 0, .int .u16 1, .int .i64 0, .bool false, .slice none 0 0, .slice Ao19 y142.length co19, .slice none 0 0, .slice none 0 0, .slice none 0 0, .slice none 0 0, .slice none 0 0, .int .u32 0, .int .i64 0, .int .i64 0] 34 (0, 0))) := ⟨by (with_reducible repeat (first | refine blk_drewN ?_ _ | refine blk_drew ?_ | refine blk_alloc ?_ _)); refine blk_far ?_ NB145_166.out _; (with_reducible repeat (first | refine blk_drewN ?_ _ | refine blk_drew ?_ | refine blk_alloc ?_ _)); refine blk_far ?_ NB145_166.out _; (with_reducible repeat (first | refine blk_drewN ?_ _ | refine blk_drew ?_ | refine blk_alloc ?_ _)); exact BK145.out⟩
          have n6_ : Aside0 (((w37.setCell ⟨gb166, 0, none⟩ (.int .u64 t160)).setCell ⟨gb166, 1, none⟩ (.int .u16 t161)).heap[gb152]? = some (.cells #[.int .u64 t146, .int .u16 t147] 25 (0, 0))) := ⟨by (with_reducible repeat (first | refine blk_drewN ?_ _ | refine blk_drew ?_ | refine blk_alloc ?_ _)); refine blk_far ?_ NB152_166.out _; (with_reducible repeat (first | refine blk_drewN ?_ _ | refine blk_drew ?_ | refine blk_alloc ?_ _)); refine blk_far ?_ NB152_166.out _; (with_reducible repeat (first | refine blk_drewN ?_ _ | refine blk_drew ?_ | refine blk_alloc ?_ _)); exact BK152.out⟩
          have n7_ : Aside0 (((w37.setCell ⟨gb166, 0, none⟩ (.int .u64 t160)).setCell ⟨gb166, 1, none⟩ (.int .u16 t161)).heap[gb159]? = some (.cells #[.int .u64 t153, .int .u16 t154] 25 (0, 0))) := ⟨by (with_reducible repeat (first | refine blk_drewN ?_ _ | refine blk_drew ?_ | refine blk_alloc ?_ _)); refine blk_far ?_ NB159_166.out _; (with_reducible repeat (first | refine blk_drewN ?_ _ | refine blk_drew ?_ | refine blk_alloc ?_ _)); refine blk_far ?_ NB159_166.out _; (with_reducible repeat (first | refine blk_drewN ?_ _ | refine blk_drew ?_ | refine blk_alloc ?_ _)); exact BK159.out⟩
          have n8_ : Aside0 (((w37.setCell ⟨gb166, 0, none⟩ (.int .u64 t160)).setCell ⟨gb166, 1, none⟩ (.int .u16 t161)).heap[gb166]? = some (.cells #[.int .u64 t160, .int .u16 t161] 25 (0, 0))) := ⟨by (with_reducible repeat (first | refine blk_drewN ?_ _ | refine blk_drew ?_ | refine blk_alloc ?_ _)); refine blk_put (cs := #[.int .u64 t160, .int .u16 0]) ?_ 1 _ rfl; (with_reducible repeat (first | refine blk_drewN ?_ _ | refine blk_drew ?_ | refine blk_alloc ?_ _)); refine blk_put (cs := #[.int .u64 0, .int .u16 0]) ?_ 0 _ rfl; (with_reducible repeat (first | refine blk_drewN ?_ _ | refine blk_drew ?_ | refine blk_alloc ?_ _)); exact BK166.out⟩
          have n9_ : Aside0 (Below w.heap.size w ((w37.setCell ⟨gb166, 0, none⟩ (.int .u64 t160)).setCell ⟨gb166, 1, none⟩ (.int .u16 t161))) := ⟨by repeat (first | (with_reducible first | exact HB.out | apply below_alloc | apply pw_below_drewN | apply below_drew1 | refine below_set ?_ GE141.out | refine below_set ?_ GE145.out | refine below_set ?_ GE152.out | refine below_set ?_ GE159.out | refine below_set ?_ GE166.out) | exact HB.out)⟩
          (try clear HO144)
          (try clear HO150)
          (try clear HO157)
          (try clear HO164)
          (try clear BK141)
          (try clear BK145)
          (try clear BK152)
          (try clear BK159)
          (try clear BK166)
          (try clear HB)
          generalize ((w37.setCell ⟨gb166, 0, none⟩ (.int .u64 t160)).setCell ⟨gb166, 1, none⟩ (.int .u16 t161)) = w43 at n0_ n1_ n2_ n3_ n4_ n5_ n6_ n7_ n8_ n9_ ⊢
          have HO144 := n0_
          have HO150 := n1_
          have HO157 := n2_
          have HO164 := n3_
          have BK141 := n4_
          have BK145 := n5_
          have BK152 := n6_
          have BK159 := n7_
          have BK166 := n8_
          have HB := n9_
          clear n0_ n1_ n2_ n3_ n4_ n5_ n6_ n7_ n8_ n9_
          have n0_ := Aside0.mk (Kd.R_drew HO144.out)
          have n1_ := Aside0.mk (Kd.R_drew HO150.out)
          have n2_ := Aside0.mk (Kd.R_drew HO157.out)
          have n3_ := Aside0.mk (Kd.R_drew HO164.out)
          have n4_ := Aside0.mk (blk_drew BK141.out)
          have n5_ := Aside0.mk (blk_drew BK145.out)
          have n6_ := Aside0.mk (blk_drew BK152.out)
          have n7_ := Aside0.mk (blk_drew BK159.out)
          have n8_ := Aside0.mk (blk_drew BK166.out)
          have n9_ := Aside0.mk (below_drew1 HB.out)
          clear HO144
          clear HO150
          clear HO157
          clear HO164
          clear BK141
          clear BK145
          clear BK152
          clear BK159
          clear BK166
          clear HB
          have HO144 := n0_
          have HO150 := n1_
          have HO157 := n2_
          have HO164 := n3_
          have BK141 := n4_
          have BK145 := n5_
          have BK152 := n6_
          have BK159 := n7_
          have BK166 := n8_
          have HB := n9_
          clear n0_ n1_ n2_ n3_ n4_ n5_ n6_ n7_ n8_ n9_
          obtain ⟨Ao45, co45, eo45⟩ := Kd.R_slice HO157.out
          (first | subst eo45 | (injection eo45 with f1_ f2_ f3_; have f4_ := f1_.symm; have f5_ := f3_.symm; clear f1_ f2_ f3_; subst f4_; subst f5_))
          have p167 : 0 ≤ (0 : Int) := (by omega)
          have q167 : 0 < (t155.length : Int) := of_decide_eq_true (by first | (with_reducible assumption) | assumption)
          obtain ⟨ad167, e167, hx167_0, hx167_1⟩ := at_T25 (Kd.R_reads' HO157.out).2.2 0 p167 q167
          cases e167
          have qi167 : (0 < t155.length) = True := eq_true (by omega)
          (try rw [show ((0 : Int)).toNat = 0 from rfl] at hx167_0)
          (try rw [show 0 * 2 = 0 from rfl] at hx167_0)
          (try rw [Addr.add_zero'] at hx167_0)
          (try rw [show ((0 : Int)).toNat = 0 from rfl] at hx167_1)
          (try rw [show 0 * 2 = 0 from rfl] at hx167_1)
          (try rw [Addr.add_zero'] at hx167_1)
          replace p167 := eq_true p167
          replace q167 := eq_true q167
          refine start_ (n := 40) (S := fun w' => w'.cell? ⟨gb152, 0, none⟩ = some (.int .u64 t146) ∧ w'.cell? ⟨gb152, 1, none⟩ = some (.int .u16 t147) ∧ w'.cell? ⟨gb141, 0, none⟩ = some (.int .u64 4) ∧ w'.cell? ⟨gb141, 1, none⟩ = some (.int .u16 2) ∧ w'.cell? ⟨gb166, 0, none⟩ = some (.int .u64 t160) ∧ w'.cell? ⟨gb166, 1, none⟩ = some (.int .u16 t161) ∧ w'.cell? ⟨gb145, 0, none⟩ = some (.int .u64 0) ∧ w'.cell? ⟨gb145, 1, none⟩ = some (.int .u16 1) ∧ w'.cell? ⟨gb145, 2, none⟩ = some (.int .i64 0) ∧ w'.cell? ⟨gb145, 3, none⟩ = some (.bool false) ∧ w'.cell? ⟨gb145, 4, none⟩ = some (.slice none 0 0) ∧ w'.cell? ⟨gb145, 5, none⟩ = some (.slice Ao19 y142.length co19) ∧ w'.cell? ⟨gb145, 6, none⟩ = some (.slice none 0 0) ∧ w'.cell? ⟨gb145, 7, none⟩ = some (.slice none 0 0) ∧ w'.cell? ⟨gb145, 8, none⟩ = some (.slice none 0 0) ∧ w'.cell? ⟨gb145, 9, none⟩ = some (.slice none 0 0) ∧ w'.cell? ⟨gb145, 10, none⟩ = some (.slice none 0 0) ∧ w'.cell? ⟨gb145, 11, none⟩ = some (.int .u32 0) ∧ w'.cell? ⟨gb145, 12, none⟩ = some (.int .i64 0) ∧ w'.cell? ⟨gb145, 13, none⟩ = some (.int .i64 0) ∧ w'.cell? ad167 = some (.int .u64 ((rd_T25 t155 0).f0)) ∧ w'.cell? ⟨ad167.block, ad167.off + 1, none⟩ = some (.int .u16 ((rd_T25 t155 0).f1))) (ds := []) #[F',F',F',F',F',F',F',F',F',F',F',F',F',F',F',F',F',F',F',F',F',F',F',F',F',F',F',F',F',F',F',F',F',F',F',F',F',F',F',F'] (by kernel_rfl) rfl rfl ⟨(blk_cell BK152.out 0).trans rfl, (blk_cell BK152.out 1).trans rfl, (blk_cell BK141.out 0).trans rfl, (blk_cell BK141.out 1).trans rfl, (blk_cell BK166.out 0).trans rfl, (blk_cell BK166.out 1).trans rfl, (blk_cell BK145.out 0).trans rfl, (blk_cell BK145.out 1).trans rfl, (blk_cell BK145.out 2).trans rfl, (blk_cell BK145.out 3).trans rfl, (blk_cell BK145.out 4).trans rfl, (blk_cell BK145.out 5).trans rfl, (blk_cell BK145.out 6).trans rfl, (blk_cell BK145.out 7).trans rfl, (blk_cell BK145.out 8).trans rfl, (blk_cell BK145.out 9).trans rfl, (blk_cell BK145.out 10).trans rfl, (blk_cell BK145.out 11).trans rfl, (blk_cell BK145.out 12).trans rfl, (blk_cell BK145.out 13).trans rfl, hx167_0, hx167_1⟩ (fun hHeld => ?_); refine with_tabW annuletlaw32_awake.tab6 annuletlaw32_awake.bits6 (fun HT_ HW_ => ?_)
          generalize w43.drew = w44 at HO144 HO150 HO157 HO164 BK141 BK145 BK152 BK159 BK166 HB hx167_0 hx167_1 hHeld ⊢
          refine take_ (i := 0) (N := some 37) (v := ?_) (a' := ?_) #[T',F',F',F',F',F',F',F',F',F',F',F',F',F',F',F',F',F',F',F',F',F',F',F',F',F',F',F',F',F',F',F',F',F',F',F',F',F',F',F'] rfl rfl (take_ofW HT_.out HW_.out (by kernel_rfl)) (fun _ _ _ h => h) (Or.inl ⟨by rfl, ?_⟩) hHeld ?_ ?_
          rotate_left
          ·rintro w' ⟨s0, s1, s2, s3, s4, s5, s6, s7, s8, s9, s10, s11, s12, s13, s14, s15, s16, s17, s18, s19, s20, s21⟩
           go_simp
           with_reducible rfl
          rotate_left
          ·simp only [Act.put, la_, lz_, ls_, i64_w, i32_w]
           rfl
          refine take_ (i := 1) (N := some 38) (v := ?_) (a' := ?_) #[T',T',F',F',F',F',F',F',F',F',F',F',F',F',F',F',F',F',F',F',F',F',F',F',F',F',F',F',F',F',F',F',F',F',F',F',F',F',F',F'] rfl rfl (take_ofW HT_.out HW_.out (by kernel_rfl)) (fun _ _ _ h => h) (Or.inl ⟨by rfl, ?_⟩) hHeld ?_ ?_
          rotate_left
          ·rintro w' ⟨s0, s1, s2, s3, s4, s5, s6, s7, s8, s9, s10, s11, s12, s13, s14, s15, s16, s17, s18, s19, s20, s21⟩
           go_simp
           with_reducible rfl
          rotate_left
          ·simp only [Act.put, la_, lz_, ls_, i64_w, i32_w]
           rfl
          refine pure_ (i := 2) (N := some 39) (v := ?_) (a' := ?_) #[T',T',T',F',F',F',F',F',F',F',F',F',F',F',F',F',F',F',F',F',F',F',F',F',F',F',F',F',F',F',F',F',F',F',F',F',F',F',F',F'] rfl rfl (any_of HT_.out (by kernel_rfl)) (fun _ _ _ h => h) (Or.inl ⟨by rfl, ?_⟩) ?_ ?_
          rotate_left
          ·intro w'
           go_simp
           with_reducible rfl
          rotate_left
          ·simp only [Act.put, la_, lz_, ls_, i64_w, i32_w]
           rfl
          refine pure_ (i := 3) (N := some 40) (v := ?_) (a' := ?_) #[T',T',T',T',F',F',F',F',F',F',F',F',F',F',F',F',F',F',F',F',F',F',F',F',F',F',F',F',F',F',F',F',F',F',F',F',F',F',F',F'] rfl rfl (any_of HT_.out (by kernel_rfl)) (fun _ _ _ h => h) (Or.inl ⟨by rfl, ?_⟩) ?_ ?_
          rotate_left
          ·intro w'
           go_simp
           with_reducible rfl
          rotate_left
          ·simp only [Act.put, la_, lz_, ls_, i64_w, i32_w]
           rfl
          refine pure_ (i := 4) (N := some 41) (v := ?_) (a' := ?_) #[T',T',T',T',T',F',F',F',F',F',F',F',F',F',F',F',F',F',F',F',F',F',F',F',F',F',F',F',F',F',F',F',F',F',F',F',F',F',F',F'] rfl rfl (any_of HT_.out (by kernel_rfl)) (fun _ _ _ h => h) (Or.inl ⟨by rfl, ?_⟩) ?_ ?_
          rotate_left
          ·intro w'
           go_simp
           with_reducible rfl
          rotate_left
          ·simp only [Act.put, la_, lz_, ls_, i64_w, i32_w]
           rfl
          refine pure_ (i := 5) (N := some 42) (v := ?_) (a' := ?_) #[T',T',T',T',T',T',F',F',F',F',F',F',F',F',F',F',F',F',F',F',F',F',F',F',F',F',F',F',F',F',F',F',F',F',F',F',F',F',F',F'] rfl rfl (any_of HT_.out (by kernel_rfl)) (fun _ _ _ h => h) (Or.inl ⟨by rfl, ?_⟩) ?_ ?_
          rotate_left
          ·intro w'
           go_simp
           with_reducible rfl
          rotate_left
          ·simp only [Act.put, la_, lz_, ls_, i64_w, i32_w]
           rfl
          refine pure_ (i := 6) (N := some 43) (v := ?_) (a' := ?_) #[T',T',T',T',T',T',T',F',F',F',F',F',F',F',F',F',F',F',F',F',F',F',F',F',F',F',F',F',F',F',F',F',F',F',F',F',F',F',F',F'] rfl rfl (any_of HT_.out (by kernel_rfl)) (fun _ _ _ h => h) (Or.inl ⟨by rfl, ?_⟩) ?_ ?_
          rotate_left
          ·intro w'
           go_simp
           with_reducible rfl
          rotate_left
          ·simp only [Act.put, la_, lz_, ls_, i64_w, i32_w]
           rfl
          refine pure_ (i := 7) (N := some 44) (v := ?_) (a' := ?_) #[T',T',T',T',T',T',T',T',F',F',F',F',F',F',F',F',F',F',F',F',F',F',F',F',F',F',F',F',F',F',F',F',F',F',F',F',F',F',F',F'] rfl rfl (any_of HT_.out (by kernel_rfl)) (fun _ _ _ h => h) (Or.inl ⟨by rfl, ?_⟩) ?_ ?_
          rotate_left
          ·intro w'
           go_simp
           with_reducible rfl
          rotate_left
          ·simp only [Act.put, la_, lz_, ls_, i64_w, i32_w]
           rfl
          refine pure_ (i := 8) (N := some 45) (v := ?_) (a' := ?_) #[T',T',T',T',T',T',T',T',T',F',F',F',F',F',F',F',F',F',F',F',F',F',F',F',F',F',F',F',F',F',F',F',F',F',F',F',F',F',F',F'] rfl rfl (any_of HT_.out (by kernel_rfl)) (fun _ _ _ h => h) (Or.inl ⟨by rfl, ?_⟩) ?_ ?_
          rotate_left
          ·intro w'
           go_simp
           with_reducible rfl
          rotate_left
          ·simp only [Act.put, la_, lz_, ls_, i64_w, i32_w]
           rfl
          refine pure_ (i := 9) (N := some 46) (v := ?_) (a' := ?_) #[T',T',T',T',T',T',T',T',T',T',F',F',F',F',F',F',F',F',F',F',F',F',F',F',F',F',F',F',F',F',F',F',F',F',F',F',F',F',F',F'] rfl rfl (any_of HT_.out (by kernel_rfl)) (fun _ _ _ h => h) (Or.inl ⟨by rfl, ?_⟩) ?_ ?_
          rotate_left
          ·intro w'
           go_simp
           with_reducible rfl
          rotate_left
          ·simp only [Act.put, la_, lz_, ls_, i64_w, i32_w]
           rfl
          refine pure_ (i := 10) (N := some 47) (v := ?_) (a' := ?_) #[T',T',T',T',T',T',T',T',T',T',T',F',F',F',F',F',F',F',F',F',F',F',F',F',F',F',F',F',F',F',F',F',F',F',F',F',F',F',F',F'] rfl rfl (any_of HT_.out (by kernel_rfl)) (fun _ _ _ h => h) (Or.inl ⟨by rfl, ?_⟩) ?_ ?_
          rotate_left
          ·intro w'
           go_simp
           with_reducible rfl
          rotate_left
          ·simp only [Act.put, la_, lz_, ls_, i64_w, i32_w]
           rfl
          refine pure_ (i := 11) (N := some 48) (v := ?_) (a' := ?_) #[T',T',T',T',T',T',T',T',T',T',T',T',F',F',F',F',F',F',F',F',F',F',F',F',F',F',F',F',F',F',F',F',F',F',F',F',F',F',F',F'] rfl rfl (any_of HT_.out (by kernel_rfl)) (fun _ _ _ h => h) (Or.inl ⟨by rfl, ?_⟩) ?_ ?_
          rotate_left
          ·intro w'
           go_simp
           with_reducible rfl
          rotate_left
          ·simp only [Act.put, la_, lz_, ls_, i64_w, i32_w]
           rfl
          refine pure_ (i := 12) (N := some 49) (v := ?_) (a' := ?_) #[T',T',T',T',T',T',T',T',T',T',T',T',T',F',F',F',F',F',F',F',F',F',F',F',F',F',F',F',F',F',F',F',F',F',F',F',F',F',F',F'] rfl rfl (any_of HT_.out (by kernel_rfl)) (fun _ _ _ h => h) (Or.inl ⟨by rfl, ?_⟩) ?_ ?_
          rotate_left
          ·intro w'
           go_simp
           with_reducible rfl
          rotate_left
          ·simp only [Act.put, la_, lz_, ls_, i64_w, i32_w]
           rfl
          refine pure_ (i := 13) (N := some 50) (v := ?_) (a' := ?_) #[T',T',T',T',T',T',T',T',T',T',T',T',T',T',F',F',F',F',F',F',F',F',F',F',F',F',F',F',F',F',F',F',F',F',F',F',F',F',F',F'] rfl rfl (any_of HT_.out (by kernel_rfl)) (fun _ _ _ h => h) (Or.inl ⟨by rfl, ?_⟩) ?_ ?_
          rotate_left
          ·intro w'
           go_simp
           with_reducible rfl
          rotate_left
          ·simp only [Act.put, la_, lz_, ls_, i64_w, i32_w]
           rfl
          refine take_ (i := 14) (N := some 51) (v := ?_) (a' := ?_) #[T',T',T',T',T',T',T',T',T',T',T',T',T',T',T',F',F',F',F',F',F',F',F',F',F',F',F',F',F',F',F',F',F',F',F',F',F',F',F',F'] rfl rfl (take_ofW HT_.out HW_.out (by kernel_rfl)) (fun _ _ _ h => h) (Or.inl ⟨by rfl, ?_⟩) hHeld ?_ ?_
          rotate_left
          ·rintro w' ⟨s0, s1, s2, s3, s4, s5, s6, s7, s8, s9, s10, s11, s12, s13, s14, s15, s16, s17, s18, s19, s20, s21⟩
           go_simp
           with_reducible rfl
          rotate_left
          ·simp only [Act.put, la_, lz_, ls_, i64_w, i32_w]
           rfl
          refine take_ (i := 15) (N := some 52) (v := ?_) (a' := ?_) #[T',T',T',T',T',T',T',T',T',T',T',T',T',T',T',T',F',F',F',F',F',F',F',F',F',F',F',F',F',F',F',F',F',F',F',F',F',F',F',F'] rfl rfl (take_ofW HT_.out HW_.out (by kernel_rfl)) (fun _ _ _ h => h) (Or.inl ⟨by rfl, ?_⟩) hHeld ?_ ?_
          rotate_left
          ·rintro w' ⟨s0, s1, s2, s3, s4, s5, s6, s7, s8, s9, s10, s11, s12, s13, s14, s15, s16, s17, s18, s19, s20, s21⟩
           go_simp
           with_reducible rfl
          rotate_left
          ·simp only [Act.put, la_, lz_, ls_, i64_w, i32_w]
           rfl
          refine pure_ (i := 16) (N := some 53) (v := ?_) (a' := ?_) #[T',T',T',T',T',T',T',T',T',T',T',T',T',T',T',T',T',F',F',F',F',F',F',F',F',F',F',F',F',F',F',F',F',F',F',F',F',F',F',F'] rfl rfl (any_of HT_.out (by kernel_rfl)) (fun _ _ _ h => h) (Or.inl ⟨by rfl, ?_⟩) ?_ ?_
          rotate_left
          ·intro w'
           go_simp
           with_reducible rfl
          rotate_left
          ·simp only [Act.put, la_, lz_, ls_, i64_w, i32_w]
           rfl
          refine pure_ (i := 17) (N := some 54) (v := ?_) (a' := ?_) #[T',T',T',T',T',T',T',T',T',T',T',T',T',T',T',T',T',T',F',F',F',F',F',F',F',F',F',F',F',F',F',F',F',F',F',F',F',F',F',F'] rfl rfl (any_of HT_.out (by kernel_rfl)) (fun _ _ _ h => h) (Or.inl ⟨by rfl, ?_⟩) ?_ ?_
          rotate_left
          ·intro w'
           go_simp
           with_reducible rfl
          rotate_left
          ·simp only [Act.put, la_, lz_, ls_, i64_w, i32_w]
           rfl
          refine pure_ (i := 18) (N := some 55) (v := ?_) (a' := ?_) #[T',T',T',T',T',T',T',T',T',T',T',T',T',T',T',T',T',T',T',F',F',F',F',F',F',F',F',F',F',F',F',F',F',F',F',F',F',F',F',F'] rfl rfl (any_of HT_.out (by kernel_rfl)) (fun _ _ _ h => h) (Or.inl ⟨by rfl, ?_⟩) ?_ ?_
          rotate_left
          ·intro w'
           go_simp
           with_reducible rfl
          rotate_left
          ·simp only [Act.put, la_, lz_, ls_, i64_w, i32_w]
           rfl
          refine pure_ (i := 19) (N := some 56) (v := ?_) (a' := ?_) #[T',T',T',T',T',T',T',T',T',T',T',T',T',T',T',T',T',T',T',T',F',F',F',F',F',F',F',F',F',F',F',F',F',F',F',F',F',F',F',F'] rfl rfl (any_of HT_.out (by kernel_rfl)) (fun _ _ _ h => h) (Or.inl ⟨by rfl, ?_⟩) ?_ ?_
          rotate_left
          ·intro w'
           go_simp
           with_reducible rfl
          rotate_left
          ·simp only [Act.put, la_, lz_, ls_, i64_w, i32_w]
           rfl
          refine pure_ (i := 20) (N := some 57) (v := ?_) (a' := ?_) #[T',T',T',T',T',T',T',T',T',T',T',T',T',T',T',T',T',T',T',T',T',F',F',F',F',F',F',F',F',F',F',F',F',F',F',F',F',F',F',F'] rfl rfl (any_of HT_.out (by kernel_rfl)) (fun _ _ _ h => h) (Or.inl ⟨by rfl, ?_⟩) ?_ ?_
          rotate_left
          ·intro w'
           go_simp
           with_reducible rfl
          rotate_left
          ·simp only [Act.put, la_, lz_, ls_, i64_w, i32_w]
           rfl
          refine pure_ (i := 21) (N := some 58) (v := ?_) (a' := ?_) #[T',T',T',T',T',T',T',T',T',T',T',T',T',T',T',T',T',T',T',T',T',T',F',F',F',F',F',F',F',F',F',F',F',F',F',F',F',F',F',F'] rfl rfl (any_of HT_.out (by kernel_rfl)) (fun _ _ _ h => h) (Or.inl ⟨by rfl, ?_⟩) ?_ ?_
          rotate_left
          ·intro w'
           go_simp
           with_reducible rfl
          rotate_left
          ·simp only [Act.put, la_, lz_, ls_, i64_w, i32_w]
           rfl
          refine pure_ (i := 22) (N := some 59) (v := ?_) (a' := ?_) #[T',T',T',T',T',T',T',T',T',T',T',T',T',T',T',T',T',T',T',T',T',T',T',F',F',F',F',F',F',F',F',F',F',F',F',F',F',F',F',F'] rfl rfl (any_of HT_.out (by kernel_rfl)) (fun _ _ _ h => h) (Or.inl ⟨by rfl, ?_⟩) ?_ ?_
          rotate_left
          ·intro w'
           go_simp
           with_reducible rfl
          rotate_left
          ·simp only [Act.put, la_, lz_, ls_, i64_w, i32_w]
           rfl
          refine take_ (i := 23) (N := some 60) (v := ?_) (a' := ?_) #[T',T',T',T',T',T',T',T',T',T',T',T',T',T',T',T',T',T',T',T',T',T',T',T',F',F',F',F',F',F',F',F',F',F',F',F',F',F',F',F'] rfl rfl (take_ofW HT_.out HW_.out (by kernel_rfl)) (fun _ _ _ h => h) (Or.inl ⟨by rfl, ?_⟩) hHeld ?_ ?_
          rotate_left
          ·rintro w' ⟨s0, s1, s2, s3, s4, s5, s6, s7, s8, s9, s10, s11, s12, s13, s14, s15, s16, s17, s18, s19, s20, s21⟩
           go_simp
           with_reducible rfl
          rotate_left
          ·simp only [Act.put, la_, lz_, ls_, i64_w, i32_w]
           rfl
          refine take_ (i := 24) (N := some 61) (v := ?_) (a' := ?_) #[T',T',T',T',T',T',T',T',T',T',T',T',T',T',T',T',T',T',T',T',T',T',T',T',T',F',F',F',F',F',F',F',F',F',F',F',F',F',F',F'] rfl rfl (take_ofW HT_.out HW_.out (by kernel_rfl)) (fun _ _ _ h => h) (Or.inl ⟨by rfl, ?_⟩) hHeld ?_ ?_
          rotate_left
          ·rintro w' ⟨s0, s1, s2, s3, s4, s5, s6, s7, s8, s9, s10, s11, s12, s13, s14, s15, s16, s17, s18, s19, s20, s21⟩
           go_simp
           with_reducible rfl
          rotate_left
          ·simp only [Act.put, la_, lz_, ls_, i64_w, i32_w]
           rfl
          refine pure_ (i := 25) (N := some 62) (v := ?_) (a' := ?_) #[T',T',T',T',T',T',T',T',T',T',T',T',T',T',T',T',T',T',T',T',T',T',T',T',T',T',F',F',F',F',F',F',F',F',F',F',F',F',F',F'] rfl rfl (any_of HT_.out (by kernel_rfl)) (fun _ _ _ h => h) (Or.inl ⟨by rfl, ?_⟩) ?_ ?_
          rotate_left
          ·intro w'
           go_simp
           with_reducible rfl
          rotate_left
          ·simp only [Act.put, la_, lz_, ls_, i64_w, i32_w]
           rfl
          refine pure_ (i := 26) (N := some 63) (v := ?_) (a' := ?_) #[T',T',T',T',T',T',T',T',T',T',T',T',T',T',T',T',T',T',T',T',T',T',T',T',T',T',T',F',F',F',F',F',F',F',F',F',F',F',F',F'] rfl rfl (any_of HT_.out (by kernel_rfl)) (fun _ _ _ h => h) (Or.inl ⟨by rfl, ?_⟩) ?_ ?_
          rotate_left
          ·intro w'
           go_simp
           with_reducible rfl
          rotate_left
          ·simp only [Act.put, la_, lz_, ls_, i64_w, i32_w]
           rfl
          refine pure_ (i := 27) (N := some 64) (v := ?_) (a' := ?_) #[T',T',T',T',T',T',T',T',T',T',T',T',T',T',T',T',T',T',T',T',T',T',T',T',T',T',T',T',F',F',F',F',F',F',F',F',F',F',F',F'] rfl rfl (any_of HT_.out (by kernel_rfl)) (fun _ _ _ h => h) (Or.inl ⟨by rfl, ?_⟩) ?_ ?_
          rotate_left
          ·intro w'
           go_simp
           with_reducible rfl
          rotate_left
          ·simp only [Act.put, la_, lz_, ls_, i64_w, i32_w]
           rfl
          refine pure_ (i := 28) (N := some 65) (v := ?_) (a' := ?_) #[T',T',T',T',T',T',T',T',T',T',T',T',T',T',T',T',T',T',T',T',T',T',T',T',T',T',T',T',T',F',F',F',F',F',F',F',F',F',F',F'] rfl rfl (any_of HT_.out (by kernel_rfl)) (fun _ _ _ h => h) (Or.inl ⟨by rfl, ?_⟩) ?_ ?_
          rotate_left
          ·intro w'
           go_simp
           with_reducible rfl
          rotate_left
          ·simp only [Act.put, la_, lz_, ls_, i64_w, i32_w]
           rfl
          refine pure_ (i := 29) (N := some 66) (v := ?_) (a' := ?_) #[T',T',T',T',T',T',T',T',T',T',T',T',T',T',T',T',T',T',T',T',T',T',T',T',T',T',T',T',T',T',F',F',F',F',F',F',F',F',F',F'] rfl rfl (any_of HT_.out (by kernel_rfl)) (fun _ _ _ h => h) (Or.inl ⟨by rfl, ?_⟩) ?_ ?_
          rotate_left
          ·intro w'
           go_simp
           with_reducible rfl
          rotate_left
          ·simp only [Act.put, la_, lz_, ls_, i64_w, i32_w]
           rfl
          refine pure_ (i := 30) (N := some 67) (v := ?_) (a' := ?_) #[T',T',T',T',T',T',T',T',T',T',T',T',T',T',T',T',T',T',T',T',T',T',T',T',T',T',T',T',T',T',T',F',F',F',F',F',F',F',F',F'] rfl rfl (any_of HT_.out (by kernel_rfl)) (fun _ _ _ h => h) (Or.inl ⟨by rfl, ?_⟩) ?_ ?_
          rotate_left
          ·intro w'
           go_simp
           with_reducible rfl
          rotate_left
          ·simp only [Act.put, la_, lz_, ls_, i64_w, i32_w]
           rfl
          refine take_ (i := 31) (N := some 68) (v := ?_) (a' := ?_) #[T',T',T',T',T',T',T',T',T',T',T',T',T',T',T',T',T',T',T',T',T',T',T',T',T',T',T',T',T',T',T',T',F',F',F',F',F',F',F',F'] rfl rfl (take_ofW HT_.out HW_.out (by kernel_rfl)) (fun _ _ _ h => h) (Or.inl ⟨by rfl, ?_⟩) hHeld ?_ ?_
          rotate_left
          ·rintro w' ⟨s0, s1, s2, s3, s4, s5, s6, s7, s8, s9, s10, s11, s12, s13, s14, s15, s16, s17, s18, s19, s20, s21⟩
           go_simp
           with_reducible rfl
          rotate_left
          ·simp only [Act.put, la_, lz_, ls_, i64_w, i32_w]
           rfl
          refine one_ (i := 32) (N := some 69) #[T',T',T',T',T',T',T',T',T',T',T',T',T',T',T',T',T',T',T',T',T',T',T',T',T',T',T',T',T',T',T',T',T',F',F',F',F',F',F',F'] rfl rfl (one_of HT_.out (by kernel_rfl)) (by decide) (fun K hK => ?_)
          refine goes_ Try.func11 (by kernel_rfl) rfl #[.agg #[.int .u64 0, .int .u16 1, .int .i64 0, .bool false, .slice none 0 0, .slice Ao19 y142.length co19, .slice none 0 0, .slice none 0 0, .slice none 0 0, .slice none 0 0, .slice none 0 0, .int .u32 0, .int .i64 0, .int .i64 0], .int .u64 0] (by rfl) rfl rfl (by (try simp only [List.map_toArray, List.map_cons, List.map_nil]); first | done | rfl | (simp only [List.length_drop, List.length_take]; rfl)) ?_
          refine (route_Mine.calls k 0 1 0 false _ _ ([] : List (S46)) _ _ y142 _ _ ([] : List (S63)) _ _ ([] : List (S61)) _ _ ([] : List (S114)) _ _ ([] : List (S50)) _ _ ([] : List (S53)) 0 0 0 0 true _ ?side1 ?side2 ?side3 ?side4 ?side5 ?side6 ?side7 ?side8 ?side9 ?side10 ?side11 ?side12 ?side13 ?side14 A12.out).mono ?_
          (case side1 => exact Kd.C_nil _ _)
          (case side2 => exact Nat.le_refl _)
          (case side3 => repeat (first | exact (Kd.R_reads' HO144.out).2.2 | (with_reducible refine Kd.C_alloc ?_ _) | (with_reducible refine Kd.C_drewN ?_ _) | (with_reducible refine Kd.C_drew ?_)))
          (case side4 => exact (Kd.R_reads' HO144.out).2.1)
          (case side5 => exact Kd.C_nil _ _)
          (case side6 => exact Nat.le_refl _)
          (case side7 => exact Kd.C_nil _ _)
          (case side8 => exact Nat.le_refl _)
          (case side9 => exact Kd.C_nil _ _)
          (case side10 => exact Nat.le_refl _)
          (case side11 => exact Kd.C_nil _ _)
          (case side12 => exact Nat.le_refl _)
          (case side13 => exact Kd.C_nil _ _)
          (case side14 => exact Nat.le_refl _)
          rintro e w46 ⟨rfl, hb⟩
          have HS20_ := (hb.cell (World.block_lt_of_cell? _ _ (hHeld.2.2.2.2.2.2.2.2.2.2.2.2.2.2.2.2.2.2.2.2.1))).trans (hHeld.2.2.2.2.2.2.2.2.2.2.2.2.2.2.2.2.2.2.2.2.1)
          have HS21_ := (hb.cell (World.block_lt_of_cell? _ _ (hHeld.2.2.2.2.2.2.2.2.2.2.2.2.2.2.2.2.2.2.2.2.2))).trans (hHeld.2.2.2.2.2.2.2.2.2.2.2.2.2.2.2.2.2.2.2.2.2)
          refine ⟨_, rfl, ?_⟩
          have n0_ := Aside0.mk (Kd.R_below (by (with_reducible repeat (first | apply Kd.R_alloc | apply Kd.R_drewN | apply Kd.R_drew)); exact HO144.out) hb)
          have n1_ := Aside0.mk (Kd.R_below (by (with_reducible repeat (first | apply Kd.R_alloc | apply Kd.R_drewN | apply Kd.R_drew)); exact HO150.out) hb)
          have n2_ := Aside0.mk (Kd.R_below (by (with_reducible repeat (first | apply Kd.R_alloc | apply Kd.R_drewN | apply Kd.R_drew)); exact HO157.out) hb)
          have n3_ := Aside0.mk (Kd.R_below (by (with_reducible repeat (first | apply Kd.R_alloc | apply Kd.R_drewN | apply Kd.R_drew)); exact HO164.out) hb)
          have n4_ := Aside0.mk (blk_below (g := gb141) (o := .cells #[.int .u64 4, .int .u16 2] 25 (0, 0)) (by (with_reducible repeat (first | refine blk_drewN ?_ _ | refine blk_drew ?_ | refine blk_alloc ?_ _)); exact BK141.out) hb)
          have n5_ := Aside0.mk (blk_below (g := gb145) (o := .cells #[.int .u64 0, .int .u16 1, .int .i64 0, .bool false, .slice none 0 0, .slice Ao19 y142.length co19, .slice none 0 0, .slice none 0 0, .slice none 0 0, .slice none 0 0, .slice none 0 0, .int .u32 0, .int .i64 0, .int .i64 0] 34 (0, 0)) (by (with_reducible repeat (first | refine blk_drewN ?_ _ | refine blk_drew ?_ | refine blk_alloc ?_ _)); exact BK145.out) hb)
          have n6_ := Aside0.mk (blk_below (g := gb152) (o := .cells #[.int .u64 t146, .int .u16 t147] 25 (0, 0)) (by (with_reducible repeat (first | refine blk_drewN ?_ _ | refine blk_drew ?_ | refine blk_alloc ?_ _)); exact BK152.out) hb)
          have n7_ := Aside0.mk (blk_below (g := gb159) (o := .cells #[.int .u64 t153, .int .u16 t154] 25 (0, 0)) (by (with_reducible repeat (first | refine blk_drewN ?_ _ | refine blk_drew ?_ | refine blk_alloc ?_ _)); exact BK159.out) hb)
          have n8_ := Aside0.mk (blk_below (g := gb166) (o := .cells #[.int .u64 t160, .int .u16 t161] 25 (0, 0)) (by (with_reducible repeat (first | refine blk_drewN ?_ _ | refine blk_drew ?_ | refine blk_alloc ?_ _)); exact BK166.out) hb)
          have n9_ := Aside0.mk (below_step (by repeat (first | (with_reducible first | exact HB.out | apply below_alloc | apply pw_below_drewN | apply below_drew1 | refine below_set ?_ GE141.out | refine below_set ?_ GE145.out | refine below_set ?_ GE152.out | refine below_set ?_ GE159.out | refine below_set ?_ GE166.out) | exact HB.out)) hb)
          clear HO144
          clear HO150
          clear HO157
          clear HO164
          clear BK141
          clear BK145
          clear BK152
          clear BK159
          clear BK166
          clear HB
          have HO144 := n0_
          have HO150 := n1_
          have HO157 := n2_
          have HO164 := n3_
          have BK141 := n4_
          have BK145 := n5_
          have BK152 := n6_
          have BK159 := n7_
          have BK166 := n8_
          have HB := n9_
          clear n0_ n1_ n2_ n3_ n4_ n5_ n6_ n7_ n8_ n9_
          (try clear hb)
          (try clear hb2)
          (try clear hk)
          (try clear hi)
          refine hK.out _ _ ⟨(blk_cell BK152.out 0).trans rfl, (blk_cell BK152.out 1).trans rfl, (blk_cell BK141.out 0).trans rfl, (blk_cell BK141.out 1).trans rfl, (blk_cell BK166.out 0).trans rfl, (blk_cell BK166.out 1).trans rfl, (blk_cell BK145.out 0).trans rfl, (blk_cell BK145.out 1).trans rfl, (blk_cell BK145.out 2).trans rfl, (blk_cell BK145.out 3).trans rfl, (blk_cell BK145.out 4).trans rfl, (blk_cell BK145.out 5).trans rfl, (blk_cell BK145.out 6).trans rfl, (blk_cell BK145.out 7).trans rfl, (blk_cell BK145.out 8).trans rfl, (blk_cell BK145.out 9).trans rfl, (blk_cell BK145.out 10).trans rfl, (blk_cell BK145.out 11).trans rfl, (blk_cell BK145.out 12).trans rfl, (blk_cell BK145.out 13).trans rfl, HS20_, HS21_⟩ (fun hHeld => ?_)
          clear hK K
          refine norm_ (a' := ?_) ?_ ?_
          rotate_left
          ·show Act.put _ (some 69) _ = _
           simp only [Act.put, la_, lz_, ls_, i64_w, i32_w]
           rfl
          refine pure_ (i := 33) (N := some 70) (v := ?_) (a' := ?_) #[T',T',T',T',T',T',T',T',T',T',T',T',T',T',T',T',T',T',T',T',T',T',T',T',T',T',T',T',T',T',T',T',T',T',F',F',F',F',F',F'] rfl rfl (any_of HT_.out (by kernel_rfl)) (fun _ _ _ h => h) (Or.inl ⟨by rfl, ?_⟩) ?_ ?_
          rotate_left
          ·intro w'
           go_simp
           with_reducible rfl
          rotate_left
          ·simp only [Act.put, la_, lz_, ls_, i64_w, i32_w]
           rfl
          refine pure_ (i := 34) (N := some 71) (v := ?_) (a' := ?_) #[T',T',T',T',T',T',T',T',T',T',T',T',T',T',T',T',T',T',T',T',T',T',T',T',T',T',T',T',T',T',T',T',T',T',T',F',F',F',F',F'] rfl rfl (any_of HT_.out (by kernel_rfl)) (fun _ _ _ h => h) (Or.inl ⟨by rfl, ?_⟩) ?_ ?_
          rotate_left
          ·intro w'
           go_simp
           with_reducible rfl
          rotate_left
          ·simp only [Act.put, la_, lz_, ls_, i64_w, i32_w]
           rfl
          refine take_ (i := 35) (N := some 72) (v := ?_) (a' := ?_) #[T',T',T',T',T',T',T',T',T',T',T',T',T',T',T',T',T',T',T',T',T',T',T',T',T',T',T',T',T',T',T',T',T',T',T',T',F',F',F',F'] rfl rfl (take_ofW HT_.out HW_.out (by kernel_rfl)) (fun _ _ _ h => h) (Or.inl ⟨by rfl, ?_⟩) hHeld ?_ ?_
          rotate_left
          ·rintro w' ⟨s0, s1, s2, s3, s4, s5, s6, s7, s8, s9, s10, s11, s12, s13, s14, s15, s16, s17, s18, s19, s20, s21⟩
           go_simp
           with_reducible rfl
          rotate_left
          ·simp only [Act.put, la_, lz_, ls_, i64_w, i32_w]
           rfl
          refine one_ (i := 36) (N := some 73) #[T',T',T',T',T',T',T',T',T',T',T',T',T',T',T',T',T',T',T',T',T',T',T',T',T',T',T',T',T',T',T',T',T',T',T',T',T',F',F',F'] rfl rfl (one_of HT_.out (by kernel_rfl)) (by decide) (fun K hK => ?_)
          refine goes_ Try.func11 (by kernel_rfl) rfl #[.agg #[.int .u64 0, .int .u16 1, .int .i64 0, .bool false, .slice none 0 0, .slice Ao19 y142.length co19, .slice none 0 0, .slice none 0 0, .slice none 0 0, .slice none 0 0, .slice none 0 0, .int .u32 0, .int .i64 0, .int .i64 0], .int .u64 3] (by rfl) rfl rfl (by (try simp only [List.map_toArray, List.map_cons, List.map_nil]); first | done | rfl | (simp only [List.length_drop, List.length_take]; rfl)) ?_
          refine (route_Mine.calls k 0 1 0 false _ _ ([] : List (S46)) _ _ y142 _ _ ([] : List (S63)) _ _ ([] : List (S61)) _ _ ([] : List (S114)) _ _ ([] : List (S50)) _ _ ([] : List (S53)) 0 0 0 3 t169 _ ?side1 ?side2 ?side3 ?side4 ?side5 ?side6 ?side7 ?side8 ?side9 ?side10 ?side11 ?side12 ?side13 ?side14 A14.out).mono ?_
          (case side1 => exact Kd.C_nil _ _)
          (case side2 => exact Nat.le_refl _)
          (case side3 => repeat (first | exact (Kd.R_reads' HO144.out).2.2 | (with_reducible refine Kd.C_alloc ?_ _) | (with_reducible refine Kd.C_drewN ?_ _) | (with_reducible refine Kd.C_drew ?_)))
          (case side4 => exact (Kd.R_reads' HO144.out).2.1)
          (case side5 => exact Kd.C_nil _ _)
          (case side6 => exact Nat.le_refl _)
          (case side7 => exact Kd.C_nil _ _)
          (case side8 => exact Nat.le_refl _)
          (case side9 => exact Kd.C_nil _ _)
          (case side10 => exact Nat.le_refl _)
          (case side11 => exact Kd.C_nil _ _)
          (case side12 => exact Nat.le_refl _)
          (case side13 => exact Kd.C_nil _ _)
          (case side14 => exact Nat.le_refl _)
          rintro e w47 ⟨rfl, hb⟩
          have HS20_ := (hb.cell (World.block_lt_of_cell? _ _ (hHeld.2.2.2.2.2.2.2.2.2.2.2.2.2.2.2.2.2.2.2.2.1))).trans (hHeld.2.2.2.2.2.2.2.2.2.2.2.2.2.2.2.2.2.2.2.2.1)
          have HS21_ := (hb.cell (World.block_lt_of_cell? _ _ (hHeld.2.2.2.2.2.2.2.2.2.2.2.2.2.2.2.2.2.2.2.2.2))).trans (hHeld.2.2.2.2.2.2.2.2.2.2.2.2.2.2.2.2.2.2.2.2.2)
          refine ⟨_, rfl, ?_⟩
          have n0_ := Aside0.mk (Kd.R_below (by (with_reducible repeat (first | apply Kd.R_alloc | apply Kd.R_drewN | apply Kd.R_drew)); exact HO144.out) hb)
          have n1_ := Aside0.mk (Kd.R_below (by (with_reducible repeat (first | apply Kd.R_alloc | apply Kd.R_drewN | apply Kd.R_drew)); exact HO150.out) hb)
          have n2_ := Aside0.mk (Kd.R_below (by (with_reducible repeat (first | apply Kd.R_alloc | apply Kd.R_drewN | apply Kd.R_drew)); exact HO157.out) hb)
          have n3_ := Aside0.mk (Kd.R_below (by (with_reducible repeat (first | apply Kd.R_alloc | apply Kd.R_drewN | apply Kd.R_drew)); exact HO164.out) hb)
          have n4_ := Aside0.mk (blk_below (g := gb141) (o := .cells #[.int .u64 4, .int .u16 2] 25 (0, 0)) (by (with_reducible repeat (first | refine blk_drewN ?_ _ | refine blk_drew ?_ | refine blk_alloc ?_ _)); exact BK141.out) hb)
          have n5_ := Aside0.mk (blk_below (g := gb145) (o := .cells #[.int .u64 0, .int .u16 1, .int .i64 0, .bool false, .slice none 0 0, .slice Ao19 y142.length co19, .slice none 0 0, .slice none 0 0, .slice none 0 0, .slice none 0 0, .slice none 0 0, .int .u32 0, .int .i64 0, .int .i64 0] 34 (0, 0)) (by (with_reducible repeat (first | refine blk_drewN ?_ _ | refine blk_drew ?_ | refine blk_alloc ?_ _)); exact BK145.out) hb)
          have n6_ := Aside0.mk (blk_below (g := gb152) (o := .cells #[.int .u64 t146, .int .u16 t147] 25 (0, 0)) (by (with_reducible repeat (first | refine blk_drewN ?_ _ | refine blk_drew ?_ | refine blk_alloc ?_ _)); exact BK152.out) hb)
          have n7_ := Aside0.mk (blk_below (g := gb159) (o := .cells #[.int .u64 t153, .int .u16 t154] 25 (0, 0)) (by (with_reducible repeat (first | refine blk_drewN ?_ _ | refine blk_drew ?_ | refine blk_alloc ?_ _)); exact BK159.out) hb)
          have n8_ := Aside0.mk (blk_below (g := gb166) (o := .cells #[.int .u64 t160, .int .u16 t161] 25 (0, 0)) (by (with_reducible repeat (first | refine blk_drewN ?_ _ | refine blk_drew ?_ | refine blk_alloc ?_ _)); exact BK166.out) hb)
          have n9_ := Aside0.mk (below_step (by repeat (first | (with_reducible first | exact HB.out | apply below_alloc | apply pw_below_drewN | apply below_drew1 | refine below_set ?_ GE141.out | refine below_set ?_ GE145.out | refine below_set ?_ GE152.out | refine below_set ?_ GE159.out | refine below_set ?_ GE166.out) | exact HB.out)) hb)
          clear HO144
          clear HO150
          clear HO157
          clear HO164
          clear BK141
          clear BK145
          clear BK152
          clear BK159
          clear BK166
          clear HB
          have HO144 := n0_
          have HO150 := n1_
          have HO157 := n2_
          have HO164 := n3_
          have BK141 := n4_
          have BK145 := n5_
          have BK152 := n6_
          have BK159 := n7_
          have BK166 := n8_
          have HB := n9_
          clear n0_ n1_ n2_ n3_ n4_ n5_ n6_ n7_ n8_ n9_
          (try clear hb)
          (try clear hb2)
          (try clear hk)
          (try clear hi)
          refine hK.out _ _ ⟨(blk_cell BK152.out 0).trans rfl, (blk_cell BK152.out 1).trans rfl, (blk_cell BK141.out 0).trans rfl, (blk_cell BK141.out 1).trans rfl, (blk_cell BK166.out 0).trans rfl, (blk_cell BK166.out 1).trans rfl, (blk_cell BK145.out 0).trans rfl, (blk_cell BK145.out 1).trans rfl, (blk_cell BK145.out 2).trans rfl, (blk_cell BK145.out 3).trans rfl, (blk_cell BK145.out 4).trans rfl, (blk_cell BK145.out 5).trans rfl, (blk_cell BK145.out 6).trans rfl, (blk_cell BK145.out 7).trans rfl, (blk_cell BK145.out 8).trans rfl, (blk_cell BK145.out 9).trans rfl, (blk_cell BK145.out 10).trans rfl, (blk_cell BK145.out 11).trans rfl, (blk_cell BK145.out 12).trans rfl, (blk_cell BK145.out 13).trans rfl, HS20_, HS21_⟩ (fun hHeld => ?_)
          clear hK K
          refine norm_ (a' := ?_) ?_ ?_
          rotate_left
          ·show Act.put _ (some 73) _ = _
           simp only [Act.put, la_, lz_, ls_, i64_w, i32_w]
           rfl
          refine pure_ (i := 37) (N := some 74) (v := ?_) (a' := ?_) #[T',T',T',T',T',T',T',T',T',T',T',T',T',T',T',T',T',T',T',T',T',T',T',T',T',T',T',T',T',T',T',T',T',T',T',T',T',T',F',F'] rfl rfl (any_of HT_.out (by kernel_rfl)) (fun _ _ _ h => h) (Or.inl ⟨by rfl, ?_⟩) ?_ ?_
          rotate_left
          ·intro w'
           go_simp
           with_reducible rfl
          rotate_left
          ·simp only [Act.put, la_, lz_, ls_, i64_w, i32_w]
           rfl
          refine pure_ (i := 38) (N := some 75) (v := ?_) (a' := ?_) #[T',T',T',T',T',T',T',T',T',T',T',T',T',T',T',T',T',T',T',T',T',T',T',T',T',T',T',T',T',T',T',T',T',T',T',T',T',T',T',F'] rfl rfl (any_of HT_.out (by kernel_rfl)) (fun _ _ _ h => h) (Or.inl ⟨by rfl, ?_⟩) ?_ ?_
          rotate_left
          ·intro w'
           go_simp
           with_reducible rfl
          rotate_left
          ·simp only [Act.put, la_, lz_, ls_, i64_w, i32_w]
           rfl
          refine pure_ (i := 39) (N := some 0) (v := ?_) (a' := ?_) #[T',T',T',T',T',T',T',T',T',T',T',T',T',T',T',T',T',T',T',T',T',T',T',T',T',T',T',T',T',T',T',T',T',T',T',T',T',T',T',T'] rfl rfl (any_of HT_.out (by kernel_rfl)) (fun _ _ _ h => h) (Or.inl ⟨by rfl, ?_⟩) ?_ ?_
          rotate_left
          ·intro w'
           go_simp
           with_reducible rfl
          rotate_left
          ·simp only [Act.put, la_, lz_, ls_, i64_w, i32_w]
           rfl
          refine done_ (done_of HT_.out (by kernel_rfl)) ?_
          try go_wp2
          go_ret
          exact ⟨by first | rfl | (simp [errW_none, errW_some] <;> rfl) | (simp [*, errW_none, errW_some] <;> rfl), by repeat (first | (with_reducible first | exact HB.out | apply below_alloc | apply pw_below_drewN | apply below_drew1 | refine below_set ?_ GE141.out | refine below_set ?_ GE145.out | refine below_set ?_ GE152.out | refine below_set ?_ GE159.out | refine below_set ?_ GE166.out) | exact HB.out)⟩
         ·replace c13 := Bool.eq_false_iff.mpr c13
          subst c13
          have H1 : (none) = some r := by rw [if_neg (show ¬ (false = true) by decide)] at H; exact H
          clear H
          have H := H1
          clear H1
          exact absurd H (by simp)
        ·replace c11 := Bool.eq_false_iff.mpr c11
         subst c11
         have H1 : (none) = some r := by rw [if_neg (show ¬ (false = true) by decide)] at H; exact H
         clear H
         have H := H1
         clear H1
         exact absurd H (by simp)
       ·rw [if_neg c10] at H
        have c10b0 : (t160 == 4 && (t161 == 2)) = false := by simpa using c10
        (try (have c10b1 : decide (t160 = 4 && (t161 == 2)) = false := by simpa using c10))
        (try (have c10b2 : (t160 == 4 && (t161 == 2)) = false := by simpa using c10))
        (try (have c10b3 : ¬ (t160 = 4 && (t161 == 2)) := by simpa using c10))
        clear c10
        exact absurd H (by simp)
     ·rw [if_neg c8] at H
      have c8b0 : (((rd_T25 t155 0).f0) == 4 && (((rd_T25 t155 0).f1) == 2)) = false := by simpa using c8
      (try (have c8b1 : decide (((rd_T25 t155 0).f0) = 4 && (((rd_T25 t155 0).f1) == 2)) = false := by simpa using c8))
      (try (have c8b2 : (((rd_T25 t155 0).f0) == 4 && (((rd_T25 t155 0).f1) == 2)) = false := by simpa using c8))
      (try (have c8b3 : ¬ (((rd_T25 t155 0).f0) = 4 && (((rd_T25 t155 0).f1) == 2)) := by simpa using c8))
      clear c8
      exact absurd H (by simp)
    ·rw [if_neg c7] at H
     exact absurd H (by simp)
   ·rw [if_neg c6] at H
    have c6b0 : ((t155.length : Int) == 1) = false := beq_eq_false_iff_ne.mpr c6
    have c6b1 : ((t155.length : Int) != 1) = true := bne_iff_ne.mpr c6
    exact absurd H (by simp)
  ·replace c5 := Bool.eq_false_iff.mpr c5
   subst c5
   have H1 : (none) = some r := by rw [if_neg (show ¬ (false = true) by decide)] at H; exact H
   clear H
   have H := H1
   clear H1
   exact absurd H (by simp)
 ·rw [if_neg c4] at H
  have c4b0 : (t146 == 4 && (t147 == 2)) = false := by simpa using c4
  (try (have c4b1 : decide (t146 = 4 && (t147 == 2)) = false := by simpa using c4))
  (try (have c4b2 : (t146 == 4 && (t147 == 2)) = false := by simpa using c4))
  (try (have c4b3 : ¬ (t146 = 4 && (t147 == 2)) := by simpa using c4))
  clear c4
  exact absurd H (by simp)

/-! ### annuletref27_Firm: function 21 -/
def annuletref27_Firm.l0 : Nat → List (S46) → List (S25) → Int → Option ((List (S25)))
 | 0, _, _, _ => none
 | k + 1, x0, x3, x4 => if x4 < (x0.length : Int) then (if 0 ≤ x4 then (if ((rd_T46 x0 x4).f1) < 1 then (if x3.length < 8796093022208 then (annuletref27_Firm.l0 k x0 (x3 ++ [(⟨(rd_T46 x0 x4).f0.f0, (rd_T46 x0 x4).f0.f1⟩ : S25)]) (wrap64 (x4 + 1))) else (none)) else (annuletref27_Firm.l0 k x0 x3 (wrap64 (x4 + 1)))) else (none)) else (some x3)
def annuletref27_Firm.f (k : Nat) (l0 : List (S46)) : Option ((List (S25))) := annuletref27_Firm.l0 k l0 ([] : List (S25)) 0
theorem annuletref27_Firm.mono_l : ∀ k, (∀ y0 y1 y2, LeO (annuletref27_Firm.l0 k y0 y1 y2) (annuletref27_Firm.l0 (k + 1) y0 y1 y2))
 | 0 => fun _ _ _ r h => by simp [annuletref27_Firm.l0] at h
 | k + 1 => by
  have ih0 := annuletref27_Firm.mono_l k
  ·intro y0 y1 y2
   unfold annuletref27_Firm.l0
   repeat' first
   | (with_reducible exact ih0 _ _ _)
   | (with_reducible exact LeO.refl _)
   | (with_reducible exact LeO.none _)
   | (with_reducible refine LeO.ite ?_ ?_)
   | (with_reducible refine LeO.bind ?_ (fun _ => ?_))
   | exact ih0 _ _ _
   | exact LeO.none _
   | refine LeO.ite ?_ ?_
   | refine LeO.bind ?_ (fun _ => ?_)
theorem annuletref27_Firm.mono : ∀ a0 k, LeO (annuletref27_Firm.f k a0) (annuletref27_Firm.f (k + 1) a0) := by
 intro a0 k
 have ih0 := annuletref27_Firm.mono_l k
 unfold annuletref27_Firm.f
 repeat' first
   | (with_reducible exact ih0 _ _ _)
   | (with_reducible exact LeO.refl _)
   | (with_reducible exact LeO.none _)
   | (with_reducible refine LeO.ite ?_ ?_)
   | (with_reducible refine LeO.bind ?_ (fun _ => ?_))
   | exact ih0 _ _ _
   | exact LeO.none _
   | refine LeO.ite ?_ ?_
   | refine LeO.bind ?_ (fun _ => ?_)
set_option maxHeartbeats 8000000 in
set_option maxRecDepth 100000 in
theorem annuletref27_Firm.calls (k : Nat) (A0 : Option Addr) (c0 : Nat) (l0 : List (S46)) (r : List (S25)) (w : World) (hr0 : Kd.C k46 w A0 l0.length l0) (hc0 : l0.length ≤ c0) (h : annuletref27_Firm.f k l0 = some r) :
  Calls Try.prog 21 #[.slice A0 l0.length c0] w fun e w' => ∃ v0_ : Value, e = .returned (v0_) ∧ Kd.R k25 25 w' w.heap.size (fun _ => True) v0_ r ∧ Below w.heap.size w w' := by
 have hu25 := Try.underlying25
 have HR0 := Aside0.mk hr0
 have HC0 := Aside0.mk hc0
 clear hr0 hc0
 have HB := Aside0.mk (Below.refl w.heap.size w)
 have H : (annuletref27_Firm.l0 k l0 ([] : List (S25)) 0) = some r := h
 clear h
 have H' := Aside0.mk H
 clear H
 go_enter Try.func21, Try.ntmps21
 go_wp2
 go_loopg [3, 4] k (fun kq v3 v4 w' => ∃ (x3_1 : List (S25)) (x4_1 : Int), v4 = .int .i64 x4_1 ∧ Aside0 (annuletref27_Firm.l0 kq l0 x3_1 x4_1 = some r) ∧ Aside0 (kq ≤ k) ∧ Aside0 (Kd.R k25 25 w' w.heap.size (fun _ => True) v3 x3_1) ∧ Aside0 (Below w.heap.size w w'))
 case atStart => exact ⟨(([] : List (S25))), (0), (by first | rfl | (simp; done) | (simp [*]; done)), H', ⟨Nat.le_refl _⟩, ⟨by first | exact Kd.R_nil _ _ _ _ _ | exact Kd.N_nil _ _ _ _ _ | exact Kd.V_nil _ _ _ _ _ | exact Kd.Q_nil _ _ _ _ _ | exact Kd.S_nil _ _ _ _ _⟩, ⟨by repeat (first | (with_reducible first | exact HB.out | apply below_alloc | apply pw_below_drewN | apply below_drew1) | exact HB.out)⟩⟩
 case round =>
  clear H'
  obtain ⟨x3_1, x4_1, rfl, HA, HK1, HO_3, HB⟩ := hrel
  cases gk with
  | zero => exact absurd HA.out (by simp [annuletref27_Firm.l0])
  | succ k1 =>
   have H := HA.out
   clear HA
   simp only [annuletref27_Firm.l0] at H
   by_cases c2 : x4_1 < (l0.length : Int)
   ·rw [if_pos c2] at H
    have c2b0 : decide (x4_1 < (l0.length : Int)) = true := decide_eq_true c2
    clear c2
    by_cases c3 : 0 ≤ x4_1
    ·rw [if_pos c3] at H
     have c3b0 : decide (0 ≤ x4_1) = true := decide_eq_true c3
     clear c3
     by_cases c4 : ((rd_T46 l0 x4_1).f1) < 1
     ·rw [if_pos c4] at H
      have c4b0 : decide (((rd_T46 l0 x4_1).f1) < 1) = true := decide_eq_true c4
      clear c4
      by_cases c5 : x3_1.length < 8796093022208
      ·rw [if_pos c5] at H
       have LMc5 := Aside0.mk c5
       clear c5
       obtain ⟨y172, hy172⟩ : ∃ y_ : List (S25), y_ = (x3_1 ++ [(⟨(rd_T46 l0 x4_1).f0.f0, (rd_T46 l0 x4_1).f0.f1⟩ : S25)]) := ⟨_, rfl⟩
       replace H : (annuletref27_Firm.l0 k1 l0 y172 (wrap64 (x4_1 + 1))) = some r := by first | (rw [hy172]; with_reducible exact H) | (have H2_ := (Option.bind_some _ _).symm.trans H; rw [hy172]; with_reducible exact H2_) | (have H2_ := (Option.bind_some _ _).symm.trans H; with_reducible exact H2_) | with_reducible exact H | (rw [hy172]; exact H) | exact H
       have Ny172 := Aside0.mk hy172
       clear hy172
       have H' := Aside0.mk H
       clear H
       have p170 : 0 ≤ (x4_1 : Int) := of_decide_eq_true (by first | (with_reducible assumption) | assumption)
       have q170 : x4_1 < (l0.length : Int) := of_decide_eq_true (by first | (with_reducible assumption) | assumption)
       obtain ⟨ad170, e170, hx170_0, hx170_1, hx170_2⟩ := at_T46 HR0.out x4_1 p170 q170
       cases e170
       replace hx170_0 := (HB.out.cell (World.block_lt_of_cell? w _ hx170_0)).trans hx170_0
       replace hx170_1 := (HB.out.cell (World.block_lt_of_cell? w _ hx170_1)).trans hx170_1
       replace hx170_2 := (HB.out.cell (World.block_lt_of_cell? w _ hx170_2)).trans hx170_2
       replace p170 := eq_true p170
       replace q170 := eq_true q170
       have p171 : 0 ≤ (x4_1 : Int) := of_decide_eq_true (by first | (with_reducible assumption) | assumption)
       have q171 : x4_1 < (l0.length : Int) := of_decide_eq_true (by first | (with_reducible assumption) | assumption)
       obtain ⟨ad171, e171, hx171_0, hx171_1, hx171_2⟩ := at_T46 HR0.out x4_1 p171 q171
       obtain rfl : ad170 = ad171 := (by injection e171)
       replace hx171_0 := (HB.out.cell (World.block_lt_of_cell? w _ hx171_0)).trans hx171_0
       replace hx171_1 := (HB.out.cell (World.block_lt_of_cell? w _ hx171_1)).trans hx171_1
       replace hx171_2 := (HB.out.cell (World.block_lt_of_cell? w _ hx171_2)).trans hx171_2
       replace p171 := eq_true p171
       replace q171 := eq_true q171
       go_wp2_with (first | ((with_reducible refine gate_builtin (b := .append) (xs := #[.tmp 17, .tmp 23]) rfl ?_); at_builtin; refine Kd.R_append k25 (w0 := w) w.heap.size rfl (.tmp 17) (.tmp 23) 37 25 (.agg #[(.int .u64 0), (.int .u16 0)]) 16 rfl Try.underlying37 info25 rfl (by decide) (by omega) u3 x3_1 (⟨(rd_T46 l0 x4_1).f0.f0, (rd_T46 l0 x4_1).f0.f1⟩ : S25) [.int .u64 ((rd_T46 l0 x4_1).f0.f0), .int .u16 ((rd_T46 l0 x4_1).f0.f1)] (fun _ => True) (fun _ => False) rfl rfl ?aP (fun _ hk => hk.elim) ?aF ?aO ?aB ?aS ?aL ?_; (case aP => exact k25_mkM _ _ _ (⟨(rd_T46 l0 x4_1).f0.f0, (rd_T46 l0 x4_1).f0.f1⟩ : S25)); (case aB => exact (by repeat (first | (with_reducible first | exact HB.out | apply below_alloc | apply pw_below_drewN | apply below_drew1) | exact HB.out))); (case aF => exact (fun _ _ => trivial)); (case aO => exact (by (with_reducible repeat (first | apply Kd.R_alloc | apply Kd.R_drewN | apply Kd.R_drew)); exact HO_3.out)); (case aS => exact (below_size (by repeat (first | (with_reducible first | exact HB.out | apply below_alloc | apply pw_below_drewN | apply below_drew1) | exact HB.out)))); (case aL => have := LMc5.out; omega); intro v173 w6 ho hb hg hat; rw [← Ny172.out] at ho; have n0_ := Aside0.mk (hb); have n1_ := Aside0.mk (ho); clear HB; clear HO_3; have HB := n0_; have HO174 := n1_; clear n0_ n1_; clear ho hb hg hat))
       go_roundg k1
       case measure => have := HK1.out; omega
       case rel => exact ⟨(y172), (wrap64 (x4_1 + 1)), (by first | rfl | (simp; done) | (simp [*]; done)), H', ⟨by have := HK1.out; omega⟩, ⟨by (with_reducible repeat (first | apply Kd.R_alloc | apply Kd.R_drewN | apply Kd.R_drew)); exact HO174.out⟩, ⟨by repeat (first | (with_reducible first | exact HB.out | apply below_alloc | apply pw_below_drewN | apply below_drew1) | exact HB.out)⟩⟩
      ·rw [if_neg c5] at H
       exact absurd H (by simp)
     ·rw [if_neg c4] at H
      have c4b0 : decide (((rd_T46 l0 x4_1).f1) < 1) = false := decide_eq_false c4
      clear c4
      have H' := Aside0.mk H
      clear H
      have p170 : 0 ≤ (x4_1 : Int) := of_decide_eq_true (by first | (with_reducible assumption) | assumption)
      have q170 : x4_1 < (l0.length : Int) := of_decide_eq_true (by first | (with_reducible assumption) | assumption)
      obtain ⟨ad170, e170, hx170_0, hx170_1, hx170_2⟩ := at_T46 HR0.out x4_1 p170 q170
      cases e170
      replace hx170_0 := (HB.out.cell (World.block_lt_of_cell? w _ hx170_0)).trans hx170_0
      replace hx170_1 := (HB.out.cell (World.block_lt_of_cell? w _ hx170_1)).trans hx170_1
      replace hx170_2 := (HB.out.cell (World.block_lt_of_cell? w _ hx170_2)).trans hx170_2
      replace p170 := eq_true p170
      replace q170 := eq_true q170
      go_wp2
      go_roundg k1
      case measure => have := HK1.out; omega
      case rel => exact ⟨(x3_1), (wrap64 (x4_1 + 1)), (by first | rfl | (simp; done) | (simp [*]; done)), H', ⟨by have := HK1.out; omega⟩, ⟨by (with_reducible repeat (first | apply Kd.R_alloc | apply Kd.R_drewN | apply Kd.R_drew)); exact HO_3.out⟩, ⟨by repeat (first | (with_reducible first | exact HB.out | apply below_alloc | apply pw_below_drewN | apply below_drew1) | exact HB.out)⟩⟩
    ·rw [if_neg c3] at H
     exact absurd H (by simp)
   ·rw [if_neg c2] at H
    have c2b0 : decide (x4_1 < (l0.length : Int)) = false := decide_eq_false c2
    clear c2
    obtain rfl := Option.some.inj H
    go_wp2
    go_ret
    exact ⟨_, by first | rfl | (simp [errW_none, errW_some] <;> rfl) | (simp [*, errW_none, errW_some] <;> rfl), by (with_reducible repeat (first | apply Kd.R_alloc | apply Kd.R_drewN | apply Kd.R_drew)); exact HO_3.out, by repeat (first | (with_reducible first | exact HB.out | apply below_alloc | apply pw_below_drewN | apply below_drew1) | exact HB.out)⟩

/-! ### annuletref03_Upto: function 22 -/
def annuletref03_Upto.f (a0 : Int) (a1 : Int) (a2 : Int) : Option (Bool) := if a0 < a2 then (if a0 < a1 then (some (decide (a1 ≤ a2))) else (some false)) else (if a0 > a2 then (if a1 > a0 then (some true) else (some (decide (a1 ≤ a2)))) else (some true))
set_option maxHeartbeats 8000000 in
set_option maxRecDepth 100000 in
theorem annuletref03_Upto.calls (a0 : Int) (a1 : Int) (a2 : Int) (r : Bool) (w : World) (h : annuletref03_Upto.f a0 a1 a2 = some r) :
  Calls Try.prog 22 #[.int .u64 a0, .int .u64 a1, .int .u64 a2] w fun e w' => e = .returned (.bool r) ∧ Drawn0 w w' := by
 have H : (if a0 < a2 then (if a0 < a1 then (some (decide (a1 ≤ a2))) else (some false)) else (if a0 > a2 then (if a1 > a0 then (some true) else (some (decide (a1 ≤ a2)))) else (some true))) = some r := h
 clear h
 by_cases c4 : a0 < a2
 ·rw [if_pos c4] at H
  have c4b0 : decide (a0 < a2) = true := decide_eq_true c4
  clear c4
  by_cases c5 : a0 < a1
  ·rw [if_pos c5] at H
   have c5b0 : decide (a0 < a1) = true := decide_eq_true c5
   clear c5
   obtain rfl := Option.some.inj H
   go_enter Try.func22, Try.ntmps22
   go_wp2
   go_ret
   exact ⟨by first | rfl | (simp; done) | (simp [*]; done), by repeat (first | exact Drawn0.refl _ | apply Drawn0.step)⟩
  ·rw [if_neg c5] at H
   have c5b0 : decide (a0 < a1) = false := decide_eq_false c5
   clear c5
   obtain rfl := Option.some.inj H
   go_enter Try.func22, Try.ntmps22
   go_wp2
   go_ret
   exact ⟨by first | rfl | (simp; done) | (simp [*]; done), by repeat (first | exact Drawn0.refl _ | apply Drawn0.step)⟩
 ·rw [if_neg c4] at H
  have c4b0 : decide (a0 < a2) = false := decide_eq_false c4
  clear c4
  by_cases c6 : a0 > a2
  ·rw [if_pos c6] at H
   have c6b0 : decide (a2 < a0) = true := decide_eq_true c6
   clear c6
   by_cases c7 : a1 > a0
   ·rw [if_pos c7] at H
    have c7b0 : decide (a0 < a1) = true := decide_eq_true c7
    clear c7
    obtain rfl := Option.some.inj H
    go_enter Try.func22, Try.ntmps22
    go_wp2
    go_ret
    exact ⟨by first | rfl | (simp; done) | (simp [*]; done), by repeat (first | exact Drawn0.refl _ | apply Drawn0.step)⟩
   ·rw [if_neg c7] at H
    have c7b0 : decide (a0 < a1) = false := decide_eq_false c7
    clear c7
    obtain rfl := Option.some.inj H
    go_enter Try.func22, Try.ntmps22
    go_wp2
    go_ret
    exact ⟨by first | rfl | (simp; done) | (simp [*]; done), by repeat (first | exact Drawn0.refl _ | apply Drawn0.step)⟩
  ·rw [if_neg c6] at H
   have c6b0 : decide (a2 < a0) = false := decide_eq_false c6
   clear c6
   obtain rfl := Option.some.inj H
   go_enter Try.func22, Try.ntmps22
   go_wp2
   go_ret
   exact ⟨by first | rfl | (simp; done) | (simp [*]; done), by repeat (first | exact Drawn0.refl _ | apply Drawn0.step)⟩

end Go.Proofs.Ytimihoepnkeioaa.P
