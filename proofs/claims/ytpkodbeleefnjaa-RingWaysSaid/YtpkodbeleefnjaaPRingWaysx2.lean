-- PRINTED BY print.sh 35421559b90ae4d0a3588c463048766b98c2df88dd9212a6774a882060cdf62d: not written by this session
import Derived.Test.YtpkodbeleefnjaaPRingWaysx0
import Derived.Test.YtpkodbeleefnjaaPRingWaysx1
namespace Go.Proofs.Ytpkodbeleefnjaa.PRingWays
open Go.RowKit Go.Proofs.YtpkodbeleefnjaaW.PrintWords Go.Proofs.YtpkodbeleefnjaaW.PrintLast Go.Proofs.YtpkodbeleefnjaaW.PrintMore
attribute [local go_sem] max2_int min2_int max_two min_two max_three min_three max_four min_four   -- for this text's walks alone
set_option linter.unusedVariables false
set_option linter.unusedSimpArgs false

/-! ### annuletlaw03_RingWays: function 3 -/
def annuletlaw03_RingWays.f (k : Nat) (a0 : Int) (a1 : Int) (a2 : Int) (a3 : Int) : Option (Bool) := (ring_Dist.f a0 a2).bind fun t122 => ((annuletref03_Dist.f a0 a2).bind fun t123 => (if t122 = t123 then ((ring_Upto.f a0 a1 a2).bind fun t124 => ((annuletref03_Upto.f a0 a1 a2).bind fun t125 => (if (t124 == t125) = true then ((ring_Between.f a0 a1 a2).bind fun t126 => ((annuletref03_Between.f a0 a1 a2).bind fun t127 => (if (t126 == t127) = true then ((ring_Start.f a0 a3).bind fun t128 => ((annuletref03_Start.f k a0 a3).bind fun t129 => (if t128 = t129 then ((annuletlaw03_awake.f k).bind fun t130 => (some t130)) else (some false)))) else (some false)))) else (some false)))) else (some false)))
theorem annuletlaw03_RingWays.mono : ∀ a0 a1 a2 a3 k, LeO (annuletlaw03_RingWays.f k a0 a1 a2 a3) (annuletlaw03_RingWays.f (k + 1) a0 a1 a2 a3) := by
  intro a0 a1 a2 a3 k
  unfold annuletlaw03_RingWays.f
  repeat' first
      | (with_reducible exact annuletlaw03_awake.mono _)
      | (with_reducible exact annuletref03_Start.mono _ _ _)
      | (with_reducible exact LeO.refl _)
      | (with_reducible exact LeO.none _)
      | (with_reducible refine LeO.ite ?_ ?_)
      | (with_reducible refine LeO.bind ?_ (fun _ => ?_))
      | exact annuletlaw03_awake.mono _
      | exact annuletref03_Start.mono _ _ _
      | exact LeO.none _
      | refine LeO.ite ?_ ?_
      | refine LeO.bind ?_ (fun _ => ?_)
set_option maxHeartbeats 8000000 in
set_option maxRecDepth 100000 in
theorem annuletlaw03_RingWays.calls (k : Nat) (a0 : Int) (a1 : Int) (a2 : Int) (a3 : Int) (r : Bool) (w : World) (h : annuletlaw03_RingWays.f k a0 a1 a2 a3 = some r) :
    Calls Try.prog 3 #[.int .u64 a0, .int .u64 a1, .int .u64 a2, .int .i64 a3] w fun e w' => e = .returned (.bool r) ∧ Below w.heap.size w w' := by
  have HB := Aside0.mk (Below.refl w.heap.size w)
  have H : ((ring_Dist.f a0 a2).bind fun t122 => ((annuletref03_Dist.f a0 a2).bind fun t123 => (if t122 = t123 then ((ring_Upto.f a0 a1 a2).bind fun t124 => ((annuletref03_Upto.f a0 a1 a2).bind fun t125 => (if (t124 == t125) = true then ((ring_Between.f a0 a1 a2).bind fun t126 => ((annuletref03_Between.f a0 a1 a2).bind fun t127 => (if (t126 == t127) = true then ((ring_Start.f a0 a3).bind fun t128 => ((annuletref03_Start.f k a0 a3).bind fun t129 => (if t128 = t129 then ((annuletlaw03_awake.f k).bind fun t130 => (some t130)) else (some false)))) else (some false)))) else (some false)))) else (some false)))) = some r := h
  clear h
  replace H := Option.bind_eq_some_iff.mp H
  obtain ⟨t122, A50, H⟩ := H
  replace H : ((annuletref03_Dist.f a0 a2).bind fun t123 => (if t122 = t123 then ((ring_Upto.f a0 a1 a2).bind fun t124 => ((annuletref03_Upto.f a0 a1 a2).bind fun t125 => (if (t124 == t125) = true then ((ring_Between.f a0 a1 a2).bind fun t126 => ((annuletref03_Between.f a0 a1 a2).bind fun t127 => (if (t126 == t127) = true then ((ring_Start.f a0 a3).bind fun t128 => ((annuletref03_Start.f k a0 a3).bind fun t129 => (if t128 = t129 then ((annuletlaw03_awake.f k).bind fun t130 => (some t130)) else (some false)))) else (some false)))) else (some false)))) else (some false))) = some r := H
  have A5 := Aside0.mk A50
  clear A50
  replace H := Option.bind_eq_some_iff.mp H
  obtain ⟨t123, A60, H⟩ := H
  replace H : (if t122 = t123 then ((ring_Upto.f a0 a1 a2).bind fun t124 => ((annuletref03_Upto.f a0 a1 a2).bind fun t125 => (if (t124 == t125) = true then ((ring_Between.f a0 a1 a2).bind fun t126 => ((annuletref03_Between.f a0 a1 a2).bind fun t127 => (if (t126 == t127) = true then ((ring_Start.f a0 a3).bind fun t128 => ((annuletref03_Start.f k a0 a3).bind fun t129 => (if t128 = t129 then ((annuletlaw03_awake.f k).bind fun t130 => (some t130)) else (some false)))) else (some false)))) else (some false)))) else (some false)) = some r := H
  have A6 := Aside0.mk A60
  clear A60
  by_cases c7 : t122 = t123
  · rw [if_pos c7] at H
    have c7b0 : (t122 == t123) = true := beq_iff_eq.mpr c7
    have c7b1 : (t122 != t123) = false := bne_eq_false_iff_eq.mpr c7
    clear c7
    replace H := Option.bind_eq_some_iff.mp H
    obtain ⟨t124, A80, H⟩ := H
    replace H : ((annuletref03_Upto.f a0 a1 a2).bind fun t125 => (if (t124 == t125) = true then ((ring_Between.f a0 a1 a2).bind fun t126 => ((annuletref03_Between.f a0 a1 a2).bind fun t127 => (if (t126 == t127) = true then ((ring_Start.f a0 a3).bind fun t128 => ((annuletref03_Start.f k a0 a3).bind fun t129 => (if t128 = t129 then ((annuletlaw03_awake.f k).bind fun t130 => (some t130)) else (some false)))) else (some false)))) else (some false))) = some r := H
    have A8 := Aside0.mk A80
    clear A80
    replace H := Option.bind_eq_some_iff.mp H
    obtain ⟨t125, A90, H⟩ := H
    replace H : (if (t124 == t125) = true then ((ring_Between.f a0 a1 a2).bind fun t126 => ((annuletref03_Between.f a0 a1 a2).bind fun t127 => (if (t126 == t127) = true then ((ring_Start.f a0 a3).bind fun t128 => ((annuletref03_Start.f k a0 a3).bind fun t129 => (if t128 = t129 then ((annuletlaw03_awake.f k).bind fun t130 => (some t130)) else (some false)))) else (some false)))) else (some false)) = some r := H
    have A9 := Aside0.mk A90
    clear A90
    by_cases c10 : (t124 == t125) = true
    · rw [if_pos c10] at H
      have c10b0 : (t124 == t125) = true := c10
      (try (have c10b1 : decide (t124 = t125) = true := by simpa using c10))
      (try (have c10b2 : (t124 == t125) = true := by simpa using c10))
      clear c10
      replace H := Option.bind_eq_some_iff.mp H
      obtain ⟨t126, A110, H⟩ := H
      replace H : ((annuletref03_Between.f a0 a1 a2).bind fun t127 => (if (t126 == t127) = true then ((ring_Start.f a0 a3).bind fun t128 => ((annuletref03_Start.f k a0 a3).bind fun t129 => (if t128 = t129 then ((annuletlaw03_awake.f k).bind fun t130 => (some t130)) else (some false)))) else (some false))) = some r := H
      have A11 := Aside0.mk A110
      clear A110
      replace H := Option.bind_eq_some_iff.mp H
      obtain ⟨t127, A120, H⟩ := H
      replace H : (if (t126 == t127) = true then ((ring_Start.f a0 a3).bind fun t128 => ((annuletref03_Start.f k a0 a3).bind fun t129 => (if t128 = t129 then ((annuletlaw03_awake.f k).bind fun t130 => (some t130)) else (some false)))) else (some false)) = some r := H
      have A12 := Aside0.mk A120
      clear A120
      by_cases c13 : (t126 == t127) = true
      · rw [if_pos c13] at H
        have c13b0 : (t126 == t127) = true := c13
        (try (have c13b1 : decide (t126 = t127) = true := by simpa using c13))
        (try (have c13b2 : (t126 == t127) = true := by simpa using c13))
        clear c13
        replace H := Option.bind_eq_some_iff.mp H
        obtain ⟨t128, A140, H⟩ := H
        replace H : ((annuletref03_Start.f k a0 a3).bind fun t129 => (if t128 = t129 then ((annuletlaw03_awake.f k).bind fun t130 => (some t130)) else (some false))) = some r := H
        have A14 := Aside0.mk A140
        clear A140
        replace H := Option.bind_eq_some_iff.mp H
        obtain ⟨t129, A150, H⟩ := H
        replace H : (if t128 = t129 then ((annuletlaw03_awake.f k).bind fun t130 => (some t130)) else (some false)) = some r := H
        have A15 := Aside0.mk A150
        clear A150
        by_cases c16 : t128 = t129
        · rw [if_pos c16] at H
          have c16b0 : (t128 == t129) = true := beq_iff_eq.mpr c16
          have c16b1 : (t128 != t129) = false := bne_eq_false_iff_eq.mpr c16
          clear c16
          replace H := Option.bind_eq_some_iff.mp H
          obtain ⟨t130, A170, H⟩ := H
          replace H : (some t130) = some r := H
          have A17 := Aside0.mk A170
          clear A170
          obtain rfl := Option.some.inj H
          go_enter Try.func3, Try.ntmps3
          go_wp2_with (first | ((with_reducible refine gate_callee (f := 7) rfl ?_); refine goesL_ (some 11) rfl rfl Try.func7 (by kernel_rfl) rfl #[.int .u64 a0, .int .u64 a2] rfl (by (try simp only [List.map_toArray, List.map_cons, List.map_nil]); first | done | rfl | (simp only [List.length_drop, List.length_take]; rfl)) ?_; (with_reducible refine (ring_Dist.calls a0 a2 t122 _ A5.out).mono ?_); rintro e w' ⟨rfl, ⟨nd, rfl⟩⟩; refine ⟨_, rfl, ?_⟩) | ((with_reducible refine gate_callee (f := 8) rfl ?_); refine goesL_ (some 14) rfl rfl Try.func8 (by kernel_rfl) rfl #[.int .u64 a0, .int .u64 a2] rfl (by (try simp only [List.map_toArray, List.map_cons, List.map_nil]); first | done | rfl | (simp only [List.length_drop, List.length_take]; rfl)) ?_; (with_reducible refine (annuletref03_Dist.calls a0 a2 t123 _ A6.out).mono ?_); rintro e w' ⟨rfl, ⟨nd, rfl⟩⟩; refine ⟨_, rfl, ?_⟩) | (go_at_call 9; (with_reducible refine (ring_Upto.calls a0 a1 a2 t124 _ A8.out).mono ?_); rintro e w' ⟨rfl, ⟨nd, rfl⟩⟩) | (go_at_call 10; (with_reducible refine (annuletref03_Upto.calls a0 a1 a2 t125 _ A9.out).mono ?_); rintro e w' ⟨rfl, ⟨nd, rfl⟩⟩) | (go_at_call 11; (with_reducible refine (ring_Between.calls a0 a1 a2 t126 _ A11.out).mono ?_); rintro e w' ⟨rfl, ⟨nd, rfl⟩⟩) | (go_at_call 12; (with_reducible refine (annuletref03_Between.calls a0 a1 a2 t127 _ A12.out).mono ?_); rintro e w' ⟨rfl, ⟨nd, rfl⟩⟩) | (go_at_call 13; (with_reducible refine (ring_Start.calls a0 a3 t128 _ A14.out).mono ?_); rintro e w' ⟨rfl, ⟨nd, rfl⟩⟩) | (go_at_call 14; (with_reducible refine (annuletref03_Start.calls k a0 a3 t129 _ A15.out).mono ?_); rintro e w' ⟨rfl, ⟨nd, rfl⟩⟩) | (go_at_call 15; (with_reducible refine (annuletlaw03_awake.calls k  t130 _ A17.out).mono ?_); rintro e w18 ⟨rfl, hb⟩; have n0_ := Aside0.mk (below_step (by repeat (first | (with_reducible first | exact HB.out | apply below_alloc | apply pw_below_drewN | apply below_drew1) | exact HB.out)) hb); clear HB; have HB := n0_; clear n0_; (try clear hb); (try clear hb2); (try clear hk); (try clear hi)))
          go_ret
          exact ⟨by first | rfl | (simp [errW_none, errW_some] <;> rfl) | (simp [*, errW_none, errW_some] <;> rfl), by repeat (first | (with_reducible first | exact HB.out | apply below_alloc | apply pw_below_drewN | apply below_drew1) | exact HB.out)⟩
        · rw [if_neg c16] at H
          have c16b0 : (t128 == t129) = false := beq_eq_false_iff_ne.mpr c16
          have c16b1 : (t128 != t129) = true := bne_iff_ne.mpr c16
          obtain rfl := Option.some.inj H
          go_enter Try.func3, Try.ntmps3
          go_wp2_with (first | ((with_reducible refine gate_callee (f := 7) rfl ?_); refine goesL_ (some 11) rfl rfl Try.func7 (by kernel_rfl) rfl #[.int .u64 a0, .int .u64 a2] rfl (by (try simp only [List.map_toArray, List.map_cons, List.map_nil]); first | done | rfl | (simp only [List.length_drop, List.length_take]; rfl)) ?_; (with_reducible refine (ring_Dist.calls a0 a2 t122 _ A5.out).mono ?_); rintro e w' ⟨rfl, ⟨nd, rfl⟩⟩; refine ⟨_, rfl, ?_⟩) | ((with_reducible refine gate_callee (f := 8) rfl ?_); refine goesL_ (some 14) rfl rfl Try.func8 (by kernel_rfl) rfl #[.int .u64 a0, .int .u64 a2] rfl (by (try simp only [List.map_toArray, List.map_cons, List.map_nil]); first | done | rfl | (simp only [List.length_drop, List.length_take]; rfl)) ?_; (with_reducible refine (annuletref03_Dist.calls a0 a2 t123 _ A6.out).mono ?_); rintro e w' ⟨rfl, ⟨nd, rfl⟩⟩; refine ⟨_, rfl, ?_⟩) | (go_at_call 9; (with_reducible refine (ring_Upto.calls a0 a1 a2 t124 _ A8.out).mono ?_); rintro e w' ⟨rfl, ⟨nd, rfl⟩⟩) | (go_at_call 10; (with_reducible refine (annuletref03_Upto.calls a0 a1 a2 t125 _ A9.out).mono ?_); rintro e w' ⟨rfl, ⟨nd, rfl⟩⟩) | (go_at_call 11; (with_reducible refine (ring_Between.calls a0 a1 a2 t126 _ A11.out).mono ?_); rintro e w' ⟨rfl, ⟨nd, rfl⟩⟩) | (go_at_call 12; (with_reducible refine (annuletref03_Between.calls a0 a1 a2 t127 _ A12.out).mono ?_); rintro e w' ⟨rfl, ⟨nd, rfl⟩⟩) | (go_at_call 13; (with_reducible refine (ring_Start.calls a0 a3 t128 _ A14.out).mono ?_); rintro e w' ⟨rfl, ⟨nd, rfl⟩⟩) | (go_at_call 14; (with_reducible refine (annuletref03_Start.calls k a0 a3 t129 _ A15.out).mono ?_); rintro e w' ⟨rfl, ⟨nd, rfl⟩⟩))
          go_ret
          exact ⟨by first | rfl | (simp [errW_none, errW_some] <;> rfl) | (simp [*, errW_none, errW_some] <;> rfl), by repeat (first | (with_reducible first | exact HB.out | apply below_alloc | apply pw_below_drewN | apply below_drew1) | exact HB.out)⟩
      · rw [if_neg c13] at H
        have c13b0 : (t126 == t127) = false := by simpa using c13
        (try (have c13b1 : decide (t126 = t127) = false := by simpa using c13))
        (try (have c13b2 : (t126 == t127) = false := by simpa using c13))
        (try (have c13b3 : ¬ (t126 = t127) := by simpa using c13))
        clear c13
        obtain rfl := Option.some.inj H
        go_enter Try.func3, Try.ntmps3
        go_wp2_with (first | ((with_reducible refine gate_callee (f := 7) rfl ?_); refine goesL_ (some 11) rfl rfl Try.func7 (by kernel_rfl) rfl #[.int .u64 a0, .int .u64 a2] rfl (by (try simp only [List.map_toArray, List.map_cons, List.map_nil]); first | done | rfl | (simp only [List.length_drop, List.length_take]; rfl)) ?_; (with_reducible refine (ring_Dist.calls a0 a2 t122 _ A5.out).mono ?_); rintro e w' ⟨rfl, ⟨nd, rfl⟩⟩; refine ⟨_, rfl, ?_⟩) | ((with_reducible refine gate_callee (f := 8) rfl ?_); refine goesL_ (some 14) rfl rfl Try.func8 (by kernel_rfl) rfl #[.int .u64 a0, .int .u64 a2] rfl (by (try simp only [List.map_toArray, List.map_cons, List.map_nil]); first | done | rfl | (simp only [List.length_drop, List.length_take]; rfl)) ?_; (with_reducible refine (annuletref03_Dist.calls a0 a2 t123 _ A6.out).mono ?_); rintro e w' ⟨rfl, ⟨nd, rfl⟩⟩; refine ⟨_, rfl, ?_⟩) | (go_at_call 9; (with_reducible refine (ring_Upto.calls a0 a1 a2 t124 _ A8.out).mono ?_); rintro e w' ⟨rfl, ⟨nd, rfl⟩⟩) | (go_at_call 10; (with_reducible refine (annuletref03_Upto.calls a0 a1 a2 t125 _ A9.out).mono ?_); rintro e w' ⟨rfl, ⟨nd, rfl⟩⟩) | (go_at_call 11; (with_reducible refine (ring_Between.calls a0 a1 a2 t126 _ A11.out).mono ?_); rintro e w' ⟨rfl, ⟨nd, rfl⟩⟩) | (go_at_call 12; (with_reducible refine (annuletref03_Between.calls a0 a1 a2 t127 _ A12.out).mono ?_); rintro e w' ⟨rfl, ⟨nd, rfl⟩⟩))
        go_ret
        exact ⟨by first | rfl | (simp [errW_none, errW_some] <;> rfl) | (simp [*, errW_none, errW_some] <;> rfl), by repeat (first | (with_reducible first | exact HB.out | apply below_alloc | apply pw_below_drewN | apply below_drew1) | exact HB.out)⟩
    · rw [if_neg c10] at H
      have c10b0 : (t124 == t125) = false := by simpa using c10
      (try (have c10b1 : decide (t124 = t125) = false := by simpa using c10))
      (try (have c10b2 : (t124 == t125) = false := by simpa using c10))
      (try (have c10b3 : ¬ (t124 = t125) := by simpa using c10))
      clear c10
      obtain rfl := Option.some.inj H
      go_enter Try.func3, Try.ntmps3
      go_wp2_with (first | ((with_reducible refine gate_callee (f := 7) rfl ?_); refine goesL_ (some 11) rfl rfl Try.func7 (by kernel_rfl) rfl #[.int .u64 a0, .int .u64 a2] rfl (by (try simp only [List.map_toArray, List.map_cons, List.map_nil]); first | done | rfl | (simp only [List.length_drop, List.length_take]; rfl)) ?_; (with_reducible refine (ring_Dist.calls a0 a2 t122 _ A5.out).mono ?_); rintro e w' ⟨rfl, ⟨nd, rfl⟩⟩; refine ⟨_, rfl, ?_⟩) | ((with_reducible refine gate_callee (f := 8) rfl ?_); refine goesL_ (some 14) rfl rfl Try.func8 (by kernel_rfl) rfl #[.int .u64 a0, .int .u64 a2] rfl (by (try simp only [List.map_toArray, List.map_cons, List.map_nil]); first | done | rfl | (simp only [List.length_drop, List.length_take]; rfl)) ?_; (with_reducible refine (annuletref03_Dist.calls a0 a2 t123 _ A6.out).mono ?_); rintro e w' ⟨rfl, ⟨nd, rfl⟩⟩; refine ⟨_, rfl, ?_⟩) | (go_at_call 9; (with_reducible refine (ring_Upto.calls a0 a1 a2 t124 _ A8.out).mono ?_); rintro e w' ⟨rfl, ⟨nd, rfl⟩⟩) | (go_at_call 10; (with_reducible refine (annuletref03_Upto.calls a0 a1 a2 t125 _ A9.out).mono ?_); rintro e w' ⟨rfl, ⟨nd, rfl⟩⟩))
      go_ret
      exact ⟨by first | rfl | (simp [errW_none, errW_some] <;> rfl) | (simp [*, errW_none, errW_some] <;> rfl), by repeat (first | (with_reducible first | exact HB.out | apply below_alloc | apply pw_below_drewN | apply below_drew1) | exact HB.out)⟩
  · rw [if_neg c7] at H
    have c7b0 : (t122 == t123) = false := beq_eq_false_iff_ne.mpr c7
    have c7b1 : (t122 != t123) = true := bne_iff_ne.mpr c7
    obtain rfl := Option.some.inj H
    go_enter Try.func3, Try.ntmps3
    go_wp2_with (first | ((with_reducible refine gate_callee (f := 7) rfl ?_); refine goesL_ (some 11) rfl rfl Try.func7 (by kernel_rfl) rfl #[.int .u64 a0, .int .u64 a2] rfl (by (try simp only [List.map_toArray, List.map_cons, List.map_nil]); first | done | rfl | (simp only [List.length_drop, List.length_take]; rfl)) ?_; (with_reducible refine (ring_Dist.calls a0 a2 t122 _ A5.out).mono ?_); rintro e w' ⟨rfl, ⟨nd, rfl⟩⟩; refine ⟨_, rfl, ?_⟩) | ((with_reducible refine gate_callee (f := 8) rfl ?_); refine goesL_ (some 14) rfl rfl Try.func8 (by kernel_rfl) rfl #[.int .u64 a0, .int .u64 a2] rfl (by (try simp only [List.map_toArray, List.map_cons, List.map_nil]); first | done | rfl | (simp only [List.length_drop, List.length_take]; rfl)) ?_; (with_reducible refine (annuletref03_Dist.calls a0 a2 t123 _ A6.out).mono ?_); rintro e w' ⟨rfl, ⟨nd, rfl⟩⟩; refine ⟨_, rfl, ?_⟩))
    go_ret
    exact ⟨by first | rfl | (simp [errW_none, errW_some] <;> rfl) | (simp [*, errW_none, errW_some] <;> rfl), by repeat (first | (with_reducible first | exact HB.out | apply below_alloc | apply pw_below_drewN | apply below_drew1) | exact HB.out)⟩

/-- THE ONE PURE STATEMENT of annuletlaw03_RingWays: yours. -/
def annuletlaw03_RingWays.Pure : Prop := ∀ (a0 : Int) (a1 : Int) (a2 : Int) (a3 : Int), (Lit.int .u64 a0).wf = true → (Lit.int .u64 a1).wf = true → (Lit.int .u64 a2).wf = true → (Lit.int .i64 a3).wf = true → ∃ k, annuletlaw03_RingWays.f k a0 a1 a2 a3 = some true
theorem annuletlaw03_RingWays.walk (P : annuletlaw03_RingWays.Pure) (a0 : Int) (a1 : Int) (a2 : Int) (a3 : Int) (w : World) (w0 : (Lit.int .u64 a0).wf = true) (w1 : (Lit.int .u64 a1).wf = true) (w2 : (Lit.int .u64 a2).wf = true) (w3 : (Lit.int .i64 a3).wf = true) :
    Calls Try.prog 3 #[.int .u64 a0, .int .u64 a1, .int .u64 a2, .int .i64 a3] w fun e w' => e = .returned (.bool true) ∧ Below w.heap.size w w' := by
  obtain ⟨k, h⟩ := P a0 a1 a2 a3 w0 w1 w2 w3
  refine (annuletlaw03_RingWays.calls k a0 a1 a2 a3 true w h).mono ?_
  rintro e w' ⟨rfl, hd⟩
  exact ⟨rfl, hd⟩

end Go.Proofs.Ytpkodbeleefnjaa.PRingWays
