-- Printed by fprint.py (a program of this session's, over the kit's print), for this claim.
import Derived.Test.YtpkodbeleefnjaaPx0
import Derived.Test.YtpkodbeleefnjaaPx1
import Derived.Test.YtpkodbeleefnjaaPx2
namespace Go.Proofs.Ytpkodbeleefnjaa.P
open Go.RowKit Go.Proofs.YtpkodbeleefnjaaW.PrintWords Go.Proofs.YtpkodbeleefnjaaW.PrintLast Go.Proofs.YtpkodbeleefnjaaW.PrintMore
attribute [local go_sem] max2_int min2_int max_two min_two max_three min_three max_four min_four   -- for this text's walks alone
set_option linter.unusedVariables false
set_option linter.unusedSimpArgs false

/-! ### annuletlaw03_RingFirst: function 6 -/
mutual
def annuletlaw03_RingFirst.j0 : Nat → Int → List Int → List Int → Bool → Option (Bool)
 | 0, _, _, _, _ => none
 | k + 1, x0, x1, x5, x53 => if x53 = true then (none) else (annuletlaw03_RingFirst.l0 k x0 x1 x5 0)
def annuletlaw03_RingFirst.l0 : Nat → Int → List Int → List Int → Int → Option (Bool)
 | 0, _, _, _, _ => none
 | k + 1, x0, x1, x5, x7 => if x7 < (x1.length : Int) then (annuletlaw03_RingFirst.l1 k x0 x1 x5 x7 0 0 0) else ((annuletlaw03_awake.f k).bind fun t193 => (some t193))
def annuletlaw03_RingFirst.l1 : Nat → Int → List Int → List Int → Int → Int → Int → Int → Option (Bool)
 | 0, _, _, _, _, _, _, _ => none
 | k + 1, x0, x1, x5, x7, x8, x9, x10 => if x10 < (x1.length : Int) then (if 0 ≤ x10 then (if 0 ≤ x7 then (if x7 < (x1.length : Int) then (if (rd x1 x10) = (rd x1 x7) then (if x10 < (x5.length : Int) then (if (rd x5 x10) = (rd x1 x7) then (annuletlaw03_RingFirst.l1 k x0 x1 x5 x7 (wrap64 (x8 + 1)) (wrap64 (x9 + 1)) (wrap64 (x10 + 1))) else (annuletlaw03_RingFirst.l1 k x0 x1 x5 x7 x8 (wrap64 (x9 + 1)) (wrap64 (x10 + 1)))) else (none)) else (if x10 < (x5.length : Int) then (if (rd x5 x10) = (rd x1 x7) then (annuletlaw03_RingFirst.l1 k x0 x1 x5 x7 (wrap64 (x8 + 1)) x9 (wrap64 (x10 + 1))) else (annuletlaw03_RingFirst.l1 k x0 x1 x5 x7 x8 x9 (wrap64 (x10 + 1)))) else (none))) else (none)) else (none)) else (none)) else (if x8 = x9 then (if x7 > 0 then (if 0 ≤ (wrap64 (x7 - 1)) then (if (wrap64 (x7 - 1)) < (x5.length : Int) then ((ring_Dist.f x0 (rd x5 (wrap64 (x7 - 1)))).bind fun t201 => (if 0 ≤ x7 then (if x7 < (x5.length : Int) then ((ring_Dist.f x0 (rd x5 x7)).bind fun t203 => (if t201 > t203 then (none) else (annuletlaw03_RingFirst.l0 k x0 x1 x5 (wrap64 (x7 + 1))))) else (none)) else (none))) else (none)) else (none)) else (annuletlaw03_RingFirst.l0 k x0 x1 x5 (wrap64 (x7 + 1)))) else (none))
end
def annuletlaw03_RingFirst.f (k : Nat) (a0 : Int) (l1 : List Int) : Option (Bool) := if (l1.length : Int) > 40 then ((annuletlaw03_awake.f k).bind fun t186 => (some t186)) else ((ring_Sort.f a0 l1).bind fun t187 => ((ring_Owner.f k l1 a0).bind fun t190 => (if (t187.length : Int) = (l1.length : Int) then (if ((decide (t190 < 0)) != ((l1.length : Int) == 0)) = true then (annuletlaw03_RingFirst.j0 k a0 l1 t187 true) else (if t190 ≥ (l1.length : Int) then (annuletlaw03_RingFirst.j0 k a0 l1 t187 true) else (if t190 ≥ 0 then (if 0 < (t187.length : Int) then (if 0 ≤ t190 then (if t190 < (l1.length : Int) then (annuletlaw03_RingFirst.j0 k a0 l1 t187 ((rd t187 0) != (rd l1 t190))) else (none)) else (none)) else (none)) else (annuletlaw03_RingFirst.j0 k a0 l1 t187 false)))) else (annuletlaw03_RingFirst.j0 k a0 l1 t187 true))))
theorem annuletlaw03_RingFirst.mono_l : ∀ k, (∀ y0 y1 y2 y3, LeO (annuletlaw03_RingFirst.j0 k y0 y1 y2 y3) (annuletlaw03_RingFirst.j0 (k + 1) y0 y1 y2 y3)) ∧ (∀ y0 y1 y2 y3, LeO (annuletlaw03_RingFirst.l0 k y0 y1 y2 y3) (annuletlaw03_RingFirst.l0 (k + 1) y0 y1 y2 y3)) ∧ (∀ y0 y1 y2 y3 y4 y5 y6, LeO (annuletlaw03_RingFirst.l1 k y0 y1 y2 y3 y4 y5 y6) (annuletlaw03_RingFirst.l1 (k + 1) y0 y1 y2 y3 y4 y5 y6))
 | 0 => ⟨fun _ _ _ _ r h => by simp [annuletlaw03_RingFirst.j0] at h, fun _ _ _ _ r h => by simp [annuletlaw03_RingFirst.l0] at h, fun _ _ _ _ _ _ _ r h => by simp [annuletlaw03_RingFirst.l1] at h⟩
 | k + 1 => by
  obtain ⟨ih0, ih1, ih2⟩ := annuletlaw03_RingFirst.mono_l k
  refine ⟨?_, ?_, ?_⟩
  ·intro y0 y1 y2 y3
   unfold annuletlaw03_RingFirst.j0
   repeat' first
   | (with_reducible exact ih0 _ _ _ _)
   | (with_reducible exact ih1 _ _ _ _)
   | (with_reducible exact ih2 _ _ _ _ _ _ _)
   | (with_reducible exact annuletlaw03_awake.mono _)
   | (with_reducible exact ring_Owner.mono _ _ _)
   | (with_reducible exact LeO.refl _)
   | (with_reducible exact LeO.none _)
   | (with_reducible refine LeO.ite ?_ ?_)
   | (with_reducible refine LeO.bind ?_ (fun _ => ?_))
   | exact ih0 _ _ _ _
   | exact ih1 _ _ _ _
   | exact ih2 _ _ _ _ _ _ _
   | exact annuletlaw03_awake.mono _
   | exact ring_Owner.mono _ _ _
   | exact LeO.none _
   | refine LeO.ite ?_ ?_
   | refine LeO.bind ?_ (fun _ => ?_)
  ·intro y0 y1 y2 y3
   unfold annuletlaw03_RingFirst.l0
   repeat' first
   | (with_reducible exact ih0 _ _ _ _)
   | (with_reducible exact ih1 _ _ _ _)
   | (with_reducible exact ih2 _ _ _ _ _ _ _)
   | (with_reducible exact annuletlaw03_awake.mono _)
   | (with_reducible exact ring_Owner.mono _ _ _)
   | (with_reducible exact LeO.refl _)
   | (with_reducible exact LeO.none _)
   | (with_reducible refine LeO.ite ?_ ?_)
   | (with_reducible refine LeO.bind ?_ (fun _ => ?_))
   | exact ih0 _ _ _ _
   | exact ih1 _ _ _ _
   | exact ih2 _ _ _ _ _ _ _
   | exact annuletlaw03_awake.mono _
   | exact ring_Owner.mono _ _ _
   | exact LeO.none _
   | refine LeO.ite ?_ ?_
   | refine LeO.bind ?_ (fun _ => ?_)
  ·intro y0 y1 y2 y3 y4 y5 y6
   unfold annuletlaw03_RingFirst.l1
   repeat' first
   | (with_reducible exact ih0 _ _ _ _)
   | (with_reducible exact ih1 _ _ _ _)
   | (with_reducible exact ih2 _ _ _ _ _ _ _)
   | (with_reducible exact annuletlaw03_awake.mono _)
   | (with_reducible exact ring_Owner.mono _ _ _)
   | (with_reducible exact LeO.refl _)
   | (with_reducible exact LeO.none _)
   | (with_reducible refine LeO.ite ?_ ?_)
   | (with_reducible refine LeO.bind ?_ (fun _ => ?_))
   | exact ih0 _ _ _ _
   | exact ih1 _ _ _ _
   | exact ih2 _ _ _ _ _ _ _
   | exact annuletlaw03_awake.mono _
   | exact ring_Owner.mono _ _ _
   | exact LeO.none _
   | refine LeO.ite ?_ ?_
   | refine LeO.bind ?_ (fun _ => ?_)
theorem annuletlaw03_RingFirst.mono : ∀ a0 a1 k, LeO (annuletlaw03_RingFirst.f k a0 a1) (annuletlaw03_RingFirst.f (k + 1) a0 a1) := by
 intro a0 a1 k
 obtain ⟨ih0, ih1, ih2⟩ := annuletlaw03_RingFirst.mono_l k
 unfold annuletlaw03_RingFirst.f
 repeat' first
   | (with_reducible exact ih0 _ _ _ _)
   | (with_reducible exact ih1 _ _ _ _)
   | (with_reducible exact ih2 _ _ _ _ _ _ _)
   | (with_reducible exact annuletlaw03_awake.mono _)
   | (with_reducible exact ring_Owner.mono _ _ _)
   | (with_reducible exact LeO.refl _)
   | (with_reducible exact LeO.none _)
   | (with_reducible refine LeO.ite ?_ ?_)
   | (with_reducible refine LeO.bind ?_ (fun _ => ?_))
   | exact ih0 _ _ _ _
   | exact ih1 _ _ _ _
   | exact ih2 _ _ _ _ _ _ _
   | exact annuletlaw03_awake.mono _
   | exact ring_Owner.mono _ _ _
   | exact LeO.none _
   | refine LeO.ite ?_ ?_
   | refine LeO.bind ?_ (fun _ => ?_)
set_option maxHeartbeats 8000000 in
set_option maxRecDepth 100000 in
theorem annuletlaw03_RingFirst.calls (k : Nat) (a0 : Int) (A1 : Option Addr) (c1 : Nat) (l1 : List Int) (r : Bool) (w : World) (hr1 : Kd.C (Kd.int .u64) w A1 l1.length l1) (hc1 : l1.length ≤ c1) (h : annuletlaw03_RingFirst.f k a0 l1 = some r) :
  Calls Try.prog 6 #[.int .u64 a0, .slice A1 l1.length c1] w fun e w' => e = .returned (.bool r) ∧ Below w.heap.size w w' := by
 have HR1 := Aside0.mk hr1
 have HC1 := Aside0.mk hc1
 clear hr1 hc1
 have HB := Aside0.mk (Below.refl w.heap.size w)
 have H : (if (l1.length : Int) > 40 then ((annuletlaw03_awake.f k).bind fun t186 => (some t186)) else ((ring_Sort.f a0 l1).bind fun t187 => ((ring_Owner.f k l1 a0).bind fun t190 => (if (t187.length : Int) = (l1.length : Int) then (if ((decide (t190 < 0)) != ((l1.length : Int) == 0)) = true then (annuletlaw03_RingFirst.j0 k a0 l1 t187 true) else (if t190 ≥ (l1.length : Int) then (annuletlaw03_RingFirst.j0 k a0 l1 t187 true) else (if t190 ≥ 0 then (if 0 < (t187.length : Int) then (if 0 ≤ t190 then (if t190 < (l1.length : Int) then (annuletlaw03_RingFirst.j0 k a0 l1 t187 ((rd t187 0) != (rd l1 t190))) else (none)) else (none)) else (none)) else (annuletlaw03_RingFirst.j0 k a0 l1 t187 false)))) else (annuletlaw03_RingFirst.j0 k a0 l1 t187 true))))) = some r := h
 clear h
 by_cases c3 : (l1.length : Int) > 40
 ·rw [if_pos c3] at H
  have c3b0 : decide (40 < (l1.length : Int)) = true := decide_eq_true c3
  have c3b1 : decide (40 < l1.length) = true := decide_eq_true (by omega)
  clear c3
  replace H := Option.bind_eq_some_iff.mp H
  obtain ⟨t186, A40, H⟩ := H
  replace H : (some t186) = some r := H
  have A4 := Aside0.mk A40
  clear A40
  obtain rfl := Option.some.inj H
  go_enter Try.func6, Try.ntmps6
  go_wp2_with (first | (go_at_call 15; (with_reducible refine (annuletlaw03_awake.calls k  t186 _ A4.out).mono ?_); rintro e w5 ⟨rfl, hb⟩; have n0_ := Aside0.mk (below_step (by repeat (first | (with_reducible first | exact HB.out | apply below_alloc | apply pw_below_drewN | apply below_drew1) | exact HB.out)) hb); clear HB; have HB := n0_; clear n0_; (try clear hb); (try clear hb2); (try clear hk); (try clear hi)))
  repeat (go_quiet (first | (go_at_call 15; (with_reducible refine (annuletlaw03_awake.calls k  t186 _ A4.out).mono ?_); rintro e w5 ⟨rfl, hb⟩; have n0_ := Aside0.mk (below_step (by repeat (first | (with_reducible first | exact HB.out | apply below_alloc | apply pw_below_drewN | apply below_drew1) | exact HB.out)) hb); clear HB; have HB := n0_; clear n0_; (try clear hb); (try clear hb2); (try clear hk); (try clear hi))); try go_wp2_with (first | (go_at_call 15; (with_reducible refine (annuletlaw03_awake.calls k  t186 _ A4.out).mono ?_); rintro e w5 ⟨rfl, hb⟩; have n0_ := Aside0.mk (below_step (by repeat (first | (with_reducible first | exact HB.out | apply below_alloc | apply pw_below_drewN | apply below_drew1) | exact HB.out)) hb); clear HB; have HB := n0_; clear n0_; (try clear hb); (try clear hb2); (try clear hk); (try clear hi))))
  go_ret
  exact ⟨by first | rfl | (simp [errW_none, errW_some] <;> rfl) | (simp [*, errW_none, errW_some] <;> rfl), by repeat (first | (with_reducible first | exact HB.out | apply below_alloc | apply pw_below_drewN | apply below_drew1) | exact HB.out)⟩
 ·rw [if_neg c3] at H
  have c3b0 : decide (40 < (l1.length : Int)) = false := decide_eq_false c3
  have c3b1 : decide (40 < l1.length) = false := decide_eq_false (by omega)
  clear c3
  replace H := Option.bind_eq_some_iff.mp H
  obtain ⟨t187, A60, H⟩ := H
  replace H : ((ring_Owner.f k l1 a0).bind fun t190 => (if (t187.length : Int) = (l1.length : Int) then (if ((decide (t190 < 0)) != ((l1.length : Int) == 0)) = true then (annuletlaw03_RingFirst.j0 k a0 l1 t187 true) else (if t190 ≥ (l1.length : Int) then (annuletlaw03_RingFirst.j0 k a0 l1 t187 true) else (if t190 ≥ 0 then (if 0 < (t187.length : Int) then (if 0 ≤ t190 then (if t190 < (l1.length : Int) then (annuletlaw03_RingFirst.j0 k a0 l1 t187 ((rd t187 0) != (rd l1 t190))) else (none)) else (none)) else (none)) else (annuletlaw03_RingFirst.j0 k a0 l1 t187 false)))) else (annuletlaw03_RingFirst.j0 k a0 l1 t187 true))) = some r := H
  have A6 := Aside0.mk A60
  clear A60
  replace H := Option.bind_eq_some_iff.mp H
  obtain ⟨t190, A70, H⟩ := H
  replace H : (if (t187.length : Int) = (l1.length : Int) then (if ((decide (t190 < 0)) != ((l1.length : Int) == 0)) = true then (annuletlaw03_RingFirst.j0 k a0 l1 t187 true) else (if t190 ≥ (l1.length : Int) then (annuletlaw03_RingFirst.j0 k a0 l1 t187 true) else (if t190 ≥ 0 then (if 0 < (t187.length : Int) then (if 0 ≤ t190 then (if t190 < (l1.length : Int) then (annuletlaw03_RingFirst.j0 k a0 l1 t187 ((rd t187 0) != (rd l1 t190))) else (none)) else (none)) else (none)) else (annuletlaw03_RingFirst.j0 k a0 l1 t187 false)))) else (annuletlaw03_RingFirst.j0 k a0 l1 t187 true)) = some r := H
  have A7 := Aside0.mk A70
  clear A70
  have HC8 := Aside0.mk H
  clear H
  go_enter Try.func6, Try.ntmps6
  go_upto_region 5 with (first | (go_at_call 19; (with_reducible refine (ring_Sort.calls a0 _ _ l1 t187 _ ?side1 ?side2 A6.out).mono ?_); (case side1 => repeat (first | exact HR1.out | (with_reducible refine Kd.C_alloc ?_ _) | (with_reducible refine Kd.C_drewN ?_ _) | (with_reducible refine Kd.C_drew ?_))); (case side2 => exact HC1.out); rintro e w9 ⟨v188, rfl, ho0, hb⟩; have n0_ := Aside0.mk (Kd.R_lower ho0 (below_size (by repeat (first | (with_reducible first | exact HB.out | apply below_alloc | apply pw_below_drewN | apply below_drew1) | exact HB.out)))); have n1_ := Aside0.mk (below_step (by repeat (first | (with_reducible first | exact HB.out | apply below_alloc | apply pw_below_drewN | apply below_drew1) | exact HB.out)) hb); clear HB; have HO189 := n0_; have HB := n1_; clear n0_ n1_; (try clear hb); (try clear hb2); (try clear hk); (try clear hi); (try clear ho0)) | (go_at_call 16; (with_reducible refine (ring_Owner.calls k _ _ l1 a0 t190 _ ?side1 ?side2 A7.out).mono ?_); (case side1 => repeat (first | exact (Kd.C_below HR1.out HB.out) | (with_reducible refine Kd.C_alloc ?_ _) | (with_reducible refine Kd.C_drewN ?_ _) | (with_reducible refine Kd.C_drew ?_))); (case side2 => exact HC1.out); rintro e w' ⟨rfl, ⟨nd, rfl⟩⟩; (try first | exact ⟨rfl, _, World.drewN_drewN _ _ _⟩ | exact ⟨rfl, _, Eq.trans (World.drewN_drewN _ _ _) (congrArg (World.drewN _) (Nat.add_assoc _ _ _))⟩)))
  repeat (go_quiet (first | (go_at_call 19; (with_reducible refine (ring_Sort.calls a0 _ _ l1 t187 _ ?side1 ?side2 A6.out).mono ?_); (case side1 => repeat (first | exact HR1.out | (with_reducible refine Kd.C_alloc ?_ _) | (with_reducible refine Kd.C_drewN ?_ _) | (with_reducible refine Kd.C_drew ?_))); (case side2 => exact HC1.out); rintro e w9 ⟨v188, rfl, ho0, hb⟩; have n0_ := Aside0.mk (Kd.R_lower ho0 (below_size (by repeat (first | (with_reducible first | exact HB.out | apply below_alloc | apply pw_below_drewN | apply below_drew1) | exact HB.out)))); have n1_ := Aside0.mk (below_step (by repeat (first | (with_reducible first | exact HB.out | apply below_alloc | apply pw_below_drewN | apply below_drew1) | exact HB.out)) hb); clear HB; have HO189 := n0_; have HB := n1_; clear n0_ n1_; (try clear hb); (try clear hb2); (try clear hk); (try clear hi); (try clear ho0)) | (go_at_call 16; (with_reducible refine (ring_Owner.calls k _ _ l1 a0 t190 _ ?side1 ?side2 A7.out).mono ?_); (case side1 => repeat (first | exact (Kd.C_below HR1.out HB.out) | (with_reducible refine Kd.C_alloc ?_ _) | (with_reducible refine Kd.C_drewN ?_ _) | (with_reducible refine Kd.C_drew ?_))); (case side2 => exact HC1.out); rintro e w' ⟨rfl, ⟨nd, rfl⟩⟩; (try first | exact ⟨rfl, _, World.drewN_drewN _ _ _⟩ | exact ⟨rfl, _, Eq.trans (World.drewN_drewN _ _ _) (congrArg (World.drewN _) (Nat.add_assoc _ _ _))⟩))); go_upto_region 5 with (first | (go_at_call 19; (with_reducible refine (ring_Sort.calls a0 _ _ l1 t187 _ ?side1 ?side2 A6.out).mono ?_); (case side1 => repeat (first | exact HR1.out | (with_reducible refine Kd.C_alloc ?_ _) | (with_reducible refine Kd.C_drewN ?_ _) | (with_reducible refine Kd.C_drew ?_))); (case side2 => exact HC1.out); rintro e w9 ⟨v188, rfl, ho0, hb⟩; have n0_ := Aside0.mk (Kd.R_lower ho0 (below_size (by repeat (first | (with_reducible first | exact HB.out | apply below_alloc | apply pw_below_drewN | apply below_drew1) | exact HB.out)))); have n1_ := Aside0.mk (below_step (by repeat (first | (with_reducible first | exact HB.out | apply below_alloc | apply pw_below_drewN | apply below_drew1) | exact HB.out)) hb); clear HB; have HO189 := n0_; have HB := n1_; clear n0_ n1_; (try clear hb); (try clear hb2); (try clear hk); (try clear hi); (try clear ho0)) | (go_at_call 16; (with_reducible refine (ring_Owner.calls k _ _ l1 a0 t190 _ ?side1 ?side2 A7.out).mono ?_); (case side1 => repeat (first | exact (Kd.C_below HR1.out HB.out) | (with_reducible refine Kd.C_alloc ?_ _) | (with_reducible refine Kd.C_drewN ?_ _) | (with_reducible refine Kd.C_drew ?_))); (case side2 => exact HC1.out); rintro e w' ⟨rfl, ⟨nd, rfl⟩⟩; (try first | exact ⟨rfl, _, World.drewN_drewN _ _ _⟩ | exact ⟨rfl, _, Eq.trans (World.drewN_drewN _ _ _) (congrArg (World.drewN _) (Nat.add_assoc _ _ _))⟩))))
  (try simp only [Act.put, la_, lz_, ls_])
  go_cut [53] (fun v53 wc => ∃ (kq : Nat) (x53_7 : Bool), v53 = .bool x53_7 ∧ Aside0 (annuletlaw03_RingFirst.j0 kq a0 l1 t187 x53_7 = some r) ∧ Aside0 (kq ≤ k) ∧ Aside0 (Kd.R (Kd.int .u64) 22 wc w.heap.size (fun _ => True) v188 t187) ∧ Aside0 (Below w.heap.size w wc))
  case first =>
   have H := HC8.out
   clear HC8
   by_cases c10 : (t187.length : Int) = (l1.length : Int)
   ·rw [if_pos c10] at H
    have c10b0 : ((t187.length : Int) == (l1.length : Int)) = true := beq_iff_eq.mpr c10
    have c10b1 : ((t187.length : Int) != (l1.length : Int)) = false := bne_eq_false_iff_eq.mpr c10
    have c10b2 : (t187.length == l1.length) = true := by first | simpa using c10 | (simp at c10 ⊢; omega)
    clear c10
    (first | rw [c10b0] | (simp only [i64_w, i32_w]; rw [c10b0]) | skip)
    by_cases c11 : ((decide (t190 < 0)) != ((l1.length : Int) == 0)) = true
    ·rw [if_pos c11] at H
     have c11b0 : ((decide (t190 < 0)) != ((l1.length : Int) == 0)) = true := c11
     (try (have c11b1 : decide ((decide (t190 < 0)) = ((l1.length : Int) == 0)) = false := by simpa using c11))
     (try (have c11b2 : ((decide (t190 < 0)) == ((l1.length : Int) == 0)) = false := by simpa using c11))
     (try (have c11b3 : ¬ ((decide (t190 < 0)) = ((l1.length : Int) == 0)) := by simpa using c11))
     clear c11
     have H' := Aside0.mk H
     clear H
     obtain ⟨Ao12, co12, eo12⟩ := Kd.R_slice HO189.out
     subst eo12
     go_wp2
     repeat (go_quiet (fail); try go_wp2)
     go_meet
     case rel => exact ⟨_, (true), (by first | rfl | (simp; done) | (simp [*]; done)), H', ⟨by first | omega | exact Nat.le_refl _⟩, ⟨by (with_reducible repeat (first | apply Kd.R_alloc | apply Kd.R_drewN | apply Kd.R_drew)); exact HO189.out⟩, ⟨by repeat (first | (with_reducible first | exact HB.out | apply below_alloc | apply pw_below_drewN | apply below_drew1) | exact HB.out)⟩⟩
    ·rw [if_neg c11] at H
     have c11b0 : ((decide (t190 < 0)) != ((l1.length : Int) == 0)) = false := by simpa using c11
     (try (have c11b1 : decide ((decide (t190 < 0)) = ((l1.length : Int) == 0)) = true := by simpa using c11))
     (try (have c11b2 : ((decide (t190 < 0)) == ((l1.length : Int) == 0)) = true := by simpa using c11))
     clear c11
     by_cases c13 : t190 ≥ (l1.length : Int)
     ·rw [if_pos c13] at H
      have c13b0 : decide ((l1.length : Int) ≤ t190) = true := decide_eq_true c13
      clear c13
      have H' := Aside0.mk H
      clear H
      obtain ⟨Ao14, co14, eo14⟩ := Kd.R_slice HO189.out
      subst eo14
      go_wp2
      repeat (go_quiet (fail); try go_wp2)
      go_meet
      case rel => exact ⟨_, (true), (by first | rfl | (simp; done) | (simp [*]; done)), H', ⟨by first | omega | exact Nat.le_refl _⟩, ⟨by (with_reducible repeat (first | apply Kd.R_alloc | apply Kd.R_drewN | apply Kd.R_drew)); exact HO189.out⟩, ⟨by repeat (first | (with_reducible first | exact HB.out | apply below_alloc | apply pw_below_drewN | apply below_drew1) | exact HB.out)⟩⟩
     ·rw [if_neg c13] at H
      have c13b0 : decide ((l1.length : Int) ≤ t190) = false := decide_eq_false c13
      clear c13
      by_cases c15 : t190 ≥ 0
      ·rw [if_pos c15] at H
       have c15b0 : decide (0 ≤ t190) = true := decide_eq_true c15
       clear c15
       by_cases c16 : 0 < (t187.length : Int)
       ·rw [if_pos c16] at H
        have c16b0 : decide (0 < (t187.length : Int)) = true := decide_eq_true c16
        have c16b1 : decide (0 < t187.length) = true := decide_eq_true (by omega)
        clear c16
        by_cases c17 : 0 ≤ t190
        ·rw [if_pos c17] at H
         have c17b0 : decide (0 ≤ t190) = true := decide_eq_true c17
         clear c17
         by_cases c18 : t190 < (l1.length : Int)
         ·rw [if_pos c18] at H
          have c18b0 : decide (t190 < (l1.length : Int)) = true := decide_eq_true c18
          clear c18
          have H' := Aside0.mk H
          clear H
          obtain ⟨Ao19, co19, eo19⟩ := Kd.R_slice HO189.out
          subst eo19
          have p191 : 0 ≤ (0 : Int) := (by omega)
          have q191 : 0 < (t187.length : Int) := of_decide_eq_true (by first | (with_reducible assumption) | assumption)
          obtain ⟨ad191, e191, hx191_0⟩ := Kd.at_int (Kd.R_reads' HO189.out).2.2 0 p191 q191
          cases e191
          have qi191 : (0 < t187.length) = True := eq_true (by omega)
          (try rw [show ((0 : Int)).toNat = 0 from rfl] at hx191_0)
          (try rw [Addr.add_zero'] at hx191_0)
          replace p191 := eq_true p191
          replace q191 := eq_true q191
          have p192 : 0 ≤ (t190 : Int) := of_decide_eq_true (by first | (with_reducible assumption) | assumption)
          have q192 : t190 < (l1.length : Int) := of_decide_eq_true (by first | (with_reducible assumption) | assumption)
          obtain ⟨ad192, e192, hx192_0⟩ := Kd.at_int HR1.out t190 p192 q192
          cases e192
          replace hx192_0 := (HB.out.cell (World.block_lt_of_cell? w _ hx192_0)).trans hx192_0
          replace p192 := eq_true p192
          replace q192 := eq_true q192
          go_wp2
          repeat (go_quiet (fail); try go_wp2)
          go_meet
          case rel => exact ⟨_, (((rd t187 0) != (rd l1 t190))), (by first | rfl | (simp; done) | (simp [*]; done)), H', ⟨by first | omega | exact Nat.le_refl _⟩, ⟨by (with_reducible repeat (first | apply Kd.R_alloc | apply Kd.R_drewN | apply Kd.R_drew)); exact HO189.out⟩, ⟨by repeat (first | (with_reducible first | exact HB.out | apply below_alloc | apply pw_below_drewN | apply below_drew1) | exact HB.out)⟩⟩
         ·rw [if_neg c18] at H
          exact absurd H (by simp)
        ·rw [if_neg c17] at H
         exact absurd H (by simp)
       ·rw [if_neg c16] at H
        exact absurd H (by simp)
      ·rw [if_neg c15] at H
       have c15b0 : decide (0 ≤ t190) = false := decide_eq_false c15
       clear c15
       have H' := Aside0.mk H
       clear H
       obtain ⟨Ao20, co20, eo20⟩ := Kd.R_slice HO189.out
       subst eo20
       go_wp2
       repeat (go_quiet (fail); try go_wp2)
       go_meet
       case rel => exact ⟨_, (false), (by first | rfl | (simp; done) | (simp [*]; done)), H', ⟨by first | omega | exact Nat.le_refl _⟩, ⟨by (with_reducible repeat (first | apply Kd.R_alloc | apply Kd.R_drewN | apply Kd.R_drew)); exact HO189.out⟩, ⟨by repeat (first | (with_reducible first | exact HB.out | apply below_alloc | apply pw_below_drewN | apply below_drew1) | exact HB.out)⟩⟩
   ·rw [if_neg c10] at H
    have c10b0 : ((t187.length : Int) == (l1.length : Int)) = false := beq_eq_false_iff_ne.mpr c10
    have c10b1 : ((t187.length : Int) != (l1.length : Int)) = true := bne_iff_ne.mpr c10
    have c10b2 : (t187.length == l1.length) = false := by first | simpa using c10 | (simp at c10 ⊢; omega)
    (first | rw [c10b0] | (simp only [i64_w, i32_w]; rw [c10b0]) | skip)
    have H' := Aside0.mk H
    clear H
    obtain ⟨Ao21, co21, eo21⟩ := Kd.R_slice HO189.out
    subst eo21
    go_wp2
    repeat (go_quiet (fail); try go_wp2)
    go_meet
    case rel => exact ⟨_, (true), (by first | rfl | (simp; done) | (simp [*]; done)), H', ⟨by first | omega | exact Nat.le_refl _⟩, ⟨by (with_reducible repeat (first | apply Kd.R_alloc | apply Kd.R_drewN | apply Kd.R_drew)); exact HO189.out⟩, ⟨by repeat (first | (with_reducible first | exact HB.out | apply below_alloc | apply pw_below_drewN | apply below_drew1) | exact HB.out)⟩⟩
  case rest =>
   clear HC8
   try clear c1
   try clear p1
   try clear q1
   try clear hx1
   try clear qi1
   try clear p2
   try clear c3
   try clear c3b0
   try clear c3b1
   try clear c6
   try clear c10
   try clear c10b0
   try clear c10b1
   try clear c10b2
   try clear c11
   try clear c11b0
   try clear c11b1
   try clear c11b2
   try clear c13
   try clear c13b0
   try clear c15
   try clear c15b0
   try clear c16
   try clear c16b0
   try clear c16b1
   try clear c17
   try clear c17b0
   try clear c18
   try clear c18b0
   try clear p19
   try clear q19
   try clear hx19
   try clear qi19
   try clear hx191_0
   try clear hx192_0
   try clear p191
   try clear p192
   try clear q191
   try clear q192
   obtain ⟨kq, x53_7, rfl, HA, HJ7, HO_5, HB⟩ := hcut
   cases kq with
   | zero => exact absurd HA.out (by simp [annuletlaw03_RingFirst.j0])
   | succ kj7 =>
    have H := HA.out
    clear HA
    simp only [annuletlaw03_RingFirst.j0] at H
    by_cases c22 : x53_7 = true
    ·subst c22
     have H1 : (none) = some r := by rw [if_pos rfl] at H; exact H
     clear H
     have H := H1
     clear H1
     exact absurd H (by simp)
    ·replace c22 := Bool.eq_false_iff.mpr c22
     subst c22
     have H1 : (annuletlaw03_RingFirst.l0 kj7 a0 l1 t187 0) = some r := by rw [if_neg (show ¬ (false = true) by decide)] at H; exact H
     clear H
     have H := H1
     clear H1
     have H' := Aside0.mk H
     clear H
     go_wp2
     repeat (go_quiet (fail); try go_wp2)
     go_loopg [7] kj7 (fun kq v7 w' => ∃ (x7_2 : Int), v7 = .int .i64 x7_2 ∧ Aside0 (annuletlaw03_RingFirst.l0 kq a0 l1 t187 x7_2 = some r) ∧ Aside0 (kq ≤ kj7) ∧ Aside0 (Kd.R (Kd.int .u64) 22 w' w.heap.size (fun _ => True) v188 t187) ∧ Aside0 (Below w.heap.size w w'))
     case atStart => exact ⟨(0), (by first | rfl | (simp; done) | (simp [*]; done)), H', ⟨Nat.le_refl _⟩, ⟨by (with_reducible repeat (first | apply Kd.R_alloc | apply Kd.R_drewN | apply Kd.R_drew)); exact HO_5.out⟩, ⟨by repeat (first | (with_reducible first | exact HB.out | apply below_alloc | apply pw_below_drewN | apply below_drew1) | exact HB.out)⟩⟩
     case round =>
      clear H'
      try clear c1
      try clear p1
      try clear q1
      try clear hx1
      try clear qi1
      try clear c2
      try clear p2
      try clear c3
      try clear c3b0
      try clear c3b1
      try clear c6
      try clear c10
      try clear c10b0
      try clear c10b1
      try clear c10b2
      try clear c11
      try clear c11b0
      try clear c11b1
      try clear c11b2
      try clear c13
      try clear c13b0
      try clear c15
      try clear c15b0
      try clear c16
      try clear c16b0
      try clear c16b1
      try clear c17
      try clear c17b0
      try clear c18
      try clear c18b0
      try clear p19
      try clear q19
      try clear hx19
      try clear qi19
      try clear c22
      try clear hx191_0
      try clear hx192_0
      try clear p1
      try clear p19
      try clear p191
      try clear p192
      try clear p2
      try clear q1
      try clear q19
      try clear q191
      try clear q192
      obtain ⟨x7_2, rfl, HA, HK2, HO_5, HB⟩ := hrel
      cases gk with
      | zero => exact absurd HA.out (by simp [annuletlaw03_RingFirst.l0])
      | succ k2 =>
       have H := HA.out
       clear HA
       simp only [annuletlaw03_RingFirst.l0] at H
       by_cases c23 : x7_2 < (l1.length : Int)
       ·rw [if_pos c23] at H
        have c23b0 : decide (x7_2 < (l1.length : Int)) = true := decide_eq_true c23
        clear c23
        have H' := Aside0.mk H
        clear H
        go_wp2
        repeat (go_quiet (fail); try go_wp2)
        go_loopg [8, 9, 10] k2 (fun kq v8 v9 v10 w' => ∃ (x8_3 : Int) (x9_3 : Int) (x10_3 : Int), v8 = .int .i64 x8_3 ∧ v9 = .int .i64 x9_3 ∧ v10 = .int .i64 x10_3 ∧ Aside0 (annuletlaw03_RingFirst.l1 kq a0 l1 t187 x7_2 x8_3 x9_3 x10_3 = some r) ∧ Aside0 (kq ≤ k2) ∧ Aside0 (Kd.R (Kd.int .u64) 22 w' w.heap.size (fun _ => True) v188 t187) ∧ Aside0 (Below w.heap.size w w'))
        case atStart => exact ⟨(0), (0), (0), (by first | rfl | (simp; done) | (simp [*]; done)), (by first | rfl | (simp; done) | (simp [*]; done)), (by first | rfl | (simp; done) | (simp [*]; done)), H', ⟨Nat.le_refl _⟩, ⟨by (with_reducible repeat (first | apply Kd.R_alloc | apply Kd.R_drewN | apply Kd.R_drew)); exact HO_5.out⟩, ⟨by repeat (first | (with_reducible first | exact HB.out | apply below_alloc | apply pw_below_drewN | apply below_drew1) | exact HB.out)⟩⟩
        case round =>
         clear H'
         try clear c1
         try clear p1
         try clear q1
         try clear hx1
         try clear qi1
         try clear c2
         try clear p2
         try clear c3
         try clear c3b0
         try clear c3b1
         try clear c6
         try clear c10
         try clear c10b0
         try clear c10b1
         try clear c10b2
         try clear c11
         try clear c11b0
         try clear c11b1
         try clear c11b2
         try clear c13
         try clear c13b0
         try clear c15
         try clear c15b0
         try clear c16
         try clear c16b0
         try clear c16b1
         try clear c17
         try clear c17b0
         try clear c18
         try clear c18b0
         try clear p19
         try clear q19
         try clear hx19
         try clear qi19
         try clear c22
         try clear c23
         try clear c23b0
         try clear hx191_0
         try clear hx192_0
         try clear p1
         try clear p19
         try clear p191
         try clear p192
         try clear p2
         try clear q1
         try clear q19
         try clear q191
         try clear q192
         obtain ⟨x8_3, x9_3, x10_3, rfl, rfl, rfl, HA, HK3, HO_5, HB⟩ := hrel
         cases gk with
         | zero => exact absurd HA.out (by simp [annuletlaw03_RingFirst.l1])
         | succ k3 =>
          have H := HA.out
          clear HA
          simp only [annuletlaw03_RingFirst.l1] at H
          by_cases c24 : x10_3 < (l1.length : Int)
          ·rw [if_pos c24] at H
           have c24b0 : decide (x10_3 < (l1.length : Int)) = true := decide_eq_true c24
           clear c24
           by_cases c25 : 0 ≤ x10_3
           ·rw [if_pos c25] at H
            have c25b0 : decide (0 ≤ x10_3) = true := decide_eq_true c25
            clear c25
            by_cases c26 : 0 ≤ x7_2
            ·rw [if_pos c26] at H
             have c26b0 : decide (0 ≤ x7_2) = true := decide_eq_true c26
             clear c26
             by_cases c27 : x7_2 < (l1.length : Int)
             ·rw [if_pos c27] at H
              have c27b0 : decide (x7_2 < (l1.length : Int)) = true := decide_eq_true c27
              clear c27
              by_cases c28 : (rd l1 x10_3) = (rd l1 x7_2)
              ·rw [if_pos c28] at H
               have c28b0 : ((rd l1 x10_3) == (rd l1 x7_2)) = true := beq_iff_eq.mpr c28
               have c28b1 : ((rd l1 x10_3) != (rd l1 x7_2)) = false := bne_eq_false_iff_eq.mpr c28
               clear c28
               by_cases c29 : x10_3 < (t187.length : Int)
               ·rw [if_pos c29] at H
                have c29b0 : decide (x10_3 < (t187.length : Int)) = true := decide_eq_true c29
                clear c29
                by_cases c30 : (rd t187 x10_3) = (rd l1 x7_2)
                ·rw [if_pos c30] at H
                 have c30b0 : ((rd t187 x10_3) == (rd l1 x7_2)) = true := beq_iff_eq.mpr c30
                 have c30b1 : ((rd t187 x10_3) != (rd l1 x7_2)) = false := bne_eq_false_iff_eq.mpr c30
                 clear c30
                 have H' := Aside0.mk H
                 clear H
                 have p194 : 0 ≤ (x10_3 : Int) := of_decide_eq_true (by first | (with_reducible assumption) | assumption)
                 have q194 : x10_3 < (l1.length : Int) := of_decide_eq_true (by first | (with_reducible assumption) | assumption)
                 obtain ⟨ad194, e194, hx194_0⟩ := Kd.at_int HR1.out x10_3 p194 q194
                 cases e194
                 replace hx194_0 := (HB.out.cell (World.block_lt_of_cell? w _ hx194_0)).trans hx194_0
                 replace p194 := eq_true p194
                 replace q194 := eq_true q194
                 have p195 : 0 ≤ (x7_2 : Int) := of_decide_eq_true (by first | (with_reducible assumption) | assumption)
                 have q195 : x7_2 < (l1.length : Int) := of_decide_eq_true (by first | (with_reducible assumption) | assumption)
                 obtain ⟨ad195, e195, hx195_0⟩ := Kd.at_int HR1.out x7_2 p195 q195
                 obtain rfl : ad194 = ad195 := (by injection e195)
                 replace hx195_0 := (HB.out.cell (World.block_lt_of_cell? w _ hx195_0)).trans hx195_0
                 replace p195 := eq_true p195
                 replace q195 := eq_true q195
                 obtain ⟨Ao31, co31, eo31⟩ := Kd.R_slice HO_5.out
                 subst eo31
                 have p196 : 0 ≤ (x10_3 : Int) := of_decide_eq_true (by first | (with_reducible assumption) | assumption)
                 have q196 : x10_3 < (t187.length : Int) := of_decide_eq_true (by first | (with_reducible assumption) | assumption)
                 obtain ⟨ad196, e196, hx196_0⟩ := Kd.at_int (Kd.R_reads' HO_5.out).2.2 x10_3 p196 q196
                 cases e196
                 replace p196 := eq_true p196
                 replace q196 := eq_true q196
                 have p197 : 0 ≤ (x7_2 : Int) := of_decide_eq_true (by first | (with_reducible assumption) | assumption)
                 have q197 : x7_2 < (l1.length : Int) := of_decide_eq_true (by first | (with_reducible assumption) | assumption)
                 obtain ⟨ad197, e197, hx197_0⟩ := Kd.at_int HR1.out x7_2 p197 q197
                 obtain rfl : ad194 = ad197 := (by injection e197)
                 replace hx197_0 := (HB.out.cell (World.block_lt_of_cell? w _ hx197_0)).trans hx197_0
                 replace p197 := eq_true p197
                 replace q197 := eq_true q197
                 go_wp2
                 repeat (go_quiet (fail); try go_wp2)
                 go_roundg k3
                 case measure => have := HJ7.out; have := HK2.out; have := HK3.out; omega
                 case rel => exact ⟨(wrap64 (x8_3 + 1)), (wrap64 (x9_3 + 1)), (wrap64 (x10_3 + 1)), (by first | rfl | (simp; done) | (simp [*]; done)), (by first | rfl | (simp; done) | (simp [*]; done)), (by first | rfl | (simp; done) | (simp [*]; done)), H', ⟨by have := HJ7.out; have := HK2.out; have := HK3.out; omega⟩, ⟨by (with_reducible repeat (first | apply Kd.R_alloc | apply Kd.R_drewN | apply Kd.R_drew)); exact HO_5.out⟩, ⟨by repeat (first | (with_reducible first | exact HB.out | apply below_alloc | apply pw_below_drewN | apply below_drew1) | exact HB.out)⟩⟩
                ·rw [if_neg c30] at H
                 have c30b0 : ((rd t187 x10_3) == (rd l1 x7_2)) = false := beq_eq_false_iff_ne.mpr c30
                 have c30b1 : ((rd t187 x10_3) != (rd l1 x7_2)) = true := bne_iff_ne.mpr c30
                 have H' := Aside0.mk H
                 clear H
                 have p194 : 0 ≤ (x10_3 : Int) := of_decide_eq_true (by first | (with_reducible assumption) | assumption)
                 have q194 : x10_3 < (l1.length : Int) := of_decide_eq_true (by first | (with_reducible assumption) | assumption)
                 obtain ⟨ad194, e194, hx194_0⟩ := Kd.at_int HR1.out x10_3 p194 q194
                 cases e194
                 replace hx194_0 := (HB.out.cell (World.block_lt_of_cell? w _ hx194_0)).trans hx194_0
                 replace p194 := eq_true p194
                 replace q194 := eq_true q194
                 have p195 : 0 ≤ (x7_2 : Int) := of_decide_eq_true (by first | (with_reducible assumption) | assumption)
                 have q195 : x7_2 < (l1.length : Int) := of_decide_eq_true (by first | (with_reducible assumption) | assumption)
                 obtain ⟨ad195, e195, hx195_0⟩ := Kd.at_int HR1.out x7_2 p195 q195
                 obtain rfl : ad194 = ad195 := (by injection e195)
                 replace hx195_0 := (HB.out.cell (World.block_lt_of_cell? w _ hx195_0)).trans hx195_0
                 replace p195 := eq_true p195
                 replace q195 := eq_true q195
                 obtain ⟨Ao32, co32, eo32⟩ := Kd.R_slice HO_5.out
                 subst eo32
                 have p196 : 0 ≤ (x10_3 : Int) := of_decide_eq_true (by first | (with_reducible assumption) | assumption)
                 have q196 : x10_3 < (t187.length : Int) := of_decide_eq_true (by first | (with_reducible assumption) | assumption)
                 obtain ⟨ad196, e196, hx196_0⟩ := Kd.at_int (Kd.R_reads' HO_5.out).2.2 x10_3 p196 q196
                 cases e196
                 replace p196 := eq_true p196
                 replace q196 := eq_true q196
                 have p197 : 0 ≤ (x7_2 : Int) := of_decide_eq_true (by first | (with_reducible assumption) | assumption)
                 have q197 : x7_2 < (l1.length : Int) := of_decide_eq_true (by first | (with_reducible assumption) | assumption)
                 obtain ⟨ad197, e197, hx197_0⟩ := Kd.at_int HR1.out x7_2 p197 q197
                 obtain rfl : ad194 = ad197 := (by injection e197)
                 replace hx197_0 := (HB.out.cell (World.block_lt_of_cell? w _ hx197_0)).trans hx197_0
                 replace p197 := eq_true p197
                 replace q197 := eq_true q197
                 go_wp2
                 repeat (go_quiet (fail); try go_wp2)
                 go_roundg k3
                 case measure => have := HJ7.out; have := HK2.out; have := HK3.out; omega
                 case rel => exact ⟨(x8_3), (wrap64 (x9_3 + 1)), (wrap64 (x10_3 + 1)), (by first | rfl | (simp; done) | (simp [*]; done)), (by first | rfl | (simp; done) | (simp [*]; done)), (by first | rfl | (simp; done) | (simp [*]; done)), H', ⟨by have := HJ7.out; have := HK2.out; have := HK3.out; omega⟩, ⟨by (with_reducible repeat (first | apply Kd.R_alloc | apply Kd.R_drewN | apply Kd.R_drew)); exact HO_5.out⟩, ⟨by repeat (first | (with_reducible first | exact HB.out | apply below_alloc | apply pw_below_drewN | apply below_drew1) | exact HB.out)⟩⟩
               ·rw [if_neg c29] at H
                exact absurd H (by simp)
              ·rw [if_neg c28] at H
               have c28b0 : ((rd l1 x10_3) == (rd l1 x7_2)) = false := beq_eq_false_iff_ne.mpr c28
               have c28b1 : ((rd l1 x10_3) != (rd l1 x7_2)) = true := bne_iff_ne.mpr c28
               by_cases c33 : x10_3 < (t187.length : Int)
               ·rw [if_pos c33] at H
                have c33b0 : decide (x10_3 < (t187.length : Int)) = true := decide_eq_true c33
                clear c33
                by_cases c34 : (rd t187 x10_3) = (rd l1 x7_2)
                ·rw [if_pos c34] at H
                 have c34b0 : ((rd t187 x10_3) == (rd l1 x7_2)) = true := beq_iff_eq.mpr c34
                 have c34b1 : ((rd t187 x10_3) != (rd l1 x7_2)) = false := bne_eq_false_iff_eq.mpr c34
                 clear c34
                 have H' := Aside0.mk H
                 clear H
                 have p194 : 0 ≤ (x10_3 : Int) := of_decide_eq_true (by first | (with_reducible assumption) | assumption)
                 have q194 : x10_3 < (l1.length : Int) := of_decide_eq_true (by first | (with_reducible assumption) | assumption)
                 obtain ⟨ad194, e194, hx194_0⟩ := Kd.at_int HR1.out x10_3 p194 q194
                 cases e194
                 replace hx194_0 := (HB.out.cell (World.block_lt_of_cell? w _ hx194_0)).trans hx194_0
                 replace p194 := eq_true p194
                 replace q194 := eq_true q194
                 have p195 : 0 ≤ (x7_2 : Int) := of_decide_eq_true (by first | (with_reducible assumption) | assumption)
                 have q195 : x7_2 < (l1.length : Int) := of_decide_eq_true (by first | (with_reducible assumption) | assumption)
                 obtain ⟨ad195, e195, hx195_0⟩ := Kd.at_int HR1.out x7_2 p195 q195
                 obtain rfl : ad194 = ad195 := (by injection e195)
                 replace hx195_0 := (HB.out.cell (World.block_lt_of_cell? w _ hx195_0)).trans hx195_0
                 replace p195 := eq_true p195
                 replace q195 := eq_true q195
                 obtain ⟨Ao35, co35, eo35⟩ := Kd.R_slice HO_5.out
                 subst eo35
                 have p198 : 0 ≤ (x10_3 : Int) := of_decide_eq_true (by first | (with_reducible assumption) | assumption)
                 have q198 : x10_3 < (t187.length : Int) := of_decide_eq_true (by first | (with_reducible assumption) | assumption)
                 obtain ⟨ad198, e198, hx198_0⟩ := Kd.at_int (Kd.R_reads' HO_5.out).2.2 x10_3 p198 q198
                 cases e198
                 replace p198 := eq_true p198
                 replace q198 := eq_true q198
                 have p199 : 0 ≤ (x7_2 : Int) := of_decide_eq_true (by first | (with_reducible assumption) | assumption)
                 have q199 : x7_2 < (l1.length : Int) := of_decide_eq_true (by first | (with_reducible assumption) | assumption)
                 obtain ⟨ad199, e199, hx199_0⟩ := Kd.at_int HR1.out x7_2 p199 q199
                 obtain rfl : ad194 = ad199 := (by injection e199)
                 replace hx199_0 := (HB.out.cell (World.block_lt_of_cell? w _ hx199_0)).trans hx199_0
                 replace p199 := eq_true p199
                 replace q199 := eq_true q199
                 go_wp2
                 repeat (go_quiet (fail); try go_wp2)
                 go_roundg k3
                 case measure => have := HJ7.out; have := HK2.out; have := HK3.out; omega
                 case rel => exact ⟨(wrap64 (x8_3 + 1)), (x9_3), (wrap64 (x10_3 + 1)), (by first | rfl | (simp; done) | (simp [*]; done)), (by first | rfl | (simp; done) | (simp [*]; done)), (by first | rfl | (simp; done) | (simp [*]; done)), H', ⟨by have := HJ7.out; have := HK2.out; have := HK3.out; omega⟩, ⟨by (with_reducible repeat (first | apply Kd.R_alloc | apply Kd.R_drewN | apply Kd.R_drew)); exact HO_5.out⟩, ⟨by repeat (first | (with_reducible first | exact HB.out | apply below_alloc | apply pw_below_drewN | apply below_drew1) | exact HB.out)⟩⟩
                ·rw [if_neg c34] at H
                 have c34b0 : ((rd t187 x10_3) == (rd l1 x7_2)) = false := beq_eq_false_iff_ne.mpr c34
                 have c34b1 : ((rd t187 x10_3) != (rd l1 x7_2)) = true := bne_iff_ne.mpr c34
                 have H' := Aside0.mk H
                 clear H
                 have p194 : 0 ≤ (x10_3 : Int) := of_decide_eq_true (by first | (with_reducible assumption) | assumption)
                 have q194 : x10_3 < (l1.length : Int) := of_decide_eq_true (by first | (with_reducible assumption) | assumption)
                 obtain ⟨ad194, e194, hx194_0⟩ := Kd.at_int HR1.out x10_3 p194 q194
                 cases e194
                 replace hx194_0 := (HB.out.cell (World.block_lt_of_cell? w _ hx194_0)).trans hx194_0
                 replace p194 := eq_true p194
                 replace q194 := eq_true q194
                 have p195 : 0 ≤ (x7_2 : Int) := of_decide_eq_true (by first | (with_reducible assumption) | assumption)
                 have q195 : x7_2 < (l1.length : Int) := of_decide_eq_true (by first | (with_reducible assumption) | assumption)
                 obtain ⟨ad195, e195, hx195_0⟩ := Kd.at_int HR1.out x7_2 p195 q195
                 obtain rfl : ad194 = ad195 := (by injection e195)
                 replace hx195_0 := (HB.out.cell (World.block_lt_of_cell? w _ hx195_0)).trans hx195_0
                 replace p195 := eq_true p195
                 replace q195 := eq_true q195
                 obtain ⟨Ao36, co36, eo36⟩ := Kd.R_slice HO_5.out
                 subst eo36
                 have p198 : 0 ≤ (x10_3 : Int) := of_decide_eq_true (by first | (with_reducible assumption) | assumption)
                 have q198 : x10_3 < (t187.length : Int) := of_decide_eq_true (by first | (with_reducible assumption) | assumption)
                 obtain ⟨ad198, e198, hx198_0⟩ := Kd.at_int (Kd.R_reads' HO_5.out).2.2 x10_3 p198 q198
                 cases e198
                 replace p198 := eq_true p198
                 replace q198 := eq_true q198
                 have p199 : 0 ≤ (x7_2 : Int) := of_decide_eq_true (by first | (with_reducible assumption) | assumption)
                 have q199 : x7_2 < (l1.length : Int) := of_decide_eq_true (by first | (with_reducible assumption) | assumption)
                 obtain ⟨ad199, e199, hx199_0⟩ := Kd.at_int HR1.out x7_2 p199 q199
                 obtain rfl : ad194 = ad199 := (by injection e199)
                 replace hx199_0 := (HB.out.cell (World.block_lt_of_cell? w _ hx199_0)).trans hx199_0
                 replace p199 := eq_true p199
                 replace q199 := eq_true q199
                 go_wp2
                 repeat (go_quiet (fail); try go_wp2)
                 go_roundg k3
                 case measure => have := HJ7.out; have := HK2.out; have := HK3.out; omega
                 case rel => exact ⟨(x8_3), (x9_3), (wrap64 (x10_3 + 1)), (by first | rfl | (simp; done) | (simp [*]; done)), (by first | rfl | (simp; done) | (simp [*]; done)), (by first | rfl | (simp; done) | (simp [*]; done)), H', ⟨by have := HJ7.out; have := HK2.out; have := HK3.out; omega⟩, ⟨by (with_reducible repeat (first | apply Kd.R_alloc | apply Kd.R_drewN | apply Kd.R_drew)); exact HO_5.out⟩, ⟨by repeat (first | (with_reducible first | exact HB.out | apply below_alloc | apply pw_below_drewN | apply below_drew1) | exact HB.out)⟩⟩
               ·rw [if_neg c33] at H
                exact absurd H (by simp)
             ·rw [if_neg c27] at H
              exact absurd H (by simp)
            ·rw [if_neg c26] at H
             exact absurd H (by simp)
           ·rw [if_neg c25] at H
            exact absurd H (by simp)
          ·rw [if_neg c24] at H
           have c24b0 : decide (x10_3 < (l1.length : Int)) = false := decide_eq_false c24
           clear c24
           by_cases c37 : x8_3 = x9_3
           ·rw [if_pos c37] at H
            have c37b0 : (x8_3 == x9_3) = true := beq_iff_eq.mpr c37
            have c37b1 : (x8_3 != x9_3) = false := bne_eq_false_iff_eq.mpr c37
            clear c37
            by_cases c38 : x7_2 > 0
            ·rw [if_pos c38] at H
             have c38b0 : decide (0 < x7_2) = true := decide_eq_true c38
             clear c38
             obtain ⟨ji39, hji39⟩ : ∃ j_ : Int, (wrap64 (x7_2 - 1)) = j_ := ⟨_, rfl⟩
             replace H : (if 0 ≤ (ji39) then (if (ji39) < (t187.length : Int) then ((ring_Dist.f a0 (rd t187 (ji39))).bind fun t201 => (if 0 ≤ x7_2 then (if x7_2 < (t187.length : Int) then ((ring_Dist.f a0 (rd t187 x7_2)).bind fun t203 => (if t201 > t203 then (none) else (annuletlaw03_RingFirst.l0 k3 a0 l1 t187 (wrap64 (x7_2 + 1))))) else (none)) else (none))) else (none)) else (none)) = some r := by first | (rw [hji39] at H; exact H) | (simp only [hji39] at H ⊢; exact H)
             have hji39w : (IntKind.i64.wrap (x7_2 - 1)) = ji39 := (i64_w _).trans hji39
             by_cases c40 : 0 ≤ (ji39)
             ·rw [if_pos c40] at H
              have c40b0 : decide (0 ≤ (ji39)) = true := decide_eq_true c40
              clear c40
              by_cases c41 : (ji39) < (t187.length : Int)
              ·rw [if_pos c41] at H
               have c41b0 : decide ((ji39) < (t187.length : Int)) = true := decide_eq_true c41
               clear c41
               replace H := Option.bind_eq_some_iff.mp H
               obtain ⟨t201, A420, H⟩ := H
               replace H : (if 0 ≤ x7_2 then (if x7_2 < (t187.length : Int) then ((ring_Dist.f a0 (rd t187 x7_2)).bind fun t203 => (if t201 > t203 then (none) else (annuletlaw03_RingFirst.l0 k3 a0 l1 t187 (wrap64 (x7_2 + 1))))) else (none)) else (none)) = some r := H
               have A42 := Aside0.mk A420
               clear A420
               by_cases c43 : 0 ≤ x7_2
               ·rw [if_pos c43] at H
                have c43b0 : decide (0 ≤ x7_2) = true := decide_eq_true c43
                clear c43
                by_cases c44 : x7_2 < (t187.length : Int)
                ·rw [if_pos c44] at H
                 have c44b0 : decide (x7_2 < (t187.length : Int)) = true := decide_eq_true c44
                 clear c44
                 replace H := Option.bind_eq_some_iff.mp H
                 obtain ⟨t203, A450, H⟩ := H
                 replace H : (if t201 > t203 then (none) else (annuletlaw03_RingFirst.l0 k3 a0 l1 t187 (wrap64 (x7_2 + 1)))) = some r := H
                 have A45 := Aside0.mk A450
                 clear A450
                 by_cases c46 : t201 > t203
                 ·rw [if_pos c46] at H
                  exact absurd H (by simp)
                 ·rw [if_neg c46] at H
                  have c46b0 : decide (t203 < t201) = false := decide_eq_false c46
                  clear c46
                  have H' := Aside0.mk H
                  clear H
                  obtain ⟨Ao47, co47, eo47⟩ := Kd.R_slice HO_5.out
                  subst eo47
                  have p200 : 0 ≤ ((ji39) : Int) := of_decide_eq_true (by first | (with_reducible assumption) | assumption)
                  have q200 : (ji39) < (t187.length : Int) := of_decide_eq_true (by first | (with_reducible assumption) | assumption)
                  obtain ⟨ad200, e200, hx200_0⟩ := Kd.at_int (Kd.R_reads' HO_5.out).2.2 (ji39) p200 q200
                  cases e200
                  replace p200 := eq_true p200
                  replace q200 := eq_true q200
                  go_wp2_with (first | (go_at_call 7; (with_reducible refine (ring_Dist.calls a0 (rd t187 (ji39)) t201 _ A42.out).mono ?_); rintro e w' ⟨rfl, ⟨nd, rfl⟩⟩; (try first | exact ⟨rfl, _, World.drewN_drewN _ _ _⟩ | exact ⟨rfl, _, Eq.trans (World.drewN_drewN _ _ _) (congrArg (World.drewN _) (Nat.add_assoc _ _ _))⟩); have p202 : 0 ≤ (x7_2 : Int) := of_decide_eq_true (by first | (with_reducible assumption) | assumption); have q202 : x7_2 < (t187.length : Int) := of_decide_eq_true (by first | (with_reducible assumption) | assumption); obtain ⟨ad202, e202, hx202_0⟩ := Kd.at_int (Kd.R_reads' HO_5.out).2.2 x7_2 p202 q202; obtain rfl : ad200 = ad202 := (by injection e202); replace p202 := eq_true p202; replace q202 := eq_true q202) | (go_at_call 7; (with_reducible refine (ring_Dist.calls a0 (rd t187 x7_2) t203 _ A45.out).mono ?_); rintro e w' ⟨rfl, ⟨nd, rfl⟩⟩; (try first | exact ⟨rfl, _, World.drewN_drewN _ _ _⟩ | exact ⟨rfl, _, Eq.trans (World.drewN_drewN _ _ _) (congrArg (World.drewN _) (Nat.add_assoc _ _ _))⟩)))
                  repeat (go_quiet (first | (go_at_call 7; (with_reducible refine (ring_Dist.calls a0 (rd t187 (ji39)) t201 _ A42.out).mono ?_); rintro e w' ⟨rfl, ⟨nd, rfl⟩⟩; (try first | exact ⟨rfl, _, World.drewN_drewN _ _ _⟩ | exact ⟨rfl, _, Eq.trans (World.drewN_drewN _ _ _) (congrArg (World.drewN _) (Nat.add_assoc _ _ _))⟩); have p202 : 0 ≤ (x7_2 : Int) := of_decide_eq_true (by first | (with_reducible assumption) | assumption); have q202 : x7_2 < (t187.length : Int) := of_decide_eq_true (by first | (with_reducible assumption) | assumption); obtain ⟨ad202, e202, hx202_0⟩ := Kd.at_int (Kd.R_reads' HO_5.out).2.2 x7_2 p202 q202; obtain rfl : ad200 = ad202 := (by injection e202); replace p202 := eq_true p202; replace q202 := eq_true q202) | (go_at_call 7; (with_reducible refine (ring_Dist.calls a0 (rd t187 x7_2) t203 _ A45.out).mono ?_); rintro e w' ⟨rfl, ⟨nd, rfl⟩⟩; (try first | exact ⟨rfl, _, World.drewN_drewN _ _ _⟩ | exact ⟨rfl, _, Eq.trans (World.drewN_drewN _ _ _) (congrArg (World.drewN _) (Nat.add_assoc _ _ _))⟩))); try go_wp2_with (first | (go_at_call 7; (with_reducible refine (ring_Dist.calls a0 (rd t187 (ji39)) t201 _ A42.out).mono ?_); rintro e w' ⟨rfl, ⟨nd, rfl⟩⟩; (try first | exact ⟨rfl, _, World.drewN_drewN _ _ _⟩ | exact ⟨rfl, _, Eq.trans (World.drewN_drewN _ _ _) (congrArg (World.drewN _) (Nat.add_assoc _ _ _))⟩); have p202 : 0 ≤ (x7_2 : Int) := of_decide_eq_true (by first | (with_reducible assumption) | assumption); have q202 : x7_2 < (t187.length : Int) := of_decide_eq_true (by first | (with_reducible assumption) | assumption); obtain ⟨ad202, e202, hx202_0⟩ := Kd.at_int (Kd.R_reads' HO_5.out).2.2 x7_2 p202 q202; obtain rfl : ad200 = ad202 := (by injection e202); replace p202 := eq_true p202; replace q202 := eq_true q202) | (go_at_call 7; (with_reducible refine (ring_Dist.calls a0 (rd t187 x7_2) t203 _ A45.out).mono ?_); rintro e w' ⟨rfl, ⟨nd, rfl⟩⟩; (try first | exact ⟨rfl, _, World.drewN_drewN _ _ _⟩ | exact ⟨rfl, _, Eq.trans (World.drewN_drewN _ _ _) (congrArg (World.drewN _) (Nat.add_assoc _ _ _))⟩))))
                  go_roundg k3
                  case measure => have := HJ7.out; have := HK2.out; have := HK3.out; omega
                  case rel => exact ⟨(wrap64 (x7_2 + 1)), (by first | rfl | (simp; done) | (simp [*]; done)), H', ⟨by have := HJ7.out; have := HK2.out; have := HK3.out; omega⟩, ⟨by (with_reducible repeat (first | apply Kd.R_alloc | apply Kd.R_drewN | apply Kd.R_drew)); exact HO_5.out⟩, ⟨by repeat (first | (with_reducible first | exact HB.out | apply below_alloc | apply pw_below_drewN | apply below_drew1) | exact HB.out)⟩⟩
                ·rw [if_neg c44] at H
                 exact absurd H (by simp)
               ·rw [if_neg c43] at H
                exact absurd H (by simp)
              ·rw [if_neg c41] at H
               exact absurd H (by simp)
             ·rw [if_neg c40] at H
              exact absurd H (by simp)
            ·rw [if_neg c38] at H
             have c38b0 : decide (0 < x7_2) = false := decide_eq_false c38
             clear c38
             have H' := Aside0.mk H
             clear H
             go_wp2
             repeat (go_quiet (fail); try go_wp2)
             go_roundg k3
             case measure => have := HJ7.out; have := HK2.out; have := HK3.out; omega
             case rel => exact ⟨(wrap64 (x7_2 + 1)), (by first | rfl | (simp; done) | (simp [*]; done)), H', ⟨by have := HJ7.out; have := HK2.out; have := HK3.out; omega⟩, ⟨by (with_reducible repeat (first | apply Kd.R_alloc | apply Kd.R_drewN | apply Kd.R_drew)); exact HO_5.out⟩, ⟨by repeat (first | (with_reducible first | exact HB.out | apply below_alloc | apply pw_below_drewN | apply below_drew1) | exact HB.out)⟩⟩
           ·rw [if_neg c37] at H
            exact absurd H (by simp)
       ·rw [if_neg c23] at H
        have c23b0 : decide (x7_2 < (l1.length : Int)) = false := decide_eq_false c23
        clear c23
        replace H := Option.bind_eq_some_iff.mp H
        obtain ⟨t193, A480, H⟩ := H
        replace H : (some t193) = some r := H
        have A48 := Aside0.mk A480
        clear A480
        obtain rfl := Option.some.inj H
        go_wp2_with (first | (go_at_call 15; (with_reducible refine (annuletlaw03_awake.calls k2  t193 _ A48.out).mono ?_); rintro e w49 ⟨rfl, hb⟩; have n0_ := Aside0.mk (Kd.R_below (by (with_reducible repeat (first | apply Kd.R_alloc | apply Kd.R_drewN | apply Kd.R_drew)); exact HO_5.out) hb); have n1_ := Aside0.mk (below_step (by repeat (first | (with_reducible first | exact HB.out | apply below_alloc | apply pw_below_drewN | apply below_drew1) | exact HB.out)) hb); clear HO_5; clear HB; have HO_5 := n0_; have HB := n1_; clear n0_ n1_; (try clear hb); (try clear hb2); (try clear hk); (try clear hi)))
        repeat (go_quiet (first | (go_at_call 15; (with_reducible refine (annuletlaw03_awake.calls k2  t193 _ A48.out).mono ?_); rintro e w49 ⟨rfl, hb⟩; have n0_ := Aside0.mk (Kd.R_below (by (with_reducible repeat (first | apply Kd.R_alloc | apply Kd.R_drewN | apply Kd.R_drew)); exact HO_5.out) hb); have n1_ := Aside0.mk (below_step (by repeat (first | (with_reducible first | exact HB.out | apply below_alloc | apply pw_below_drewN | apply below_drew1) | exact HB.out)) hb); clear HO_5; clear HB; have HO_5 := n0_; have HB := n1_; clear n0_ n1_; (try clear hb); (try clear hb2); (try clear hk); (try clear hi))); try go_wp2_with (first | (go_at_call 15; (with_reducible refine (annuletlaw03_awake.calls k2  t193 _ A48.out).mono ?_); rintro e w49 ⟨rfl, hb⟩; have n0_ := Aside0.mk (Kd.R_below (by (with_reducible repeat (first | apply Kd.R_alloc | apply Kd.R_drewN | apply Kd.R_drew)); exact HO_5.out) hb); have n1_ := Aside0.mk (below_step (by repeat (first | (with_reducible first | exact HB.out | apply below_alloc | apply pw_below_drewN | apply below_drew1) | exact HB.out)) hb); clear HO_5; clear HB; have HO_5 := n0_; have HB := n1_; clear n0_ n1_; (try clear hb); (try clear hb2); (try clear hk); (try clear hi))))
        go_ret
        exact ⟨by first | rfl | (simp [errW_none, errW_some] <;> rfl) | (simp [*, errW_none, errW_some] <;> rfl), by repeat (first | (with_reducible first | exact HB.out | apply below_alloc | apply pw_below_drewN | apply below_drew1) | exact HB.out)⟩

/-- THE ONE PURE STATEMENT of annuletlaw03_RingFirst: yours. -/
def annuletlaw03_RingFirst.PureK : Prop := ∀ (a0 : Int) (l1 : List Int), (Lit.int .u64 a0).wf = true → l1.length ≤ maxLen → l1.length * 8 ≤ 140737488351232 → (∀ x ∈ l1, (Lit.int .u64 x).wf = true) → ∃ k, annuletlaw03_RingFirst.f k a0 l1 = some true
theorem annuletlaw03_RingFirst.walk (P : annuletlaw03_RingFirst.PureK) (a0 : Int) (a1 : Option Addr) (len1 cap1 : Nat) (z1 : List Int) (w : World) (w0 : (Lit.int .u64 a0).wf = true) (w1 : (a1 = none ∧ len1 = 0 ∧ cap1 = 0 ∧ z1 = []) ∨ ∃ x, a1 = some x ∧ len1 ≤ cap1 ∧ cap1 ≤ maxLen ∧ z1.length = cap1 ∧ (∀ i, i < z1.length → w.cell? (x.add i) = some (.int .u64 (z1.getD i 0))) ∧ ∀ n ∈ z1, (Lit.int .u64 n).wf = true) (y1 : len1 * 8 ≤ 140737488351232) :
  Calls Try.prog 6 #[.int .u64 a0, .slice a1 len1 cap1] w fun e w' => e = .returned (.bool true) ∧ Below w.heap.size w w' := by
 obtain ⟨l1, rfl, hr1, hm1, hw1, hc1⟩ := ReadsInt.ofRowC w1
 obtain ⟨k, h⟩ := P a0 l1 w0 hm1 y1 hw1
 refine (annuletlaw03_RingFirst.calls k a0 _ _ l1 true w (Kd.C_of_reads (d := (0 : Int)) (h1 := fun _ => rfl) hr1) hc1 h).mono ?_
 rintro e w' ⟨rfl, hd⟩
 exact ⟨rfl, hd⟩

end Go.Proofs.Ytpkodbeleefnjaa.P
