-- Printed by fprint.py (a program of this session's, over the kit's print), for this claim.
import Derived.Test.YtnnhmceaoobihaaPx0
import Derived.Test.YtnnhmceaoobihaaPx8
namespace Go.Proofs.Ytnnhmceaoobihaa.P
open Go.RowKit Go.Proofs.YtnnhmceaoobihaaW.PrintWords Go.Proofs.YtnnhmceaoobihaaW.PrintLast Go.Proofs.YtnnhmceaoobihaaW.PrintMore
attribute [local go_sem] max2_int min2_int max_two min_two max_three min_three max_four min_four   -- for this text's walks alone
set_option linter.unusedVariables false
set_option linter.unusedSimpArgs false

/-! ### annuletref28_Hops: function 16 -/
mutual
def annuletref28_Hops.l0 : Nat → List (S45) → Int → Int → List (S26) → Int → Int → Int → Option ((List (S26)))
 | 0, _, _, _, _, _, _, _ => none
 | k + 1, x2, x3, x4, x11, x12, x218000, x218001 => if x12 < (x2.length : Int) then (if 0 ≤ x12 then (if x11.length < 8796093022208 then (annuletref28_Hops.l0 k x2 x3 x4 (x11 ++ [(⟨(rd_T45 x2 x12).f1.f0, (rd_T45 x2 x12).f1.f1⟩ : S26)]) (wrap64 (x12 + 1)) x218000 x218001) else (none)) else (none)) else (annuletref28_Hops.l1 k x3 x4 x11 ([] : List (S26)) ([] : List (S26)) 0 x218000 x218001)
def annuletref28_Hops.l1 : Nat → Int → Int → List (S26) → List (S26) → List (S26) → Int → Int → Int → Option ((List (S26)))
 | 0, _, _, _, _, _, _, _, _ => none
 | k + 1, x3, x4, x11, x13, x14, x15, x218000, x218001 => if x15 < (x11.length : Int) then (if 0 ≤ x15 then ((annuletref28_there.f k x13 ((rd_T26 x11 x15).f1)).bind fun t227 => (if t227 = true then (annuletref28_Hops.j2 k x3 x4 x11 x13 x14 x15 true x218000 x218001 ((rd_T26 x11 x15).f0) ((rd_T26 x11 x15).f1)) else (annuletref28_Hops.j2 k x3 x4 x11 x13 x14 x15 (((rd_T26 x11 x15).f1) == x218001) x218000 x218001 ((rd_T26 x11 x15).f0) ((rd_T26 x11 x15).f1)))) else (none)) else (if x4 < 0 then (some ([] : List (S26))) else (if (x14.length : Int) > x4 then (if 0 ≤ x4 then (if x4 ≤ (x14.length : Int) then (some (x14.take (x4 : Int).toNat)) else (none)) else (none)) else (some x14)))
def annuletref28_Hops.j2 : Nat → Int → Int → List (S26) → List (S26) → List (S26) → Int → Bool → Int → Int → Int → Int → Option ((List (S26)))
 | 0, _, _, _, _, _, _, _, _, _, _, _ => none
 | k + 1, x3, x4, x11, x13, x14, x15, x56, x218000, x218001, x227000, x227001 => if x56 = true then (annuletref28_Hops.l1 k x3 x4 x11 x13 x14 (wrap64 (x15 + 1)) x218000 x218001) else (if x13.length < 8796093022208 then ((some (x13 ++ [(⟨x227000, x227001⟩ : S26)] : List (S26))).bind fun y228 => ((annuletref03_Between.f x218000 x227000 x3).bind fun t231 => (if t231 = true then ((annuletref03_Dist.f x218000 x227000).bind fun t232 => (annuletref28_Hops.l2 k x3 x4 x11 y228 x14 x15 0 t232 x218000 x218001 x227000 x227001)) else (annuletref28_Hops.l1 k x3 x4 x11 y228 x14 (wrap64 (x15 + 1)) x218000 x218001)))) else (none))
def annuletref28_Hops.l2 : Nat → Int → Int → List (S26) → List (S26) → List (S26) → Int → Int → Int → Int → Int → Int → Int → Option ((List (S26)))
 | 0, _, _, _, _, _, _, _, _, _, _, _, _ => none
 | k + 1, x3, x4, x11, x13, x14, x15, x17, x18, x218000, x218001, x227000, x227001 => if x17 < (x14.length : Int) then (if 0 ≤ x17 then ((annuletref03_Dist.f x218000 ((rd_T26 x14 x17).f0)).bind fun t234 => (if t234 > x18 then (annuletref28_Hops.l2 k x3 x4 x11 x13 x14 x15 (wrap64 (x17 + 1)) x18 x218000 x218001 x227000 x227001) else ((annuletref03_Dist.f x218000 ((rd_T26 x14 x17).f0)).bind fun t236 => (if t236 = x18 then (if ((rd_T26 x14 x17).f1) < x227001 then (annuletref28_Hops.l2 k x3 x4 x11 x13 x14 x15 (wrap64 (x17 + 1)) x18 x218000 x218001 x227000 x227001) else ((some (([] : List (S26)) : List (S26))).bind fun y238 => (if x17 ≤ (x14.length : Int) then ((some (x14.take (x17 : Int).toNat : List (S26))).bind fun y241 => (if y238.length + y241.length < 8796093022208 then ((some (y238 ++ y241 : List (S26))).bind fun y245 => (if y245.length < 8796093022208 then ((some (y245 ++ [(⟨x227000, x227001⟩ : S26)] : List (S26))).bind fun y248 => ((some (x14.drop (x17 : Int).toNat : List (S26))).bind fun y251 => (if y248.length + y251.length < 8796093022208 then (annuletref28_Hops.l1 k x3 x4 x11 x13 (y248 ++ y251) (wrap64 (x15 + 1)) x218000 x218001) else (none)))) else (none))) else (none))) else (none)))) else ((some (([] : List (S26)) : List (S26))).bind fun y258 => (if x17 ≤ (x14.length : Int) then ((some (x14.take (x17 : Int).toNat : List (S26))).bind fun y261 => (if y258.length + y261.length < 8796093022208 then ((some (y258 ++ y261 : List (S26))).bind fun y265 => (if y265.length < 8796093022208 then ((some (y265 ++ [(⟨x227000, x227001⟩ : S26)] : List (S26))).bind fun y268 => ((some (x14.drop (x17 : Int).toNat : List (S26))).bind fun y271 => (if y268.length + y271.length < 8796093022208 then (annuletref28_Hops.l1 k x3 x4 x11 x13 (y268 ++ y271) (wrap64 (x15 + 1)) x218000 x218001) else (none)))) else (none))) else (none))) else (none))))))) else (none)) else ((some (([] : List (S26)) : List (S26))).bind fun y278 => (if 0 ≤ x17 then (if x17 ≤ (x14.length : Int) then ((some (x14.take (x17 : Int).toNat : List (S26))).bind fun y281 => (if y278.length + y281.length < 8796093022208 then ((some (y278 ++ y281 : List (S26))).bind fun y285 => (if y285.length < 8796093022208 then ((some (y285 ++ [(⟨x227000, x227001⟩ : S26)] : List (S26))).bind fun y288 => ((some (x14.drop (x17 : Int).toNat : List (S26))).bind fun y291 => (if y288.length + y291.length < 8796093022208 then (annuletref28_Hops.l1 k x3 x4 x11 x13 (y288 ++ y291) (wrap64 (x15 + 1)) x218000 x218001) else (none)))) else (none))) else (none))) else (none)) else (none)))
end
def annuletref28_Hops.f (k : Nat) (a0_0 : Int) (a0_1 : Int) (l1 : List (S43)) (l2 : List (S45)) (a3 : Int) (a4 : Int) : Option ((List (S26))) := (annuletref27_Firm.f k l1).bind fun t218 => (annuletref28_Hops.l0 k l2 a3 a4 t218 0 a0_0 a0_1)
theorem annuletref28_Hops.mono_l : ∀ k, (∀ y0 y1 y2 y3 y4 y5 y6, LeO (annuletref28_Hops.l0 k y0 y1 y2 y3 y4 y5 y6) (annuletref28_Hops.l0 (k + 1) y0 y1 y2 y3 y4 y5 y6)) ∧ (∀ y0 y1 y2 y3 y4 y5 y6 y7, LeO (annuletref28_Hops.l1 k y0 y1 y2 y3 y4 y5 y6 y7) (annuletref28_Hops.l1 (k + 1) y0 y1 y2 y3 y4 y5 y6 y7)) ∧ (∀ y0 y1 y2 y3 y4 y5 y6 y7 y8 y9 y10, LeO (annuletref28_Hops.j2 k y0 y1 y2 y3 y4 y5 y6 y7 y8 y9 y10) (annuletref28_Hops.j2 (k + 1) y0 y1 y2 y3 y4 y5 y6 y7 y8 y9 y10)) ∧ (∀ y0 y1 y2 y3 y4 y5 y6 y7 y8 y9 y10 y11, LeO (annuletref28_Hops.l2 k y0 y1 y2 y3 y4 y5 y6 y7 y8 y9 y10 y11) (annuletref28_Hops.l2 (k + 1) y0 y1 y2 y3 y4 y5 y6 y7 y8 y9 y10 y11))
 | 0 => ⟨fun _ _ _ _ _ _ _ r h => by simp [annuletref28_Hops.l0] at h, fun _ _ _ _ _ _ _ _ r h => by simp [annuletref28_Hops.l1] at h, fun _ _ _ _ _ _ _ _ _ _ _ r h => by simp [annuletref28_Hops.j2] at h, fun _ _ _ _ _ _ _ _ _ _ _ _ r h => by simp [annuletref28_Hops.l2] at h⟩
 | k + 1 => by
  obtain ⟨ih0, ih1, ih2, ih3⟩ := annuletref28_Hops.mono_l k
  refine ⟨?_, ?_, ?_, ?_⟩
  ·intro y0 y1 y2 y3 y4 y5 y6
   unfold annuletref28_Hops.l0
   repeat' first
   | (with_reducible exact ih0 _ _ _ _ _ _ _)
   | (with_reducible exact ih1 _ _ _ _ _ _ _ _)
   | (with_reducible exact ih2 _ _ _ _ _ _ _ _ _ _ _)
   | (with_reducible exact ih3 _ _ _ _ _ _ _ _ _ _ _ _)
   | (with_reducible exact annuletref27_Firm.mono _ _)
   | (with_reducible exact annuletref28_there.mono _ _ _)
   | (with_reducible exact LeO.refl _)
   | (with_reducible exact LeO.none _)
   | (with_reducible refine LeO.ite ?_ ?_)
   | (with_reducible refine LeO.bind ?_ (fun _ => ?_))
   | exact ih0 _ _ _ _ _ _ _
   | exact ih1 _ _ _ _ _ _ _ _
   | exact ih2 _ _ _ _ _ _ _ _ _ _ _
   | exact ih3 _ _ _ _ _ _ _ _ _ _ _ _
   | exact annuletref27_Firm.mono _ _
   | exact annuletref28_there.mono _ _ _
   | exact LeO.none _
   | refine LeO.ite ?_ ?_
   | refine LeO.bind ?_ (fun _ => ?_)
  ·intro y0 y1 y2 y3 y4 y5 y6 y7
   unfold annuletref28_Hops.l1
   repeat' first
   | (with_reducible exact ih0 _ _ _ _ _ _ _)
   | (with_reducible exact ih1 _ _ _ _ _ _ _ _)
   | (with_reducible exact ih2 _ _ _ _ _ _ _ _ _ _ _)
   | (with_reducible exact ih3 _ _ _ _ _ _ _ _ _ _ _ _)
   | (with_reducible exact annuletref27_Firm.mono _ _)
   | (with_reducible exact annuletref28_there.mono _ _ _)
   | (with_reducible exact LeO.refl _)
   | (with_reducible exact LeO.none _)
   | (with_reducible refine LeO.ite ?_ ?_)
   | (with_reducible refine LeO.bind ?_ (fun _ => ?_))
   | exact ih0 _ _ _ _ _ _ _
   | exact ih1 _ _ _ _ _ _ _ _
   | exact ih2 _ _ _ _ _ _ _ _ _ _ _
   | exact ih3 _ _ _ _ _ _ _ _ _ _ _ _
   | exact annuletref27_Firm.mono _ _
   | exact annuletref28_there.mono _ _ _
   | exact LeO.none _
   | refine LeO.ite ?_ ?_
   | refine LeO.bind ?_ (fun _ => ?_)
  ·intro y0 y1 y2 y3 y4 y5 y6 y7 y8 y9 y10
   unfold annuletref28_Hops.j2
   repeat' first
   | (with_reducible exact ih0 _ _ _ _ _ _ _)
   | (with_reducible exact ih1 _ _ _ _ _ _ _ _)
   | (with_reducible exact ih2 _ _ _ _ _ _ _ _ _ _ _)
   | (with_reducible exact ih3 _ _ _ _ _ _ _ _ _ _ _ _)
   | (with_reducible exact annuletref27_Firm.mono _ _)
   | (with_reducible exact annuletref28_there.mono _ _ _)
   | (with_reducible exact LeO.refl _)
   | (with_reducible exact LeO.none _)
   | (with_reducible refine LeO.ite ?_ ?_)
   | (with_reducible refine LeO.bind ?_ (fun _ => ?_))
   | exact ih0 _ _ _ _ _ _ _
   | exact ih1 _ _ _ _ _ _ _ _
   | exact ih2 _ _ _ _ _ _ _ _ _ _ _
   | exact ih3 _ _ _ _ _ _ _ _ _ _ _ _
   | exact annuletref27_Firm.mono _ _
   | exact annuletref28_there.mono _ _ _
   | exact LeO.none _
   | refine LeO.ite ?_ ?_
   | refine LeO.bind ?_ (fun _ => ?_)
  ·intro y0 y1 y2 y3 y4 y5 y6 y7 y8 y9 y10 y11
   unfold annuletref28_Hops.l2
   repeat' first
   | (with_reducible exact ih0 _ _ _ _ _ _ _)
   | (with_reducible exact ih1 _ _ _ _ _ _ _ _)
   | (with_reducible exact ih2 _ _ _ _ _ _ _ _ _ _ _)
   | (with_reducible exact ih3 _ _ _ _ _ _ _ _ _ _ _ _)
   | (with_reducible exact annuletref27_Firm.mono _ _)
   | (with_reducible exact annuletref28_there.mono _ _ _)
   | (with_reducible exact LeO.refl _)
   | (with_reducible exact LeO.none _)
   | (with_reducible refine LeO.ite ?_ ?_)
   | (with_reducible refine LeO.bind ?_ (fun _ => ?_))
   | exact ih0 _ _ _ _ _ _ _
   | exact ih1 _ _ _ _ _ _ _ _
   | exact ih2 _ _ _ _ _ _ _ _ _ _ _
   | exact ih3 _ _ _ _ _ _ _ _ _ _ _ _
   | exact annuletref27_Firm.mono _ _
   | exact annuletref28_there.mono _ _ _
   | exact LeO.none _
   | refine LeO.ite ?_ ?_
   | refine LeO.bind ?_ (fun _ => ?_)
theorem annuletref28_Hops.mono : ∀ a0 a1 a2 a3 a4 a5 k, LeO (annuletref28_Hops.f k a0 a1 a2 a3 a4 a5) (annuletref28_Hops.f (k + 1) a0 a1 a2 a3 a4 a5) := by
 intro a0 a1 a2 a3 a4 a5 k
 obtain ⟨ih0, ih1, ih2, ih3⟩ := annuletref28_Hops.mono_l k
 unfold annuletref28_Hops.f
 repeat' first
   | (with_reducible exact ih0 _ _ _ _ _ _ _)
   | (with_reducible exact ih1 _ _ _ _ _ _ _ _)
   | (with_reducible exact ih2 _ _ _ _ _ _ _ _ _ _ _)
   | (with_reducible exact ih3 _ _ _ _ _ _ _ _ _ _ _ _)
   | (with_reducible exact annuletref27_Firm.mono _ _)
   | (with_reducible exact annuletref28_there.mono _ _ _)
   | (with_reducible exact LeO.refl _)
   | (with_reducible exact LeO.none _)
   | (with_reducible refine LeO.ite ?_ ?_)
   | (with_reducible refine LeO.bind ?_ (fun _ => ?_))
   | exact ih0 _ _ _ _ _ _ _
   | exact ih1 _ _ _ _ _ _ _ _
   | exact ih2 _ _ _ _ _ _ _ _ _ _ _
   | exact ih3 _ _ _ _ _ _ _ _ _ _ _ _
   | exact annuletref27_Firm.mono _ _
   | exact annuletref28_there.mono _ _ _
   | exact LeO.none _
   | refine LeO.ite ?_ ?_
   | refine LeO.bind ?_ (fun _ => ?_)
def annuletref28_Hops.T17 : Bool × List (List Nat × List Nat) := (true, [([], []), ([], []), ([1], [1]), ([0, 2], [0, 2]), ([3], [3]), ([4], [4]), ([5, 4], [4, 5]), ([4], [4]), ([4], [4]), ([7, 8, 4], [4, 7, 8]), ([9, 4], [4, 9]), ([10, 4], [4, 10]), ([6, 11, 4, 4], [4, 6, 11]), ([4], [4]), ([12, 13, 4], [4, 12, 13]), ([14, 12, 4], [4, 14]), ([15], [15]), ([16, 15], [15, 16]), ([15], [15]), ([15], [15]), ([18, 19, 15], [15, 18, 19]), ([20, 15], [15, 20]), ([21, 15], [15, 21]), ([17, 22, 15, 15], [15, 17, 22]), ([15], [15]), ([23, 24, 15], [15, 23, 24]), ([25, 23, 15], [15, 25]), ([26], [26]), ([26], [26]), ([27, 28, 26], [26, 27, 28]), ([29, 26], [26, 29]), ([30, 26], [26, 30]), ([26], [26]), ([32, 26], [26, 32]), ([31, 33, 26], [26, 31, 33]), ([26, 34, 15], [15, 26, 34]), ([15, 35, 4], [4, 15, 35]), ([4, 36], [4, 36])])
def annuletref28_Hops.B17 : List Nat := [0, 0, 2, 7, 15, 31, 63, 31, 31, 415, 927, 1951, 4095, 31, 16383, 32767, 65535, 131071, 65535, 65535, 851967, 1900543, 3997695, 8388607, 65535, 33554431, 67108863, 134217727, 134217727, 536870911, 1073741823, 2147483647, 134217727, 4429185023, 17179869183, 34359738367, 68719476735, 137438953471]
theorem annuletref28_Hops.tab17 : rtab .any (opsOf Try.f16 17) = annuletref28_Hops.T17 := by kernel_rfl
theorem annuletref28_Hops.bits17 : waitsOk annuletref28_Hops.T17.2 annuletref28_Hops.B17 = true := by kernel_rfl
set_option maxHeartbeats 8000000 in
set_option maxRecDepth 100000 in
theorem annuletref28_Hops.calls (k : Nat) (a0_0 : Int) (a0_1 : Int) (A1 : Option Addr) (c1 : Nat) (l1 : List (S43)) (A2 : Option Addr) (c2 : Nat) (l2 : List (S45)) (a3 : Int) (a4 : Int) (r : List (S26)) (w : World) (hr1 : Kd.C k43 w A1 l1.length l1) (hc1 : l1.length ≤ c1) (hr2 : Kd.C k45 w A2 l2.length l2) (hc2 : l2.length ≤ c2) (h : annuletref28_Hops.f k a0_0 a0_1 l1 l2 a3 a4 = some r) :
  Calls Try.prog 16 #[.agg #[.int .u64 a0_0, .int .u16 a0_1], .slice A1 l1.length c1, .slice A2 l2.length c2, .int .u64 a3, .int .i64 a4] w fun e w' => ∃ v0_ : Value, e = .returned (v0_) ∧ Kd.R k26 26 w' w.heap.size (fun _ => True) v0_ r ∧ Below w.heap.size w w' := by
 have hu26 := Try.underlying26
 have HR1 := Aside0.mk hr1
 have HC1 := Aside0.mk hc1
 clear hr1 hc1
 have HR2 := Aside0.mk hr2
 have HC2 := Aside0.mk hc2
 clear hr2 hc2
 have HB := Aside0.mk (Below.refl w.heap.size w)
 have H : ((annuletref27_Firm.f k l1).bind fun t218 => (annuletref28_Hops.l0 k l2 a3 a4 t218 0 a0_0 a0_1)) = some r := h
 clear h
 replace H := Option.bind_eq_some_iff.mp H
 obtain ⟨t218, A60, H⟩ := H
 replace H : (annuletref28_Hops.l0 k l2 a3 a4 t218 0 a0_0 a0_1) = some r := H
 have A6 := Aside0.mk A60
 clear A60
 have H' := Aside0.mk H
 clear H
 go_enter Try.func16, Try.ntmps16
 go_wp2_with (first | ((with_reducible refine gate_dst (N := 5) rfl ?_); refine box_event ?hg (N := 5) ?hd (cs := #[.int .u64 a0_0, .int .u16 a0_1]) (t := 26) ?hr ?_; (case hd => rfl); (case hg => rfl); (case hr => first | (go_simp; done) | (go_simp; rfl)); intro gb217 hg w7 hbox hb; have n0_ := Aside0.mk (below_step (by repeat (first | (with_reducible first | exact HB.out | apply below_alloc | apply pw_below_drewN | apply below_drew1) | exact HB.out)) hb); have n1_ := Aside0.mk (hbox); have n2_ := Aside0.mk ((by rw [hg]; exact (below_size (by repeat (first | (with_reducible first | exact HB.out | apply below_alloc | apply pw_below_drewN | apply below_drew1) | exact HB.out))) : w.heap.size ≤ gb217)); have n3_ := Aside0.mk ((by rw [hg]; exact (below_size (by repeat (first | (with_reducible first | exact HB.out | apply below_alloc | apply pw_below_drewN | apply below_drew1) | exact HB.out))) : w.heap.size ≤ gb217)); clear HB; have HB := n0_; have BK217 := n1_; have GW217 := n2_; have GE217 := n3_; clear n0_ n1_ n2_ n3_; clear hb hbox hg) | ((with_reducible refine gate_callee (f := 34) rfl ?_); refine goesL_ (some 21) rfl rfl Try.func34 (by kernel_rfl) rfl #[.slice A1 l1.length c1] rfl (by (try simp only [List.map_toArray, List.map_cons, List.map_nil]); first | done | rfl | (simp only [List.length_drop, List.length_take]; rfl)) ?_; (with_reducible refine (annuletref27_Firm.calls k _ _ l1 t218 _ ?side1 ?side2 A6.out).mono ?_); (case side1 => repeat (first | exact (Kd.C_below HR1.out HB.out) | (with_reducible refine Kd.C_alloc ?_ _) | (with_reducible refine Kd.C_drewN ?_ _) | (with_reducible refine Kd.C_drew ?_))); (case side2 => exact HC1.out); rintro e w8 ⟨v219, rfl, ho0, hb⟩; refine ⟨_, rfl, ?_⟩; have n0_ := Aside0.mk (Kd.R_lower (Kd.R_newB ho0 (g := gb217) (o := .cells #[.int .u64 a0_0, .int .u16 a0_1] 26 (0, 0)) (by (with_reducible repeat (first | refine blk_drewN ?_ _ | refine blk_drew ?_ | refine blk_alloc ?_ _)); exact BK217.out)) (below_size (by repeat (first | (with_reducible first | exact HB.out | apply below_alloc | apply pw_below_drewN | apply below_drew1 | refine below_set ?_ GE217.out) | exact HB.out)))); have n1_ := Aside0.mk (blk_below (g := gb217) (o := .cells #[.int .u64 a0_0, .int .u16 a0_1] 26 (0, 0)) (by (with_reducible repeat (first | refine blk_drewN ?_ _ | refine blk_drew ?_ | refine blk_alloc ?_ _)); exact BK217.out) hb); have n2_ := Aside0.mk (below_step (by repeat (first | (with_reducible first | exact HB.out | apply below_alloc | apply pw_below_drewN | apply below_drew1 | refine below_set ?_ GE217.out) | exact HB.out)) hb); clear BK217; clear HB; have HO220 := n0_; have BK217 := n1_; have HB := n2_; clear n0_ n1_ n2_; (try clear hb); (try clear hb2); (try clear hk); (try clear hi); (try clear ho0)))
 go_loopg [11, 12] k (fun kq v11 v12 w' => ∃ (x11_1 : List (S26)) (x12_1 : Int), v12 = .int .i64 x12_1 ∧ Aside0 (annuletref28_Hops.l0 kq l2 a3 a4 x11_1 x12_1 a0_0 a0_1 = some r) ∧ Aside0 (kq ≤ k) ∧ Aside0 (Kd.R k26 26 w' w.heap.size (fun k_ => k_ ≠ gb217) v11 x11_1) ∧ Aside0 (w'.heap[gb217]? = some (.cells #[.int .u64 a0_0, .int .u16 a0_1] 26 (0, 0))) ∧ Aside0 (Below w.heap.size w w'))
 case atStart => exact ⟨(t218), (0), (by first | rfl | (simp; done) | (simp [*]; done)), H', ⟨Nat.le_refl _⟩, ⟨by (with_reducible repeat (first | apply Kd.R_alloc | apply Kd.R_drewN | apply Kd.R_drew)); exact Kd.R_mono HO220.out (fun _ hk => hk.2)⟩, ⟨by (with_reducible repeat (first | refine blk_drewN ?_ _ | refine blk_drew ?_ | refine blk_alloc ?_ _)); exact BK217.out⟩, ⟨by repeat (first | (with_reducible first | exact HB.out | apply below_alloc | apply pw_below_drewN | apply below_drew1 | refine below_set ?_ GE217.out) | exact HB.out)⟩⟩
 case round =>
  clear H'
  try clear c1
  try clear c2
  try clear p2
  try clear c3
  obtain ⟨x11_1, x12_1, rfl, HA, HK1, HO_11, BK217, HB⟩ := hrel
  cases gk with
  | zero => exact absurd HA.out (by simp [annuletref28_Hops.l0])
  | succ k1 =>
   have H := HA.out
   clear HA
   simp only [annuletref28_Hops.l0] at H
   by_cases c9 : x12_1 < (l2.length : Int)
   ·rw [if_pos c9] at H
    have c9b0 : decide (x12_1 < (l2.length : Int)) = true := decide_eq_true c9
    clear c9
    by_cases c10 : 0 ≤ x12_1
    ·rw [if_pos c10] at H
     have c10b0 : decide (0 ≤ x12_1) = true := decide_eq_true c10
     clear c10
     by_cases c11 : x11_1.length < 8796093022208
     ·rw [if_pos c11] at H
      have LMc11 := Aside0.mk c11
      clear c11
      obtain ⟨y222, hy222⟩ : ∃ y_ : List (S26), y_ = (x11_1 ++ [(⟨(rd_T45 l2 x12_1).f1.f0, (rd_T45 l2 x12_1).f1.f1⟩ : S26)]) := ⟨_, rfl⟩
      replace H : (annuletref28_Hops.l0 k1 l2 a3 a4 y222 (wrap64 (x12_1 + 1)) a0_0 a0_1) = some r := by first | (rw [hy222]; with_reducible exact H) | (have H2_ := (Option.bind_some _ _).symm.trans H; rw [hy222]; with_reducible exact H2_) | (have H2_ := (Option.bind_some _ _).symm.trans H; with_reducible exact H2_) | with_reducible exact H | (rw [hy222]; exact H) | exact H
      have Ny222 := Aside0.mk hy222
      clear hy222
      have H' := Aside0.mk H
      clear H
      have p221 : 0 ≤ (x12_1 : Int) := of_decide_eq_true (by first | (with_reducible assumption) | assumption)
      have q221 : x12_1 < (l2.length : Int) := of_decide_eq_true (by first | (with_reducible assumption) | assumption)
      obtain ⟨ad221, e221, hx221_0, hx221_1, hx221_2⟩ := at_T45 HR2.out x12_1 p221 q221
      cases e221
      replace hx221_0 := (HB.out.cell (World.block_lt_of_cell? w _ hx221_0)).trans hx221_0
      replace hx221_1 := (HB.out.cell (World.block_lt_of_cell? w _ hx221_1)).trans hx221_1
      replace hx221_2 := (HB.out.cell (World.block_lt_of_cell? w _ hx221_2)).trans hx221_2
      replace p221 := eq_true p221
      replace q221 := eq_true q221
      go_wp2_with (first | ((with_reducible refine gate_builtin (b := .append) (xs := #[.tmp 28, .tmp 34]) rfl ?_); at_builtin; refine Kd.R_append k26 (w0 := w) w.heap.size rfl (.tmp 28) (.tmp 34) 36 26 (.agg #[(.int .u64 0), (.int .u16 0)]) 16 rfl Try.underlying36 info26 rfl (by decide) (by omega) u11 x11_1 (⟨(rd_T45 l2 x12_1).f1.f0, (rd_T45 l2 x12_1).f1.f1⟩ : S26) [.int .u64 ((rd_T45 l2 x12_1).f1.f0), .int .u16 ((rd_T45 l2 x12_1).f1.f1)] (fun k_ => k_ ≠ gb217) (fun _ => False) rfl rfl ?aP (fun _ hk => hk.elim) ?aF ?aO ?aB ?aS ?aL ?_; (case aP => exact k26_mkM _ _ _ (⟨(rd_T45 l2 x12_1).f1.f0, (rd_T45 l2 x12_1).f1.f1⟩ : S26)); (case aB => exact (by repeat (first | (with_reducible first | exact HB.out | apply below_alloc | apply pw_below_drewN | apply below_drew1 | refine below_set ?_ GE217.out) | exact HB.out))); (case aF => exact (fun k_ hk => Kd.freshB (g := gb217) (o := .cells #[.int .u64 a0_0, .int .u16 a0_1] 26 (0, 0)) (by (with_reducible repeat (first | refine blk_drewN ?_ _ | refine blk_drew ?_ | refine blk_alloc ?_ _)); exact BK217.out) k_ hk)); (case aO => exact (by (with_reducible repeat (first | apply Kd.R_alloc | apply Kd.R_drewN | apply Kd.R_drew)); exact HO_11.out)); (case aS => exact (below_size (by repeat (first | (with_reducible first | exact HB.out | apply below_alloc | apply pw_below_drewN | apply below_drew1 | refine below_set ?_ GE217.out) | exact HB.out)))); (case aL => have := LMc11.out; omega); intro v223 w12 ho hb hg hat; rw [← Ny222.out] at ho; have n0_ := Aside0.mk (blk_grown (g := gb217) (o := .cells #[.int .u64 a0_0, .int .u16 a0_1] 26 (0, 0)) (by (with_reducible repeat (first | refine blk_drewN ?_ _ | refine blk_drew ?_ | refine blk_alloc ?_ _)); exact BK217.out) hg (Kd.R_away HO_11.out (fun _ hk => hk))); have n1_ := Aside0.mk (hb); have n2_ := Aside0.mk (ho); clear BK217; clear HB; clear HO_11; have BK217 := n0_; have HB := n1_; have HO224 := n2_; clear n0_ n1_ n2_; clear ho hb hg hat))
      go_roundg k1
      case measure => have := HK1.out; omega
      case rel => exact ⟨(y222), (wrap64 (x12_1 + 1)), (by first | rfl | (simp; done) | (simp [*]; done)), H', ⟨by have := HK1.out; omega⟩, ⟨by (with_reducible repeat (first | apply Kd.R_alloc | apply Kd.R_drewN | apply Kd.R_drew)); exact HO224.out⟩, ⟨by (with_reducible repeat (first | refine blk_drewN ?_ _ | refine blk_drew ?_ | refine blk_alloc ?_ _)); exact BK217.out⟩, ⟨by repeat (first | (with_reducible first | exact HB.out | apply below_alloc | apply pw_below_drewN | apply below_drew1 | refine below_set ?_ GE217.out) | exact HB.out)⟩⟩
     ·rw [if_neg c11] at H
      exact absurd H (by simp)
    ·rw [if_neg c10] at H
     exact absurd H (by simp)
   ·rw [if_neg c9] at H
    have c9b0 : decide (x12_1 < (l2.length : Int)) = false := decide_eq_false c9
    clear c9
    have H' := Aside0.mk H
    clear H
    go_wp2
    go_loopg [13, 14, 15] k1 (fun kq v13 v14 v15 w' => ∃ (x13_2 : List (S26)) (x14_2 : List (S26)) (x15_2 : Int), v15 = .int .i64 x15_2 ∧ Aside0 (annuletref28_Hops.l1 kq a3 a4 x11_1 x13_2 x14_2 x15_2 a0_0 a0_1 = some r) ∧ Aside0 (kq ≤ k1) ∧ Aside0 (Kd.R k26 26 w' w.heap.size (fun k_ => some k_ ≠ (v13 : Value).ownBlock ∧ some k_ ≠ (v14 : Value).ownBlock ∧ k_ ≠ gb217) u11 x11_1) ∧ Aside0 (Kd.R k26 26 w' w.heap.size (fun k_ => some k_ ≠ (u11 : Value).ownBlock ∧ some k_ ≠ (v14 : Value).ownBlock ∧ k_ ≠ gb217) v13 x13_2) ∧ Aside0 (Kd.R k26 26 w' w.heap.size (fun k_ => some k_ ≠ (u11 : Value).ownBlock ∧ some k_ ≠ (v13 : Value).ownBlock ∧ k_ ≠ gb217) v14 x14_2) ∧ Aside0 (w'.heap[gb217]? = some (.cells #[.int .u64 a0_0, .int .u16 a0_1] 26 (0, 0))) ∧ Aside0 (Below w.heap.size w w'))
    case atStart => exact ⟨(([] : List (S26))), (([] : List (S26))), (0), (by first | rfl | (simp; done) | (simp [*]; done)), H', ⟨Nat.le_refl _⟩, ⟨by (with_reducible repeat (first | apply Kd.R_alloc | apply Kd.R_drewN | apply Kd.R_drew)); exact Kd.R_mono HO_11.out (fun _ hk => ⟨(by simp [Value.ownBlock]), ⟨(by simp [Value.ownBlock]), hk⟩⟩)⟩, ⟨by first | exact Kd.R_nil _ _ _ _ _ | exact Kd.N_nil _ _ _ _ _ | exact Kd.V_nil _ _ _ _ _ | exact Kd.Q_nil _ _ _ _ _ | exact Kd.S_nil _ _ _ _ _⟩, ⟨by first | exact Kd.R_nil _ _ _ _ _ | exact Kd.N_nil _ _ _ _ _ | exact Kd.V_nil _ _ _ _ _ | exact Kd.Q_nil _ _ _ _ _ | exact Kd.S_nil _ _ _ _ _⟩, ⟨by (with_reducible repeat (first | refine blk_drewN ?_ _ | refine blk_drew ?_ | refine blk_alloc ?_ _)); exact BK217.out⟩, ⟨by repeat (first | (with_reducible first | exact HB.out | apply below_alloc | apply pw_below_drewN | apply below_drew1 | refine below_set ?_ GE217.out) | exact HB.out)⟩⟩
    case round =>
     clear H'
     try clear c1
     try clear c2
     try clear p2
     try clear q2
     try clear hx2
     try clear c3
     try clear p6
     try clear c9
     try clear c9b0
     try clear c10
     try clear c10b0
     try clear c11
     try clear hx221_0
     try clear hx221_1
     try clear hx221_2
     try clear p2
     try clear p221
     try clear q221
     obtain ⟨x13_2, x14_2, x15_2, rfl, HA, HK2, HO_11, HO_13, HO_14, BK217, HB⟩ := hrel
     cases gk with
     | zero => exact absurd HA.out (by simp [annuletref28_Hops.l1])
     | succ k2 =>
      have H := HA.out
      clear HA
      simp only [annuletref28_Hops.l1] at H
      by_cases c13 : x15_2 < (x11_1.length : Int)
      ·rw [if_pos c13] at H
       have c13b0 : decide (x15_2 < (x11_1.length : Int)) = true := decide_eq_true c13
       clear c13
       by_cases c14 : 0 ≤ x15_2
       ·rw [if_pos c14] at H
        have c14b0 : decide (0 ≤ x15_2) = true := decide_eq_true c14
        clear c14
        have HC15 := Aside0.mk H
        clear H
        obtain ⟨Ao16, co16, eo16⟩ := Kd.R_slice HO_11.out
        subst eo16
        have p225 : 0 ≤ (x15_2 : Int) := of_decide_eq_true (by first | (with_reducible assumption) | assumption)
        have q225 : x15_2 < (x11_1.length : Int) := of_decide_eq_true (by first | (with_reducible assumption) | assumption)
        obtain ⟨ad225, e225, hx225_0, hx225_1⟩ := at_T26 (Kd.R_reads' HO_11.out).2.2 x15_2 p225 q225
        cases e225
        replace p225 := eq_true p225
        replace q225 := eq_true q225
        go_upto_region 12 with (first | ((with_reducible refine gate_dst (N := 16) rfl ?_); refine box_event ?hg (N := 16) ?hd (cs := #[.int .u64 0, .int .u16 0]) (t := 26) ?hr ?_; (case hd => rfl); (case hg => rfl); (case hr => first | (go_simp; done) | (go_simp; rfl)); intro gb226 hg w17 hbox hb; have n0_ := Aside0.mk (Kd.R_below (Kd.R_elderB (by (with_reducible repeat (first | apply Kd.R_alloc | apply Kd.R_drewN | apply Kd.R_drew)); exact HO_11.out) gb226 (Nat.le_of_eq hg.symm)) hb); have n1_ := Aside0.mk (Kd.R_below (Kd.R_elderB (by (with_reducible repeat (first | apply Kd.R_alloc | apply Kd.R_drewN | apply Kd.R_drew)); exact HO_13.out) gb226 (Nat.le_of_eq hg.symm)) hb); have n2_ := Aside0.mk (Kd.R_below (Kd.R_elderB (by (with_reducible repeat (first | apply Kd.R_alloc | apply Kd.R_drewN | apply Kd.R_drew)); exact HO_14.out) gb226 (Nat.le_of_eq hg.symm)) hb); have n3_ := Aside0.mk (blk_below (g := gb217) (o := .cells #[.int .u64 a0_0, .int .u16 a0_1] 26 (0, 0)) (by (with_reducible repeat (first | refine blk_drewN ?_ _ | refine blk_drew ?_ | refine blk_alloc ?_ _)); exact BK217.out) hb); have n4_ := Aside0.mk (below_step (by repeat (first | (with_reducible first | exact HB.out | apply below_alloc | apply pw_below_drewN | apply below_drew1 | refine below_set ?_ GE217.out) | exact HB.out)) hb); have n5_ := Aside0.mk (hbox); have n6_ := Aside0.mk ((by rw [hg]; exact (below_size (by repeat (first | (with_reducible first | exact HB.out | apply below_alloc | apply pw_below_drewN | apply below_drew1 | refine below_set ?_ GE217.out) | exact HB.out))) : w.heap.size ≤ gb226)); have n7_ := Aside0.mk ((by rw [hg]; exact (below_size (by repeat (first | (with_reducible first | exact HB.out | apply below_alloc | apply pw_below_drewN | apply below_drew1 | refine below_set ?_ GE217.out) | exact HB.out))) : w.heap.size ≤ gb226)); have n8_ := Aside0.mk ((by rw [hg]; exact Nat.ne_of_lt (blk_lt (g := gb217) (by (with_reducible repeat (first | refine blk_drewN ?_ _ | refine blk_drew ?_ | refine blk_alloc ?_ _)); exact BK217.out)) : gb217 ≠ gb226)); have n9_ := Aside0.mk ((by rw [hg]; exact Nat.ne_of_gt (blk_lt (g := gb217) (by (with_reducible repeat (first | refine blk_drewN ?_ _ | refine blk_drew ?_ | refine blk_alloc ?_ _)); exact BK217.out)) : gb226 ≠ gb217)); clear HO_11; clear HO_13; clear HO_14; clear BK217; clear HB; have HO_11 := n0_; have HO_13 := n1_; have HO_14 := n2_; have BK217 := n3_; have HB := n4_; have BK226 := n5_; have GW226 := n6_; have GE226 := n7_; have NB217_226 := n8_; have NB226_217 := n9_; clear n0_ n1_ n2_ n3_ n4_ n5_ n6_ n7_ n8_ n9_; clear hb hbox hg; have hnb18 := NB226_217.out; have hnc18 := NB217_226.out; obtain ⟨hcz19_0, hcz19_1, hfz19_0, hfz19_1⟩ := box2f (w := w17) (g := gb226) BK226.out))
        (try simp only [Act.put, la_, lz_, ls_])
        go_cut [56] (fun v56 wc => ∃ (kq : Nat) (x56_14 : Bool), v56 = .bool x56_14 ∧ Aside0 (annuletref28_Hops.j2 kq a3 a4 x11_1 x13_2 x14_2 x15_2 x56_14 a0_0 a0_1 ((rd_T26 x11_1 x15_2).f0) ((rd_T26 x11_1 x15_2).f1) = some r) ∧ Aside0 (kq ≤ k2) ∧ Aside0 (Kd.R k26 26 wc w.heap.size (fun k_ => some k_ ≠ (u13 : Value).ownBlock ∧ some k_ ≠ (u14 : Value).ownBlock ∧ k_ ≠ gb217 ∧ k_ ≠ gb226) (.slice (some ad225) x11_1.length co16) x11_1) ∧ Aside0 (Kd.R k26 26 wc w.heap.size (fun k_ => some k_ ≠ ((.slice (some ad225) x11_1.length co16) : Value).ownBlock ∧ some k_ ≠ (u14 : Value).ownBlock ∧ k_ ≠ gb217 ∧ k_ ≠ gb226) u13 x13_2) ∧ Aside0 (Kd.R k26 26 wc w.heap.size (fun k_ => some k_ ≠ ((.slice (some ad225) x11_1.length co16) : Value).ownBlock ∧ some k_ ≠ (u13 : Value).ownBlock ∧ k_ ≠ gb217 ∧ k_ ≠ gb226) u14 x14_2) ∧ Aside0 (wc.heap[gb217]? = some (.cells #[.int .u64 a0_0, .int .u16 a0_1] 26 (0, 0))) ∧ Aside0 (wc.heap[gb226]? = some (.cells #[.int .u64 ((rd_T26 x11_1 x15_2).f0), .int .u16 ((rd_T26 x11_1 x15_2).f1)] 26 (0, 0))) ∧ Aside0 (Below w.heap.size w wc))
        case first =>
         have H := HC15.out
         clear HC15
         replace H := Option.bind_eq_some_iff.mp H
         obtain ⟨t227, A200, H⟩ := H
         replace H : (if t227 = true then (annuletref28_Hops.j2 k2 a3 a4 x11_1 x13_2 x14_2 x15_2 true a0_0 a0_1 ((rd_T26 x11_1 x15_2).f0) ((rd_T26 x11_1 x15_2).f1)) else (annuletref28_Hops.j2 k2 a3 a4 x11_1 x13_2 x14_2 x15_2 (((rd_T26 x11_1 x15_2).f1) == a0_1) a0_0 a0_1 ((rd_T26 x11_1 x15_2).f0) ((rd_T26 x11_1 x15_2).f1))) = some r := H
         have A20 := Aside0.mk A200
         clear A200
         by_cases c21 : t227 = true
         ·subst c21
          have H1 : (annuletref28_Hops.j2 k2 a3 a4 x11_1 x13_2 x14_2 x15_2 true a0_0 a0_1 ((rd_T26 x11_1 x15_2).f0) ((rd_T26 x11_1 x15_2).f1)) = some r := by rw [if_pos rfl] at H; exact H
          clear H
          have H := H1
          clear H1
          have H' := Aside0.mk H
          clear H
          have hnb22 := NB226_217.out
          have hnc22 := NB217_226.out
          obtain ⟨hcz23_0, hcz23_1, hfz23_0, hfz23_1⟩ := box2f (w := w17) (g := gb226) BK226.out
          obtain ⟨Ao24, co24, eo24⟩ := Kd.R_slice HO_13.out
          subst eo24
          go_wp2_with (first | ((with_reducible refine gate_callee (f := 35) rfl ?_); refine goesL_ (some 49) rfl rfl Try.func35 (by kernel_rfl) rfl #[.slice Ao24 x13_2.length co24, .int .u16 ((rd_T26 x11_1 x15_2).f1)] rfl (by (try simp only [List.map_toArray, List.map_cons, List.map_nil]); first | done | rfl | (simp only [List.length_drop, List.length_take]; rfl)) ?_; (with_reducible refine (annuletref28_there.calls k2 _ _ x13_2 ((rd_T26 x11_1 x15_2).f1) true _ ?side1 ?side2 A20.out).mono ?_); (case side1 => refine (Kd.R_reads' (e := 26) (base := w.heap.size) (ok := fun k_ => ((some k_ ≠ (.slice (some ad225) x11_1.length co16 : Value).ownBlock ∧ (some k_ ≠ (u14 : Value).ownBlock ∧ k_ ≠ gb217)) ∧ k_ ≠ gb226)) (n := x13_2.length) (c := co24) ?_).2.2; exact (by (with_reducible repeat (first | apply Kd.R_alloc | apply Kd.R_drewN | apply Kd.R_drew)); exact (Kd.R_mono (Kd.R_far (p := ⟨gb226, 1, none⟩) (Kd.R_far (p := ⟨gb226, 0, none⟩) (Kd.R_mono HO_13.out (fun k_ hk => (⟨hk, hk.2⟩ : _ ∧ k_ ≠ gb226))) (fun _ hk => hk.2) (.int .u64 ((rd_T26 x11_1 x15_2).f0))) (fun _ hk => hk.2) (.int .u16 ((rd_T26 x11_1 x15_2).f1))) (fun _ h_ => h_.1)))); (case side2 => exact (Kd.R_reads' HO_13.out).2.1); rintro e w' ⟨rfl, ⟨nd, rfl⟩⟩; refine ⟨_, rfl, ?_⟩))
          go_meet
          case rel => exact ⟨_, (true), (by first | rfl | (simp; done) | (simp [*]; done)), H', ⟨by have := HK1.out; have := HK2.out; first | omega | exact Nat.le_refl _⟩, ⟨by (with_reducible repeat (first | apply Kd.R_alloc | apply Kd.R_drewN | apply Kd.R_drew)); exact Kd.R_mono (Kd.R_far (p := ⟨gb226, 1, none⟩) (Kd.R_far (p := ⟨gb226, 0, none⟩) (Kd.R_mono HO_11.out (fun k_ hk => (⟨hk, hk.2⟩ : _ ∧ k_ ≠ gb226))) (fun _ hk => hk.2) (.int .u64 ((rd_T26 x11_1 x15_2).f0))) (fun _ hk => hk.2) (.int .u16 ((rd_T26 x11_1 x15_2).f1))) (fun _ hk => ⟨hk.1.1.1, ⟨hk.1.1.2.1, ⟨hk.1.1.2.2, hk.1.2⟩⟩⟩)⟩, ⟨by (with_reducible repeat (first | apply Kd.R_alloc | apply Kd.R_drewN | apply Kd.R_drew)); exact Kd.R_mono (Kd.R_far (p := ⟨gb226, 1, none⟩) (Kd.R_far (p := ⟨gb226, 0, none⟩) (Kd.R_mono HO_13.out (fun k_ hk => (⟨hk, hk.2⟩ : _ ∧ k_ ≠ gb226))) (fun _ hk => hk.2) (.int .u64 ((rd_T26 x11_1 x15_2).f0))) (fun _ hk => hk.2) (.int .u16 ((rd_T26 x11_1 x15_2).f1))) (fun _ hk => ⟨hk.1.1.1, ⟨hk.1.1.2.1, ⟨hk.1.1.2.2, hk.1.2⟩⟩⟩)⟩, ⟨by (with_reducible repeat (first | apply Kd.R_alloc | apply Kd.R_drewN | apply Kd.R_drew)); exact Kd.R_mono (Kd.R_far (p := ⟨gb226, 1, none⟩) (Kd.R_far (p := ⟨gb226, 0, none⟩) (Kd.R_mono HO_14.out (fun k_ hk => (⟨hk, hk.2⟩ : _ ∧ k_ ≠ gb226))) (fun _ hk => hk.2) (.int .u64 ((rd_T26 x11_1 x15_2).f0))) (fun _ hk => hk.2) (.int .u16 ((rd_T26 x11_1 x15_2).f1))) (fun _ hk => ⟨hk.1.1.1, ⟨hk.1.1.2.1, ⟨hk.1.1.2.2, hk.1.2⟩⟩⟩)⟩, ⟨by (with_reducible repeat (first | refine blk_drewN ?_ _ | refine blk_drew ?_ | refine blk_alloc ?_ _)); refine blk_far ?_ NB217_226.out _; (with_reducible repeat (first | refine blk_drewN ?_ _ | refine blk_drew ?_ | refine blk_alloc ?_ _)); refine blk_far ?_ NB217_226.out _; (with_reducible repeat (first | refine blk_drewN ?_ _ | refine blk_drew ?_ | refine blk_alloc ?_ _)); exact BK217.out⟩, ⟨by (with_reducible repeat (first | refine blk_drewN ?_ _ | refine blk_drew ?_ | refine blk_alloc ?_ _)); refine blk_put (cs := #[.int .u64 ((rd_T26 x11_1 x15_2).f0), .int .u16 0]) ?_ 1 _ rfl; (with_reducible repeat (first | refine blk_drewN ?_ _ | refine blk_drew ?_ | refine blk_alloc ?_ _)); refine blk_put (cs := #[.int .u64 0, .int .u16 0]) ?_ 0 _ rfl; (with_reducible repeat (first | refine blk_drewN ?_ _ | refine blk_drew ?_ | refine blk_alloc ?_ _)); exact BK226.out⟩, ⟨by repeat (first | (with_reducible first | exact HB.out | apply below_alloc | apply pw_below_drewN | apply below_drew1 | refine below_set ?_ GE217.out | refine below_set ?_ GE226.out) | exact HB.out)⟩⟩
         ·replace c21 := Bool.eq_false_iff.mpr c21
          subst c21
          have H1 : (annuletref28_Hops.j2 k2 a3 a4 x11_1 x13_2 x14_2 x15_2 (((rd_T26 x11_1 x15_2).f1) == a0_1) a0_0 a0_1 ((rd_T26 x11_1 x15_2).f0) ((rd_T26 x11_1 x15_2).f1)) = some r := by rw [if_neg (show ¬ (false = true) by decide)] at H; exact H
          clear H
          have H := H1
          clear H1
          have H' := Aside0.mk H
          clear H
          have hnb25 := NB226_217.out
          have hnc25 := NB217_226.out
          obtain ⟨hcz26_0, hcz26_1, hfz26_0, hfz26_1⟩ := box2f (w := w17) (g := gb226) BK226.out
          obtain ⟨Ao27, co27, eo27⟩ := Kd.R_slice HO_13.out
          subst eo27
          go_wp2_with (first | ((with_reducible refine gate_callee (f := 35) rfl ?_); refine goesL_ (some 49) rfl rfl Try.func35 (by kernel_rfl) rfl #[.slice Ao27 x13_2.length co27, .int .u16 ((rd_T26 x11_1 x15_2).f1)] rfl (by (try simp only [List.map_toArray, List.map_cons, List.map_nil]); first | done | rfl | (simp only [List.length_drop, List.length_take]; rfl)) ?_; (with_reducible refine (annuletref28_there.calls k2 _ _ x13_2 ((rd_T26 x11_1 x15_2).f1) false _ ?side1 ?side2 A20.out).mono ?_); (case side1 => refine (Kd.R_reads' (e := 26) (base := w.heap.size) (ok := fun k_ => ((some k_ ≠ (.slice (some ad225) x11_1.length co16 : Value).ownBlock ∧ (some k_ ≠ (u14 : Value).ownBlock ∧ k_ ≠ gb217)) ∧ k_ ≠ gb226)) (n := x13_2.length) (c := co27) ?_).2.2; exact (by (with_reducible repeat (first | apply Kd.R_alloc | apply Kd.R_drewN | apply Kd.R_drew)); exact (Kd.R_mono (Kd.R_far (p := ⟨gb226, 1, none⟩) (Kd.R_far (p := ⟨gb226, 0, none⟩) (Kd.R_mono HO_13.out (fun k_ hk => (⟨hk, hk.2⟩ : _ ∧ k_ ≠ gb226))) (fun _ hk => hk.2) (.int .u64 ((rd_T26 x11_1 x15_2).f0))) (fun _ hk => hk.2) (.int .u16 ((rd_T26 x11_1 x15_2).f1))) (fun _ h_ => h_.1)))); (case side2 => exact (Kd.R_reads' HO_13.out).2.1); rintro e w' ⟨rfl, ⟨nd, rfl⟩⟩; refine ⟨_, rfl, ?_⟩; obtain ⟨hcz28_0, hcz28_1, hfz28_0, hfz28_1⟩ := box2f (w := w17) (g := gb217) BK217.out))
          go_meet
          case rel => exact ⟨_, ((((rd_T26 x11_1 x15_2).f1) == a0_1)), (by first | rfl | (simp; done) | (simp [*]; done)), H', ⟨by have := HK1.out; have := HK2.out; first | omega | exact Nat.le_refl _⟩, ⟨by (with_reducible repeat (first | apply Kd.R_alloc | apply Kd.R_drewN | apply Kd.R_drew)); exact Kd.R_mono (Kd.R_far (p := ⟨gb226, 1, none⟩) (Kd.R_far (p := ⟨gb226, 0, none⟩) (Kd.R_mono HO_11.out (fun k_ hk => (⟨hk, hk.2⟩ : _ ∧ k_ ≠ gb226))) (fun _ hk => hk.2) (.int .u64 ((rd_T26 x11_1 x15_2).f0))) (fun _ hk => hk.2) (.int .u16 ((rd_T26 x11_1 x15_2).f1))) (fun _ hk => ⟨hk.1.1.1, ⟨hk.1.1.2.1, ⟨hk.1.1.2.2, hk.1.2⟩⟩⟩)⟩, ⟨by (with_reducible repeat (first | apply Kd.R_alloc | apply Kd.R_drewN | apply Kd.R_drew)); exact Kd.R_mono (Kd.R_far (p := ⟨gb226, 1, none⟩) (Kd.R_far (p := ⟨gb226, 0, none⟩) (Kd.R_mono HO_13.out (fun k_ hk => (⟨hk, hk.2⟩ : _ ∧ k_ ≠ gb226))) (fun _ hk => hk.2) (.int .u64 ((rd_T26 x11_1 x15_2).f0))) (fun _ hk => hk.2) (.int .u16 ((rd_T26 x11_1 x15_2).f1))) (fun _ hk => ⟨hk.1.1.1, ⟨hk.1.1.2.1, ⟨hk.1.1.2.2, hk.1.2⟩⟩⟩)⟩, ⟨by (with_reducible repeat (first | apply Kd.R_alloc | apply Kd.R_drewN | apply Kd.R_drew)); exact Kd.R_mono (Kd.R_far (p := ⟨gb226, 1, none⟩) (Kd.R_far (p := ⟨gb226, 0, none⟩) (Kd.R_mono HO_14.out (fun k_ hk => (⟨hk, hk.2⟩ : _ ∧ k_ ≠ gb226))) (fun _ hk => hk.2) (.int .u64 ((rd_T26 x11_1 x15_2).f0))) (fun _ hk => hk.2) (.int .u16 ((rd_T26 x11_1 x15_2).f1))) (fun _ hk => ⟨hk.1.1.1, ⟨hk.1.1.2.1, ⟨hk.1.1.2.2, hk.1.2⟩⟩⟩)⟩, ⟨by (with_reducible repeat (first | refine blk_drewN ?_ _ | refine blk_drew ?_ | refine blk_alloc ?_ _)); refine blk_far ?_ NB217_226.out _; (with_reducible repeat (first | refine blk_drewN ?_ _ | refine blk_drew ?_ | refine blk_alloc ?_ _)); refine blk_far ?_ NB217_226.out _; (with_reducible repeat (first | refine blk_drewN ?_ _ | refine blk_drew ?_ | refine blk_alloc ?_ _)); exact BK217.out⟩, ⟨by (with_reducible repeat (first | refine blk_drewN ?_ _ | refine blk_drew ?_ | refine blk_alloc ?_ _)); refine blk_put (cs := #[.int .u64 ((rd_T26 x11_1 x15_2).f0), .int .u16 0]) ?_ 1 _ rfl; (with_reducible repeat (first | refine blk_drewN ?_ _ | refine blk_drew ?_ | refine blk_alloc ?_ _)); refine blk_put (cs := #[.int .u64 0, .int .u16 0]) ?_ 0 _ rfl; (with_reducible repeat (first | refine blk_drewN ?_ _ | refine blk_drew ?_ | refine blk_alloc ?_ _)); exact BK226.out⟩, ⟨by repeat (first | (with_reducible first | exact HB.out | apply below_alloc | apply pw_below_drewN | apply below_drew1 | refine below_set ?_ GE217.out | refine below_set ?_ GE226.out) | exact HB.out)⟩⟩
        case rest =>
         clear HC15
         try clear c1
         try clear c2
         try clear p2
         try clear q2
         try clear hx2
         try clear c3
         try clear p6
         try clear c9
         try clear c9b0
         try clear c10
         try clear c10b0
         try clear c11
         try clear c13
         try clear c13b0
         try clear c14
         try clear c14b0
         try clear c16
         try clear c18
         try clear c21
         try clear c22
         try clear p22
         try clear q22
         try clear hx22
         try clear c25
         try clear hcz19_0
         try clear hcz19_1
         try clear hcz23_0
         try clear hcz23_1
         try clear hcz26_0
         try clear hcz26_1
         try clear hcz28_0
         try clear hcz28_1
         try clear hfz19_0
         try clear hfz19_1
         try clear hfz23_0
         try clear hfz23_1
         try clear hfz26_0
         try clear hfz26_1
         try clear hfz28_0
         try clear hfz28_1
         try clear hx221_0
         try clear hx221_1
         try clear hx221_2
         try clear hx225_0
         try clear hx225_1
         try clear p2
         try clear p221
         try clear p225
         try clear p6
         try clear q2
         try clear q221
         try clear q225
         obtain ⟨kq, x56_14, rfl, HA, HJ14, HO_11, HO_13, HO_14, BK217, BK226, HB⟩ := hcut
         cases kq with
         | zero => exact absurd HA.out (by simp [annuletref28_Hops.j2])
         | succ kj14 =>
          have H := HA.out
          clear HA
          simp only [annuletref28_Hops.j2] at H
          by_cases c29 : x56_14 = true
          ·subst c29
           have H1 : (annuletref28_Hops.l1 kj14 a3 a4 x11_1 x13_2 x14_2 (wrap64 (x15_2 + 1)) a0_0 a0_1) = some r := by rw [if_pos rfl] at H; exact H
           clear H
           have H := H1
           clear H1
           have H' := Aside0.mk H
           clear H
           go_wp2
           go_roundg kj14
           case measure => have := HK1.out; have := HK2.out; have := HJ14.out; omega
           case rel => exact ⟨(x13_2), (x14_2), (wrap64 (x15_2 + 1)), (by first | rfl | (simp; done) | (simp [*]; done)), H', ⟨by have := HK1.out; have := HK2.out; have := HJ14.out; omega⟩, ⟨by (with_reducible repeat (first | apply Kd.R_alloc | apply Kd.R_drewN | apply Kd.R_drew)); exact Kd.R_mono HO_11.out (fun _ hk => ⟨hk.1, ⟨hk.2.1, hk.2.2.1⟩⟩)⟩, ⟨by (with_reducible repeat (first | apply Kd.R_alloc | apply Kd.R_drewN | apply Kd.R_drew)); exact Kd.R_mono HO_13.out (fun _ hk => ⟨hk.1, ⟨hk.2.1, hk.2.2.1⟩⟩)⟩, ⟨by (with_reducible repeat (first | apply Kd.R_alloc | apply Kd.R_drewN | apply Kd.R_drew)); exact Kd.R_mono HO_14.out (fun _ hk => ⟨hk.1, ⟨hk.2.1, hk.2.2.1⟩⟩)⟩, ⟨by (with_reducible repeat (first | refine blk_drewN ?_ _ | refine blk_drew ?_ | refine blk_alloc ?_ _)); exact BK217.out⟩, ⟨by repeat (first | (with_reducible first | exact HB.out | apply below_alloc | apply pw_below_drewN | apply below_drew1 | refine below_set ?_ GE217.out | refine below_set ?_ GE226.out) | exact HB.out)⟩⟩
          ·replace c29 := Bool.eq_false_iff.mpr c29
           subst c29
           have H1 : (if x13_2.length < 8796093022208 then ((some (x13_2 ++ [(⟨((rd_T26 x11_1 x15_2).f0), ((rd_T26 x11_1 x15_2).f1)⟩ : S26)] : List (S26))).bind fun y228 => ((annuletref03_Between.f a0_0 ((rd_T26 x11_1 x15_2).f0) a3).bind fun t231 => (if t231 = true then ((annuletref03_Dist.f a0_0 ((rd_T26 x11_1 x15_2).f0)).bind fun t232 => (annuletref28_Hops.l2 kj14 a3 a4 x11_1 y228 x14_2 x15_2 0 t232 a0_0 a0_1 ((rd_T26 x11_1 x15_2).f0) ((rd_T26 x11_1 x15_2).f1))) else (annuletref28_Hops.l1 kj14 a3 a4 x11_1 y228 x14_2 (wrap64 (x15_2 + 1)) a0_0 a0_1)))) else (none)) = some r := by rw [if_neg (show ¬ (false = true) by decide)] at H; exact H
           clear H
           have H := H1
           clear H1
           by_cases c30 : x13_2.length < 8796093022208
           ·rw [if_pos c30] at H
            have LMc30 := Aside0.mk c30
            clear c30
            obtain ⟨y228, hy228⟩ : ∃ y_ : List (S26), y_ = (x13_2 ++ [(⟨((rd_T26 x11_1 x15_2).f0), ((rd_T26 x11_1 x15_2).f1)⟩ : S26)]) := ⟨_, rfl⟩
            replace H : ((annuletref03_Between.f a0_0 ((rd_T26 x11_1 x15_2).f0) a3).bind fun t231 => (if t231 = true then ((annuletref03_Dist.f a0_0 ((rd_T26 x11_1 x15_2).f0)).bind fun t232 => (annuletref28_Hops.l2 kj14 a3 a4 x11_1 y228 x14_2 x15_2 0 t232 a0_0 a0_1 ((rd_T26 x11_1 x15_2).f0) ((rd_T26 x11_1 x15_2).f1))) else (annuletref28_Hops.l1 kj14 a3 a4 x11_1 y228 x14_2 (wrap64 (x15_2 + 1)) a0_0 a0_1))) = some r := by first | (rw [hy228]; with_reducible exact H) | (have H2_ := (Option.bind_some _ _).symm.trans H; rw [hy228]; with_reducible exact H2_) | (have H2_ := (Option.bind_some _ _).symm.trans H; with_reducible exact H2_) | with_reducible exact H | (rw [hy228]; exact H) | exact H
            have Ny228 := Aside0.mk hy228
            clear hy228
            replace H := Option.bind_eq_some_iff.mp H
            obtain ⟨t231, A310, H⟩ := H
            replace H : (if t231 = true then ((annuletref03_Dist.f a0_0 ((rd_T26 x11_1 x15_2).f0)).bind fun t232 => (annuletref28_Hops.l2 kj14 a3 a4 x11_1 y228 x14_2 x15_2 0 t232 a0_0 a0_1 ((rd_T26 x11_1 x15_2).f0) ((rd_T26 x11_1 x15_2).f1))) else (annuletref28_Hops.l1 kj14 a3 a4 x11_1 y228 x14_2 (wrap64 (x15_2 + 1)) a0_0 a0_1)) = some r := H
            have A31 := Aside0.mk A310
            clear A310
            by_cases c32 : t231 = true
            ·subst c32
             have H1 : ((annuletref03_Dist.f a0_0 ((rd_T26 x11_1 x15_2).f0)).bind fun t232 => (annuletref28_Hops.l2 kj14 a3 a4 x11_1 y228 x14_2 x15_2 0 t232 a0_0 a0_1 ((rd_T26 x11_1 x15_2).f0) ((rd_T26 x11_1 x15_2).f1))) = some r := by rw [if_pos rfl] at H; exact H
             clear H
             have H := H1
             clear H1
             replace H := Option.bind_eq_some_iff.mp H
             obtain ⟨t232, A330, H⟩ := H
             replace H : (annuletref28_Hops.l2 kj14 a3 a4 x11_1 y228 x14_2 x15_2 0 t232 a0_0 a0_1 ((rd_T26 x11_1 x15_2).f0) ((rd_T26 x11_1 x15_2).f1)) = some r := H
             have A33 := Aside0.mk A330
             clear A330
             have H' := Aside0.mk H
             clear H
             have hnb34 := NB226_217.out
             have hnc34 := NB217_226.out
             obtain ⟨hcz35_0, hcz35_1, hfz35_0, hfz35_1⟩ := box2f (w := wc) (g := gb226) BK226.out
             go_wp2_with (first | ((with_reducible refine gate_builtin (b := .append) (xs := #[.tmp 57, .tmp 59]) rfl ?_); at_builtin; refine Kd.R_append k26 (w0 := w) w.heap.size rfl (.tmp 57) (.tmp 59) 36 26 (.agg #[(.int .u64 0), (.int .u16 0)]) 16 rfl Try.underlying36 info26 rfl (by decide) (by omega) u13 x13_2 (⟨((rd_T26 x11_1 x15_2).f0), ((rd_T26 x11_1 x15_2).f1)⟩ : S26) [.int .u64 ((rd_T26 x11_1 x15_2).f0), .int .u16 ((rd_T26 x11_1 x15_2).f1)] (fun k_ => some k_ ≠ (.slice (some ad225) x11_1.length co16 : Value).ownBlock ∧ some k_ ≠ (u14 : Value).ownBlock ∧ k_ ≠ gb217 ∧ k_ ≠ gb226) (fun _ => False) rfl rfl ?aP (fun _ hk => hk.elim) ?aF ?aO ?aB ?aS ?aL ?_; (case aP => exact k26_mkM _ _ _ (⟨((rd_T26 x11_1 x15_2).f0), ((rd_T26 x11_1 x15_2).f1)⟩ : S26)); (case aB => exact (by repeat (first | (with_reducible first | exact HB.out | apply below_alloc | apply pw_below_drewN | apply below_drew1 | refine below_set ?_ GE217.out | refine below_set ?_ GE226.out) | exact HB.out))); (case aF => exact (fun k_ hk => ⟨Kd.fresh' (Kd.R_lt (by (with_reducible repeat (first | apply Kd.R_alloc | apply Kd.R_drewN | apply Kd.R_drew)); exact HO_11.out)) k_ hk, Kd.fresh' (Kd.R_lt (by (with_reducible repeat (first | apply Kd.R_alloc | apply Kd.R_drewN | apply Kd.R_drew)); exact HO_14.out)) k_ hk, Kd.freshB (g := gb217) (o := .cells #[.int .u64 a0_0, .int .u16 a0_1] 26 (0, 0)) (by (with_reducible repeat (first | refine blk_drewN ?_ _ | refine blk_drew ?_ | refine blk_alloc ?_ _)); exact BK217.out) k_ hk, Kd.freshB (g := gb226) (o := .cells #[.int .u64 ((rd_T26 x11_1 x15_2).f0), .int .u16 ((rd_T26 x11_1 x15_2).f1)] 26 (0, 0)) (by (with_reducible repeat (first | refine blk_drewN ?_ _ | refine blk_drew ?_ | refine blk_alloc ?_ _)); exact BK226.out) k_ hk⟩)); (case aO => exact (by (with_reducible repeat (first | apply Kd.R_alloc | apply Kd.R_drewN | apply Kd.R_drew)); exact HO_13.out)); (case aS => exact (below_size (by repeat (first | (with_reducible first | exact HB.out | apply below_alloc | apply pw_below_drewN | apply below_drew1 | refine below_set ?_ GE217.out | refine below_set ?_ GE226.out) | exact HB.out)))); (case aL => have := LMc30.out; omega); intro v229 w36 ho hb hg hat; rw [← Ny228.out] at ho; have n0_ := Aside0.mk (Kd.R_after (ok := (fun k_ => some k_ ≠ (u14 : Value).ownBlock ∧ k_ ≠ gb217 ∧ k_ ≠ gb226)) (by (with_reducible repeat (first | apply Kd.R_alloc | apply Kd.R_drewN | apply Kd.R_drew)); exact Kd.R_mono HO_11.out (fun _ hk => ⟨⟨hk.2.1, ⟨hk.2.2.1, hk.2.2.2⟩⟩, hk.1⟩)) hg hat); have n1_ := Aside0.mk (Kd.R_after (ok := (fun k_ => some k_ ≠ (.slice (some ad225) x11_1.length co16 : Value).ownBlock ∧ k_ ≠ gb217 ∧ k_ ≠ gb226)) (by (with_reducible repeat (first | apply Kd.R_alloc | apply Kd.R_drewN | apply Kd.R_drew)); exact Kd.R_mono HO_14.out (fun _ hk => ⟨⟨hk.1, ⟨hk.2.2.1, hk.2.2.2⟩⟩, hk.2.1⟩)) hg hat); have n2_ := Aside0.mk (blk_grown (g := gb217) (o := .cells #[.int .u64 a0_0, .int .u16 a0_1] 26 (0, 0)) (by (with_reducible repeat (first | refine blk_drewN ?_ _ | refine blk_drew ?_ | refine blk_alloc ?_ _)); exact BK217.out) hg (Kd.R_away HO_13.out (fun _ hk => hk.2.2.1))); have n3_ := Aside0.mk (blk_grown (g := gb226) (o := .cells #[.int .u64 ((rd_T26 x11_1 x15_2).f0), .int .u16 ((rd_T26 x11_1 x15_2).f1)] 26 (0, 0)) (by (with_reducible repeat (first | refine blk_drewN ?_ _ | refine blk_drew ?_ | refine blk_alloc ?_ _)); exact BK226.out) hg (Kd.R_away HO_13.out (fun _ hk => hk.2.2.2))); have n4_ := Aside0.mk (hb); have n5_ := Aside0.mk (ho); clear HO_11; clear HO_14; clear BK217; clear BK226; clear HB; clear HO_13; have HO_11 := n0_; have HO_14 := n1_; have BK217 := n2_; have BK226 := n3_; have HB := n4_; have HO230 := n5_; clear n0_ n1_ n2_ n3_ n4_ n5_; clear ho hb hg hat; obtain ⟨hcz37_0, hcz37_1, hfz37_0, hfz37_1⟩ := box2f (w := w36) (g := gb217) BK217.out; obtain ⟨hcz38_0, hcz38_1, hfz38_0, hfz38_1⟩ := box2f (w := w36) (g := gb226) BK226.out) | ((with_reducible refine gate_callee (f := 36) rfl ?_); refine goesL_ (some 66) rfl rfl Try.func36 (by kernel_rfl) rfl #[.int .u64 a0_0, .int .u64 ((rd_T26 x11_1 x15_2).f0), .int .u64 a3] rfl (by (try simp only [List.map_toArray, List.map_cons, List.map_nil]); first | done | rfl | (simp only [List.length_drop, List.length_take]; rfl)) ?_; (with_reducible refine (annuletref03_Between.calls a0_0 ((rd_T26 x11_1 x15_2).f0) a3 true _ A31.out).mono ?_); rintro e w' ⟨rfl, ⟨nd, rfl⟩⟩; refine ⟨_, rfl, ?_⟩) | ((with_reducible refine gate_callee (f := 37) rfl ?_); refine goesL_ (some 72) rfl rfl Try.func37 (by kernel_rfl) rfl #[.int .u64 a0_0, .int .u64 ((rd_T26 x11_1 x15_2).f0)] rfl (by (try simp only [List.map_toArray, List.map_cons, List.map_nil]); first | done | rfl | (simp only [List.length_drop, List.length_take]; rfl)) ?_; (with_reducible refine (annuletref03_Dist.calls a0_0 ((rd_T26 x11_1 x15_2).f0) t232 _ A33.out).mono ?_); rintro e w' ⟨rfl, ⟨nd, rfl⟩⟩; refine ⟨_, rfl, ?_⟩))
             go_loopg [17] kj14 (fun kq v17 w' => ∃ (x17_4 : Int), v17 = .int .i64 x17_4 ∧ Aside0 (annuletref28_Hops.l2 kq a3 a4 x11_1 y228 x14_2 x15_2 x17_4 t232 a0_0 a0_1 ((rd_T26 x11_1 x15_2).f0) ((rd_T26 x11_1 x15_2).f1) = some r) ∧ Aside0 (kq ≤ kj14) ∧ Aside0 (Kd.R k26 26 w' w.heap.size (fun k_ => some k_ ≠ (v229 : Value).ownBlock ∧ some k_ ≠ (u14 : Value).ownBlock ∧ k_ ≠ gb217 ∧ k_ ≠ gb226) (.slice (some ad225) x11_1.length co16) x11_1) ∧ Aside0 (Kd.R k26 26 w' w.heap.size (fun k_ => some k_ ≠ ((.slice (some ad225) x11_1.length co16) : Value).ownBlock ∧ some k_ ≠ (u14 : Value).ownBlock ∧ k_ ≠ gb217 ∧ k_ ≠ gb226) v229 y228) ∧ Aside0 (Kd.R k26 26 w' w.heap.size (fun k_ => some k_ ≠ ((.slice (some ad225) x11_1.length co16) : Value).ownBlock ∧ some k_ ≠ (v229 : Value).ownBlock ∧ k_ ≠ gb217 ∧ k_ ≠ gb226) u14 x14_2) ∧ Aside0 (w'.heap[gb217]? = some (.cells #[.int .u64 a0_0, .int .u16 a0_1] 26 (0, 0))) ∧ Aside0 (w'.heap[gb226]? = some (.cells #[.int .u64 ((rd_T26 x11_1 x15_2).f0), .int .u16 ((rd_T26 x11_1 x15_2).f1)] 26 (0, 0))) ∧ Aside0 (Below w.heap.size w w'))
             case atStart => exact ⟨(0), (by first | rfl | (simp; done) | (simp [*]; done)), H', ⟨Nat.le_refl _⟩, ⟨by (with_reducible repeat (first | apply Kd.R_alloc | apply Kd.R_drewN | apply Kd.R_drew)); exact Kd.R_mono HO_11.out (fun _ hk => ⟨hk.2, ⟨hk.1.1, ⟨hk.1.2.1, hk.1.2.2⟩⟩⟩)⟩, ⟨by (with_reducible repeat (first | apply Kd.R_alloc | apply Kd.R_drewN | apply Kd.R_drew)); exact HO230.out⟩, ⟨by (with_reducible repeat (first | apply Kd.R_alloc | apply Kd.R_drewN | apply Kd.R_drew)); exact Kd.R_mono HO_14.out (fun _ hk => ⟨hk.1.1, ⟨hk.2, ⟨hk.1.2.1, hk.1.2.2⟩⟩⟩)⟩, ⟨by (with_reducible repeat (first | refine blk_drewN ?_ _ | refine blk_drew ?_ | refine blk_alloc ?_ _)); exact BK217.out⟩, ⟨by (with_reducible repeat (first | refine blk_drewN ?_ _ | refine blk_drew ?_ | refine blk_alloc ?_ _)); exact BK226.out⟩, ⟨by repeat (first | (with_reducible first | exact HB.out | apply below_alloc | apply pw_below_drewN | apply below_drew1 | refine below_set ?_ GE217.out | refine below_set ?_ GE226.out) | exact HB.out)⟩⟩
             case round =>
              clear H'
              try clear c1
              try clear c2
              try clear p2
              try clear q2
              try clear hx2
              try clear c3
              try clear p6
              try clear c9
              try clear c9b0
              try clear c10
              try clear c10b0
              try clear c11
              try clear c13
              try clear c13b0
              try clear c14
              try clear c14b0
              try clear c16
              try clear c18
              try clear c21
              try clear c22
              try clear p22
              try clear q22
              try clear hx22
              try clear c25
              try clear c29
              try clear c30
              try clear c32
              try clear c34
              try clear c35
              try clear c36
              try clear c37
              try clear hcz19_0
              try clear hcz19_1
              try clear hcz23_0
              try clear hcz23_1
              try clear hcz26_0
              try clear hcz26_1
              try clear hcz28_0
              try clear hcz28_1
              try clear hcz35_0
              try clear hcz35_1
              try clear hcz37_0
              try clear hcz37_1
              try clear hcz38_0
              try clear hcz38_1
              try clear hfz19_0
              try clear hfz19_1
              try clear hfz23_0
              try clear hfz23_1
              try clear hfz26_0
              try clear hfz26_1
              try clear hfz28_0
              try clear hfz28_1
              try clear hfz35_0
              try clear hfz35_1
              try clear hfz37_0
              try clear hfz37_1
              try clear hfz38_0
              try clear hfz38_1
              try clear hx221_0
              try clear hx221_1
              try clear hx221_2
              try clear hx225_0
              try clear hx225_1
              try clear p2
              try clear p22
              try clear p221
              try clear p225
              try clear p6
              try clear q2
              try clear q22
              try clear q221
              try clear q225
              obtain ⟨x17_4, rfl, HA, HK4, HO_11, HO_13, HO_14, BK217, BK226, HB⟩ := hrel
              cases gk with
              | zero => exact absurd HA.out (by simp [annuletref28_Hops.l2])
              | succ k4 =>
               have H := HA.out
               clear HA
               simp only [annuletref28_Hops.l2] at H
               by_cases c39 : x17_4 < (x14_2.length : Int)
               ·rw [if_pos c39] at H
                have c39b0 : decide (x17_4 < (x14_2.length : Int)) = true := decide_eq_true c39
                clear c39
                by_cases c40 : 0 ≤ x17_4
                ·rw [if_pos c40] at H
                 have c40b0 : decide (0 ≤ x17_4) = true := decide_eq_true c40
                 clear c40
                 replace H := Option.bind_eq_some_iff.mp H
                 obtain ⟨t234, A410, H⟩ := H
                 replace H : (if t234 > t232 then (annuletref28_Hops.l2 k4 a3 a4 x11_1 y228 x14_2 x15_2 (wrap64 (x17_4 + 1)) t232 a0_0 a0_1 ((rd_T26 x11_1 x15_2).f0) ((rd_T26 x11_1 x15_2).f1)) else ((annuletref03_Dist.f a0_0 ((rd_T26 x14_2 x17_4).f0)).bind fun t236 => (if t236 = t232 then (if ((rd_T26 x14_2 x17_4).f1) < ((rd_T26 x11_1 x15_2).f1) then (annuletref28_Hops.l2 k4 a3 a4 x11_1 y228 x14_2 x15_2 (wrap64 (x17_4 + 1)) t232 a0_0 a0_1 ((rd_T26 x11_1 x15_2).f0) ((rd_T26 x11_1 x15_2).f1)) else ((some (([] : List (S26)) : List (S26))).bind fun y238 => (if x17_4 ≤ (x14_2.length : Int) then ((some (x14_2.take (x17_4 : Int).toNat : List (S26))).bind fun y241 => (if y238.length + y241.length < 8796093022208 then ((some (y238 ++ y241 : List (S26))).bind fun y245 => (if y245.length < 8796093022208 then ((some (y245 ++ [(⟨((rd_T26 x11_1 x15_2).f0), ((rd_T26 x11_1 x15_2).f1)⟩ : S26)] : List (S26))).bind fun y248 => ((some (x14_2.drop (x17_4 : Int).toNat : List (S26))).bind fun y251 => (if y248.length + y251.length < 8796093022208 then (annuletref28_Hops.l1 k4 a3 a4 x11_1 y228 (y248 ++ y251) (wrap64 (x15_2 + 1)) a0_0 a0_1) else (none)))) else (none))) else (none))) else (none)))) else ((some (([] : List (S26)) : List (S26))).bind fun y258 => (if x17_4 ≤ (x14_2.length : Int) then ((some (x14_2.take (x17_4 : Int).toNat : List (S26))).bind fun y261 => (if y258.length + y261.length < 8796093022208 then ((some (y258 ++ y261 : List (S26))).bind fun y265 => (if y265.length < 8796093022208 then ((some (y265 ++ [(⟨((rd_T26 x11_1 x15_2).f0), ((rd_T26 x11_1 x15_2).f1)⟩ : S26)] : List (S26))).bind fun y268 => ((some (x14_2.drop (x17_4 : Int).toNat : List (S26))).bind fun y271 => (if y268.length + y271.length < 8796093022208 then (annuletref28_Hops.l1 k4 a3 a4 x11_1 y228 (y268 ++ y271) (wrap64 (x15_2 + 1)) a0_0 a0_1) else (none)))) else (none))) else (none))) else (none)))))) = some r := H
                 have A41 := Aside0.mk A410
                 clear A410
                 by_cases c42 : t234 > t232
                 ·rw [if_pos c42] at H
                  have c42b0 : decide (t232 < t234) = true := decide_eq_true c42
                  clear c42
                  have H' := Aside0.mk H
                  clear H
                  try go_wp2
                  have n0_ := Aside0.mk (Kd.R_drew HO_11.out)
                  have n1_ := Aside0.mk (Kd.R_drew HO_13.out)
                  have n2_ := Aside0.mk (Kd.R_drew HO_14.out)
                  have n3_ := Aside0.mk (blk_drew BK217.out)
                  have n4_ := Aside0.mk (blk_drew BK226.out)
                  have n5_ := Aside0.mk (below_drew1 HB.out)
                  clear HO_11
                  clear HO_13
                  clear HO_14
                  clear BK217
                  clear BK226
                  clear HB
                  have HO_11 := n0_
                  have HO_13 := n1_
                  have HO_14 := n2_
                  have BK217 := n3_
                  have BK226 := n4_
                  have HB := n5_
                  clear n0_ n1_ n2_ n3_ n4_ n5_
                  obtain ⟨Ao44, co44, eo44⟩ := Kd.R_slice HO_14.out
                  (first | subst eo44 | (injection eo44 with f1_ f2_ f3_; have f4_ := f1_.symm; have f5_ := f3_.symm; clear f1_ f2_ f3_; subst f4_; subst f5_))
                  have p233 : 0 ≤ (x17_4 : Int) := of_decide_eq_true (by first | (with_reducible assumption) | assumption)
                  have q233 : x17_4 < (x14_2.length : Int) := of_decide_eq_true (by first | (with_reducible assumption) | assumption)
                  obtain ⟨ad233, e233, hx233_0, hx233_1⟩ := at_T26 (Kd.R_reads' HO_14.out).2.2 x17_4 p233 q233
                  cases e233
                  replace p233 := eq_true p233
                  replace q233 := eq_true q233
                  refine start_ (n := 38) (S := fun w' => w'.cell? ⟨gb217, 0, none⟩ = some (.int .u64 a0_0) ∧ w'.cell? ⟨gb217, 1, none⟩ = some (.int .u16 a0_1) ∧ w'.cell? (ad233.add ((x17_4).toNat * 2)) = some (.int .u64 ((rd_T26 x14_2 x17_4).f0)) ∧ w'.cell? ⟨(ad233.add ((x17_4).toNat * 2)).block, (ad233.add ((x17_4).toNat * 2)).off + 1, none⟩ = some (.int .u16 ((rd_T26 x14_2 x17_4).f1))) (ds := []) #[F',F',F',F',F',F',F',F',F',F',F',F',F',F',F',F',F',F',F',F',F',F',F',F',F',F',F',F',F',F',F',F',F',F',F',F',F',F'] (by kernel_rfl) rfl rfl ⟨(blk_cell BK217.out 0).trans rfl, (blk_cell BK217.out 1).trans rfl, hx233_0, hx233_1⟩ (fun hHeld => ?_); refine with_tabW annuletref28_Hops.tab17 annuletref28_Hops.bits17 (fun HT_ HW_ => ?_)
                  generalize wr.drew = w43 at HO_11 HO_13 HO_14 BK217 BK226 HB hx233_0 hx233_1 hHeld ⊢
                  refine pure_ (i := 0) (N := some 73) (v := ?_) (a' := ?_) #[T',F',F',F',F',F',F',F',F',F',F',F',F',F',F',F',F',F',F',F',F',F',F',F',F',F',F',F',F',F',F',F',F',F',F',F',F',F'] rfl rfl (any_of HT_.out (by kernel_rfl)) (fun _ _ _ h => h) (Or.inl ⟨by rfl, ?_⟩) ?_ ?_
                  rotate_left
                  ·intro w'
                   go_simp
                   with_reducible rfl
                  rotate_left
                  ·simp only [Act.put, la_, lz_, ls_, i64_w, i32_w]
                   rfl
                  refine pure_ (i := 1) (N := some 74) (v := ?_) (a' := ?_) #[T',T',F',F',F',F',F',F',F',F',F',F',F',F',F',F',F',F',F',F',F',F',F',F',F',F',F',F',F',F',F',F',F',F',F',F',F',F'] rfl rfl (any_of HT_.out (by kernel_rfl)) (fun _ _ _ h => h) (Or.inl ⟨by rfl, ?_⟩) ?_ ?_
                  rotate_left
                  ·intro w'
                   go_simp
                   with_reducible rfl
                  rotate_left
                  ·simp only [Act.put, la_, lz_, ls_, i64_w, i32_w]
                   rfl
                  refine pure_ (i := 2) (N := some 75) (v := ?_) (a' := ?_) #[T',T',T',F',F',F',F',F',F',F',F',F',F',F',F',F',F',F',F',F',F',F',F',F',F',F',F',F',F',F',F',F',F',F',F',F',F',F'] rfl rfl (any_of HT_.out (by kernel_rfl)) (fun _ _ _ h => h) (Or.inl ⟨by rfl, ?_⟩) ?_ ?_
                  rotate_left
                  ·intro w'
                   go_simp
                   with_reducible rfl
                  rotate_left
                  ·simp only [Act.put, la_, lz_, ls_, i64_w, i32_w]
                   rfl
                  refine pure_ (i := 3) (N := some 76) (v := ?_) (a' := ?_) #[T',T',T',T',F',F',F',F',F',F',F',F',F',F',F',F',F',F',F',F',F',F',F',F',F',F',F',F',F',F',F',F',F',F',F',F',F',F'] rfl rfl (any_of HT_.out (by kernel_rfl)) (fun _ _ _ h => h) (Or.inl ⟨by rfl, ?_⟩) ?_ ?_
                  rotate_left
                  ·intro w'
                   go_simp
                   with_reducible rfl
                  rotate_left
                  ·simp only [Act.put, la_, lz_, ls_, i64_w, i32_w]
                   rfl
                  refine pure_ (i := 4) (N := some 77) (v := ?_) (a' := ?_) #[T',T',T',T',T',F',F',F',F',F',F',F',F',F',F',F',F',F',F',F',F',F',F',F',F',F',F',F',F',F',F',F',F',F',F',F',F',F'] rfl rfl (any_of HT_.out (by kernel_rfl)) (fun _ _ _ h => h) (Or.inl ⟨by rfl, ?_⟩) ?_ ?_
                  rotate_left
                  ·intro w'
                   go_simp
                   with_reducible rfl
                  rotate_left
                  ·simp only [Act.put, la_, lz_, ls_, i64_w, i32_w]
                   rfl
                  refine pure_ (i := 5) (N := some 78) (v := ?_) (a' := ?_) #[T',T',T',T',T',T',F',F',F',F',F',F',F',F',F',F',F',F',F',F',F',F',F',F',F',F',F',F',F',F',F',F',F',F',F',F',F',F'] rfl rfl (any_of HT_.out (by kernel_rfl)) (fun _ _ _ h => h) (Or.inl ⟨by rfl, ?_⟩) ?_ ?_
                  rotate_left
                  ·intro w'
                   go_simp
                   with_reducible rfl
                  rotate_left
                  ·simp only [Act.put, la_, lz_, ls_, i64_w, i32_w]
                   rfl
                  refine pure_ (i := 7) (N := some 80) (v := ?_) (a' := ?_) #[T',T',T',T',T',T',F',T',F',F',F',F',F',F',F',F',F',F',F',F',F',F',F',F',F',F',F',F',F',F',F',F',F',F',F',F',F',F'] rfl rfl (any_of HT_.out (by kernel_rfl)) (fun _ _ _ h => h) (Or.inl ⟨by rfl, ?_⟩) ?_ ?_
                  rotate_left
                  ·intro w'
                   go_simp
                   with_reducible rfl
                  rotate_left
                  ·simp only [Act.put, la_, lz_, ls_, i64_w, i32_w]
                   rfl
                  refine pure_ (i := 8) (N := some 81) (v := ?_) (a' := ?_) #[T',T',T',T',T',T',F',T',T',F',F',F',F',F',F',F',F',F',F',F',F',F',F',F',F',F',F',F',F',F',F',F',F',F',F',F',F',F'] rfl rfl (any_of HT_.out (by kernel_rfl)) (fun _ _ _ h => h) (Or.inl ⟨by rfl, ?_⟩) ?_ ?_
                  rotate_left
                  ·intro w'
                   go_simp
                   with_reducible rfl
                  rotate_left
                  ·simp only [Act.put, la_, lz_, ls_, i64_w, i32_w]
                   rfl
                  refine pure_ (i := 9) (N := some 82) (v := ?_) (a' := ?_) #[T',T',T',T',T',T',F',T',T',T',F',F',F',F',F',F',F',F',F',F',F',F',F',F',F',F',F',F',F',F',F',F',F',F',F',F',F',F'] rfl rfl (any_of HT_.out (by kernel_rfl)) (fun _ _ _ h => h) (Or.inl ⟨by rfl, ?_⟩) ?_ ?_
                  rotate_left
                  ·intro w'
                   go_simp
                   with_reducible rfl
                  rotate_left
                  ·simp only [Act.put, la_, lz_, ls_, i64_w, i32_w]
                   rfl
                  refine pure_ (i := 10) (N := some 83) (v := ?_) (a' := ?_) #[T',T',T',T',T',T',F',T',T',T',T',F',F',F',F',F',F',F',F',F',F',F',F',F',F',F',F',F',F',F',F',F',F',F',F',F',F',F'] rfl rfl (any_of HT_.out (by kernel_rfl)) (fun _ _ _ h => h) (Or.inl ⟨by rfl, ?_⟩) ?_ ?_
                  rotate_left
                  ·intro w'
                   go_simp
                   with_reducible rfl
                  rotate_left
                  ·simp only [Act.put, la_, lz_, ls_, i64_w, i32_w]
                   rfl
                  refine pure_ (i := 13) (N := some 86) (v := ?_) (a' := ?_) #[T',T',T',T',T',T',F',T',T',T',T',F',F',T',F',F',F',F',F',F',F',F',F',F',F',F',F',F',F',F',F',F',F',F',F',F',F',F'] rfl rfl (any_of HT_.out (by kernel_rfl)) (fun _ _ _ h => h) (Or.inl ⟨by rfl, ?_⟩) ?_ ?_
                  rotate_left
                  ·intro w'
                   go_simp
                   with_reducible rfl
                  rotate_left
                  ·simp only [Act.put, la_, lz_, ls_, i64_w, i32_w]
                   rfl
                  refine take_ (i := 6) (N := some 79) (v := ?_) (a' := ?_) #[T',T',T',T',T',T',T',T',T',T',T',F',F',T',F',F',F',F',F',F',F',F',F',F',F',F',F',F',F',F',F',F',F',F',F',F',F',F'] rfl rfl (take_ofW HT_.out HW_.out (by kernel_rfl)) (fun _ _ _ h => h) (Or.inl ⟨by rfl, ?_⟩) hHeld ?_ ?_
                  rotate_left
                  ·rintro w' ⟨s0, s1, s2, s3⟩
                   go_simp
                   with_reducible rfl
                  rotate_left
                  ·simp only [Act.put, la_, lz_, ls_, i64_w, i32_w]
                   rfl
                  refine take_ (i := 11) (N := some 84) (v := ?_) (a' := ?_) #[T',T',T',T',T',T',T',T',T',T',T',T',F',T',F',F',F',F',F',F',F',F',F',F',F',F',F',F',F',F',F',F',F',F',F',F',F',F'] rfl rfl (take_ofW HT_.out HW_.out (by kernel_rfl)) (fun _ _ _ h => h) (Or.inl ⟨by rfl, ?_⟩) hHeld ?_ ?_
                  rotate_left
                  ·rintro w' ⟨s0, s1, s2, s3⟩
                   go_simp
                   with_reducible rfl
                  rotate_left
                  ·simp only [Act.put, la_, lz_, ls_, i64_w, i32_w]
                   rfl
                  refine one_ (i := 12) (N := some 85) #[T',T',T',T',T',T',T',T',T',T',T',T',T',T',F',F',F',F',F',F',F',F',F',F',F',F',F',F',F',F',F',F',F',F',F',F',F',F'] rfl rfl (one_of HT_.out (by kernel_rfl)) (by decide) (fun K hK => ?_)
                  refine goes_ Try.func37 (by kernel_rfl) rfl #[.int .u64 a0_0, .int .u64 ((rd_T26 x14_2 x17_4).f0)] (by rfl) rfl rfl (by (try simp only [List.map_toArray, List.map_cons, List.map_nil]); first | done | rfl | (simp only [List.length_drop, List.length_take]; rfl)) ?_
                  with_reducible refine (annuletref03_Dist.calls a0_0 ((rd_T26 x14_2 x17_4).f0) t234 _ A41.out).mono ?_
                  rintro e w' ⟨rfl, ⟨nd, rfl⟩⟩
                  refine ⟨_, rfl, ?_⟩
                  refine hK.out _ _ ⟨(blk_cell BK217.out 0).trans rfl, (blk_cell BK217.out 1).trans rfl, hHeld.2.2.1, hHeld.2.2.2⟩ (fun hHeld => ?_)
                  clear hK K
                  refine norm_ (a' := ?_) ?_ ?_
                  rotate_left
                  ·show Act.put _ (some 85) _ = _
                   simp only [Act.put, la_, lz_, ls_, i64_w, i32_w]
                   rfl
                  refine pure_ (i := 14) (N := some 87) (v := ?_) (a' := ?_) #[T',T',T',T',T',T',T',T',T',T',T',T',T',T',T',F',F',F',F',F',F',F',F',F',F',F',F',F',F',F',F',F',F',F',F',F',F',F'] rfl rfl (any_of HT_.out (by kernel_rfl)) (fun _ _ _ h => h) (Or.inl ⟨by rfl, ?_⟩) ?_ ?_
                  rotate_left
                  ·intro w'
                   go_simp
                   with_reducible rfl
                  rotate_left
                  ·simp only [Act.put, la_, lz_, ls_, i64_w, i32_w]
                   rfl
                  refine pure_ (i := 15) (N := some 88) (v := ?_) (a' := ?_) #[T',T',T',T',T',T',T',T',T',T',T',T',T',T',T',T',F',F',F',F',F',F',F',F',F',F',F',F',F',F',F',F',F',F',F',F',F',F'] rfl rfl (any_of HT_.out (by kernel_rfl)) (fun _ _ _ h => h) (Or.inl ⟨by rfl, ?_⟩) ?_ ?_
                  rotate_left
                  ·intro w'
                   go_simp
                   with_reducible rfl
                  rotate_left
                  ·simp only [Act.put, la_, lz_, ls_, i64_w, i32_w]
                   rfl
                  refine pure_ (i := 16) (N := some 89) (v := undef) (a' := ?_) #[T',T',T',T',T',T',T',T',T',T',T',T',T',T',T',T',T',F',F',F',F',F',F',F',F',F',F',F',F',F',F',F',F',F',F',F',F',F'] rfl rfl (any_of HT_.out (by kernel_rfl)) (fun _ _ _ h => h) (Or.inr ⟨by rfl, rfl⟩) ?_ ?_
                  rotate_left
                  ·simp only [Act.put, la_, lz_, ls_, i64_w, i32_w]
                   rfl
                  refine pure_ (i := 17) (N := some 90) (v := undef) (a' := ?_) #[T',T',T',T',T',T',T',T',T',T',T',T',T',T',T',T',T',T',F',F',F',F',F',F',F',F',F',F',F',F',F',F',F',F',F',F',F',F'] rfl rfl (any_of HT_.out (by kernel_rfl)) (fun _ _ _ h => h) (Or.inr ⟨by rfl, rfl⟩) ?_ ?_
                  rotate_left
                  ·simp only [Act.put, la_, lz_, ls_, i64_w, i32_w]
                   rfl
                  refine pure_ (i := 18) (N := some 91) (v := undef) (a' := ?_) #[T',T',T',T',T',T',T',T',T',T',T',T',T',T',T',T',T',T',T',F',F',F',F',F',F',F',F',F',F',F',F',F',F',F',F',F',F',F'] rfl rfl (any_of HT_.out (by kernel_rfl)) (fun _ _ _ h => h) (Or.inr ⟨by rfl, rfl⟩) ?_ ?_
                  rotate_left
                  ·simp only [Act.put, la_, lz_, ls_, i64_w, i32_w]
                   rfl
                  refine pure_ (i := 19) (N := some 92) (v := undef) (a' := ?_) #[T',T',T',T',T',T',T',T',T',T',T',T',T',T',T',T',T',T',T',T',F',F',F',F',F',F',F',F',F',F',F',F',F',F',F',F',F',F'] rfl rfl (any_of HT_.out (by kernel_rfl)) (fun _ _ _ h => h) (Or.inr ⟨by rfl, rfl⟩) ?_ ?_
                  rotate_left
                  ·simp only [Act.put, la_, lz_, ls_, i64_w, i32_w]
                   rfl
                  refine pure_ (i := 20) (N := some 93) (v := undef) (a' := ?_) #[T',T',T',T',T',T',T',T',T',T',T',T',T',T',T',T',T',T',T',T',T',F',F',F',F',F',F',F',F',F',F',F',F',F',F',F',F',F'] rfl rfl (any_of HT_.out (by kernel_rfl)) (fun _ _ _ h => h) (Or.inr ⟨by rfl, rfl⟩) ?_ ?_
                  rotate_left
                  ·simp only [Act.put, la_, lz_, ls_, i64_w, i32_w]
                   rfl
                  refine pure_ (i := 21) (N := some 94) (v := undef) (a' := ?_) #[T',T',T',T',T',T',T',T',T',T',T',T',T',T',T',T',T',T',T',T',T',T',F',F',F',F',F',F',F',F',F',F',F',F',F',F',F',F'] rfl rfl (any_of HT_.out (by kernel_rfl)) (fun _ _ _ h => h) (Or.inr ⟨by rfl, rfl⟩) ?_ ?_
                  rotate_left
                  ·simp only [Act.put, la_, lz_, ls_, i64_w, i32_w]
                   rfl
                  refine pure_ (i := 22) (N := some 95) (v := undef) (a' := ?_) #[T',T',T',T',T',T',T',T',T',T',T',T',T',T',T',T',T',T',T',T',T',T',T',F',F',F',F',F',F',F',F',F',F',F',F',F',F',F'] rfl rfl (any_of HT_.out (by kernel_rfl)) (fun _ _ _ h => h) (Or.inr ⟨by rfl, rfl⟩) ?_ ?_
                  rotate_left
                  ·simp only [Act.put, la_, lz_, ls_, i64_w, i32_w]
                   rfl
                  refine pure_ (i := 23) (N := some 96) (v := undef) (a' := ?_) #[T',T',T',T',T',T',T',T',T',T',T',T',T',T',T',T',T',T',T',T',T',T',T',T',F',F',F',F',F',F',F',F',F',F',F',F',F',F'] rfl rfl (any_of HT_.out (by kernel_rfl)) (fun _ _ _ h => h) (Or.inr ⟨by rfl, rfl⟩) ?_ ?_
                  rotate_left
                  ·simp only [Act.put, la_, lz_, ls_, i64_w, i32_w]
                   rfl
                  refine pure_ (i := 24) (N := some 97) (v := undef) (a' := ?_) #[T',T',T',T',T',T',T',T',T',T',T',T',T',T',T',T',T',T',T',T',T',T',T',T',T',F',F',F',F',F',F',F',F',F',F',F',F',F'] rfl rfl (any_of HT_.out (by kernel_rfl)) (fun _ _ _ h => h) (Or.inr ⟨by rfl, rfl⟩) ?_ ?_
                  rotate_left
                  ·simp only [Act.put, la_, lz_, ls_, i64_w, i32_w]
                   rfl
                  refine pure_ (i := 25) (N := some 98) (v := undef) (a' := ?_) #[T',T',T',T',T',T',T',T',T',T',T',T',T',T',T',T',T',T',T',T',T',T',T',T',T',T',F',F',F',F',F',F',F',F',F',F',F',F'] rfl rfl (any_of HT_.out (by kernel_rfl)) (fun _ _ _ h => h) (Or.inr ⟨by rfl, rfl⟩) ?_ ?_
                  rotate_left
                  ·simp only [Act.put, la_, lz_, ls_, i64_w, i32_w]
                   rfl
                  refine pure_ (i := 26) (N := some 99) (v := undef) (a' := ?_) #[T',T',T',T',T',T',T',T',T',T',T',T',T',T',T',T',T',T',T',T',T',T',T',T',T',T',T',F',F',F',F',F',F',F',F',F',F',F'] rfl rfl (any_of HT_.out (by kernel_rfl)) (fun _ _ _ h => h) (Or.inr ⟨by rfl, rfl⟩) ?_ ?_
                  rotate_left
                  ·simp only [Act.put, la_, lz_, ls_, i64_w, i32_w]
                   rfl
                  refine pure_ (i := 27) (N := some 100) (v := undef) (a' := ?_) #[T',T',T',T',T',T',T',T',T',T',T',T',T',T',T',T',T',T',T',T',T',T',T',T',T',T',T',T',F',F',F',F',F',F',F',F',F',F'] rfl rfl (any_of HT_.out (by kernel_rfl)) (fun _ _ _ h => h) (Or.inr ⟨by rfl, rfl⟩) ?_ ?_
                  rotate_left
                  ·simp only [Act.put, la_, lz_, ls_, i64_w, i32_w]
                   rfl
                  refine pure_ (i := 28) (N := some 101) (v := undef) (a' := ?_) #[T',T',T',T',T',T',T',T',T',T',T',T',T',T',T',T',T',T',T',T',T',T',T',T',T',T',T',T',T',F',F',F',F',F',F',F',F',F'] rfl rfl (any_of HT_.out (by kernel_rfl)) (fun _ _ _ h => h) (Or.inr ⟨by rfl, rfl⟩) ?_ ?_
                  rotate_left
                  ·simp only [Act.put, la_, lz_, ls_, i64_w, i32_w]
                   rfl
                  refine pure_ (i := 29) (N := some 102) (v := undef) (a' := ?_) #[T',T',T',T',T',T',T',T',T',T',T',T',T',T',T',T',T',T',T',T',T',T',T',T',T',T',T',T',T',T',F',F',F',F',F',F',F',F'] rfl rfl (any_of HT_.out (by kernel_rfl)) (fun _ _ _ h => h) (Or.inr ⟨by rfl, rfl⟩) ?_ ?_
                  rotate_left
                  ·simp only [Act.put, la_, lz_, ls_, i64_w, i32_w]
                   rfl
                  refine pure_ (i := 30) (N := some 103) (v := undef) (a' := ?_) #[T',T',T',T',T',T',T',T',T',T',T',T',T',T',T',T',T',T',T',T',T',T',T',T',T',T',T',T',T',T',T',F',F',F',F',F',F',F'] rfl rfl (any_of HT_.out (by kernel_rfl)) (fun _ _ _ h => h) (Or.inr ⟨by rfl, rfl⟩) ?_ ?_
                  rotate_left
                  ·simp only [Act.put, la_, lz_, ls_, i64_w, i32_w]
                   rfl
                  refine pure_ (i := 31) (N := some 104) (v := undef) (a' := ?_) #[T',T',T',T',T',T',T',T',T',T',T',T',T',T',T',T',T',T',T',T',T',T',T',T',T',T',T',T',T',T',T',T',F',F',F',F',F',F'] rfl rfl (any_of HT_.out (by kernel_rfl)) (fun _ _ _ h => h) (Or.inr ⟨by rfl, rfl⟩) ?_ ?_
                  rotate_left
                  ·simp only [Act.put, la_, lz_, ls_, i64_w, i32_w]
                   rfl
                  refine pure_ (i := 32) (N := some 105) (v := undef) (a' := ?_) #[T',T',T',T',T',T',T',T',T',T',T',T',T',T',T',T',T',T',T',T',T',T',T',T',T',T',T',T',T',T',T',T',T',F',F',F',F',F'] rfl rfl (any_of HT_.out (by kernel_rfl)) (fun _ _ _ h => h) (Or.inr ⟨by rfl, rfl⟩) ?_ ?_
                  rotate_left
                  ·simp only [Act.put, la_, lz_, ls_, i64_w, i32_w]
                   rfl
                  refine pure_ (i := 33) (N := some 106) (v := undef) (a' := ?_) #[T',T',T',T',T',T',T',T',T',T',T',T',T',T',T',T',T',T',T',T',T',T',T',T',T',T',T',T',T',T',T',T',T',T',F',F',F',F'] rfl rfl (any_of HT_.out (by kernel_rfl)) (fun _ _ _ h => h) (Or.inr ⟨by rfl, rfl⟩) ?_ ?_
                  rotate_left
                  ·simp only [Act.put, la_, lz_, ls_, i64_w, i32_w]
                   rfl
                  refine pure_ (i := 34) (N := some 107) (v := undef) (a' := ?_) #[T',T',T',T',T',T',T',T',T',T',T',T',T',T',T',T',T',T',T',T',T',T',T',T',T',T',T',T',T',T',T',T',T',T',T',F',F',F'] rfl rfl (any_of HT_.out (by kernel_rfl)) (fun _ _ _ h => h) (Or.inr ⟨by rfl, rfl⟩) ?_ ?_
                  rotate_left
                  ·simp only [Act.put, la_, lz_, ls_, i64_w, i32_w]
                   rfl
                  refine pure_ (i := 35) (N := some 108) (v := undef) (a' := ?_) #[T',T',T',T',T',T',T',T',T',T',T',T',T',T',T',T',T',T',T',T',T',T',T',T',T',T',T',T',T',T',T',T',T',T',T',T',F',F'] rfl rfl (any_of HT_.out (by kernel_rfl)) (fun _ _ _ h => h) (Or.inr ⟨by rfl, rfl⟩) ?_ ?_
                  rotate_left
                  ·simp only [Act.put, la_, lz_, ls_, i64_w, i32_w]
                   rfl
                  refine pure_ (i := 36) (N := some 109) (v := ?_) (a' := ?_) #[T',T',T',T',T',T',T',T',T',T',T',T',T',T',T',T',T',T',T',T',T',T',T',T',T',T',T',T',T',T',T',T',T',T',T',T',T',F'] rfl rfl (any_of HT_.out (by kernel_rfl)) (fun _ _ _ h => h) (Or.inl ⟨by rfl, ?_⟩) ?_ ?_
                  rotate_left
                  ·intro w'
                   go_simp
                   with_reducible rfl
                  rotate_left
                  ·simp only [Act.put, la_, lz_, ls_, i64_w, i32_w]
                   rfl
                  refine pure_ (i := 37) (N := some 110) (v := ?_) (a' := ?_) #[T',T',T',T',T',T',T',T',T',T',T',T',T',T',T',T',T',T',T',T',T',T',T',T',T',T',T',T',T',T',T',T',T',T',T',T',T',T'] rfl rfl (any_of HT_.out (by kernel_rfl)) (fun _ _ _ h => h) (Or.inl ⟨by rfl, ?_⟩) ?_ ?_
                  rotate_left
                  ·intro w'
                   go_simp
                   with_reducible rfl
                  rotate_left
                  ·simp only [Act.put, la_, lz_, ls_, i64_w, i32_w]
                   rfl
                  refine done_ (done_of HT_.out (by kernel_rfl)) ?_
                  try go_wp2
                  go_roundg k4
                  case measure => have := HK1.out; have := HK2.out; have := HJ14.out; have := HK4.out; omega
                  case rel => exact ⟨(wrap64 (x17_4 + 1)), (by first | rfl | (simp; done) | (simp [*]; done)), H', ⟨by have := HK1.out; have := HK2.out; have := HJ14.out; have := HK4.out; omega⟩, ⟨by (with_reducible repeat (first | apply Kd.R_alloc | apply Kd.R_drewN | apply Kd.R_drew)); exact HO_11.out⟩, ⟨by (with_reducible repeat (first | apply Kd.R_alloc | apply Kd.R_drewN | apply Kd.R_drew)); exact HO_13.out⟩, ⟨by (with_reducible repeat (first | apply Kd.R_alloc | apply Kd.R_drewN | apply Kd.R_drew)); exact HO_14.out⟩, ⟨by (with_reducible repeat (first | refine blk_drewN ?_ _ | refine blk_drew ?_ | refine blk_alloc ?_ _)); exact BK217.out⟩, ⟨by (with_reducible repeat (first | refine blk_drewN ?_ _ | refine blk_drew ?_ | refine blk_alloc ?_ _)); exact BK226.out⟩, ⟨by repeat (first | (with_reducible first | exact HB.out | apply below_alloc | apply pw_below_drewN | apply below_drew1 | refine below_set ?_ GE217.out | refine below_set ?_ GE226.out) | exact HB.out)⟩⟩
                 ·rw [if_neg c42] at H
                  have c42b0 : decide (t232 < t234) = false := decide_eq_false c42
                  clear c42
                  replace H := Option.bind_eq_some_iff.mp H
                  obtain ⟨t236, A450, H⟩ := H
                  replace H : (if t236 = t232 then (if ((rd_T26 x14_2 x17_4).f1) < ((rd_T26 x11_1 x15_2).f1) then (annuletref28_Hops.l2 k4 a3 a4 x11_1 y228 x14_2 x15_2 (wrap64 (x17_4 + 1)) t232 a0_0 a0_1 ((rd_T26 x11_1 x15_2).f0) ((rd_T26 x11_1 x15_2).f1)) else ((some (([] : List (S26)) : List (S26))).bind fun y238 => (if x17_4 ≤ (x14_2.length : Int) then ((some (x14_2.take (x17_4 : Int).toNat : List (S26))).bind fun y241 => (if y238.length + y241.length < 8796093022208 then ((some (y238 ++ y241 : List (S26))).bind fun y245 => (if y245.length < 8796093022208 then ((some (y245 ++ [(⟨((rd_T26 x11_1 x15_2).f0), ((rd_T26 x11_1 x15_2).f1)⟩ : S26)] : List (S26))).bind fun y248 => ((some (x14_2.drop (x17_4 : Int).toNat : List (S26))).bind fun y251 => (if y248.length + y251.length < 8796093022208 then (annuletref28_Hops.l1 k4 a3 a4 x11_1 y228 (y248 ++ y251) (wrap64 (x15_2 + 1)) a0_0 a0_1) else (none)))) else (none))) else (none))) else (none)))) else ((some (([] : List (S26)) : List (S26))).bind fun y258 => (if x17_4 ≤ (x14_2.length : Int) then ((some (x14_2.take (x17_4 : Int).toNat : List (S26))).bind fun y261 => (if y258.length + y261.length < 8796093022208 then ((some (y258 ++ y261 : List (S26))).bind fun y265 => (if y265.length < 8796093022208 then ((some (y265 ++ [(⟨((rd_T26 x11_1 x15_2).f0), ((rd_T26 x11_1 x15_2).f1)⟩ : S26)] : List (S26))).bind fun y268 => ((some (x14_2.drop (x17_4 : Int).toNat : List (S26))).bind fun y271 => (if y268.length + y271.length < 8796093022208 then (annuletref28_Hops.l1 k4 a3 a4 x11_1 y228 (y268 ++ y271) (wrap64 (x15_2 + 1)) a0_0 a0_1) else (none)))) else (none))) else (none))) else (none)))) = some r := H
                  have A45 := Aside0.mk A450
                  clear A450
                  by_cases c46 : t236 = t232
                  ·rw [if_pos c46] at H
                   have c46b0 : (t236 == t232) = true := beq_iff_eq.mpr c46
                   have c46b1 : (t236 != t232) = false := bne_eq_false_iff_eq.mpr c46
                   clear c46
                   by_cases c47 : ((rd_T26 x14_2 x17_4).f1) < ((rd_T26 x11_1 x15_2).f1)
                   ·rw [if_pos c47] at H
                    have c47b0 : decide (((rd_T26 x14_2 x17_4).f1) < ((rd_T26 x11_1 x15_2).f1)) = true := decide_eq_true c47
                    clear c47
                    have H' := Aside0.mk H
                    clear H
                    try go_wp2
                    have n0_ := Aside0.mk (Kd.R_drew HO_11.out)
                    have n1_ := Aside0.mk (Kd.R_drew HO_13.out)
                    have n2_ := Aside0.mk (Kd.R_drew HO_14.out)
                    have n3_ := Aside0.mk (blk_drew BK217.out)
                    have n4_ := Aside0.mk (blk_drew BK226.out)
                    have n5_ := Aside0.mk (below_drew1 HB.out)
                    clear HO_11
                    clear HO_13
                    clear HO_14
                    clear BK217
                    clear BK226
                    clear HB
                    have HO_11 := n0_
                    have HO_13 := n1_
                    have HO_14 := n2_
                    have BK217 := n3_
                    have BK226 := n4_
                    have HB := n5_
                    clear n0_ n1_ n2_ n3_ n4_ n5_
                    obtain ⟨Ao49, co49, eo49⟩ := Kd.R_slice HO_14.out
                    (first | subst eo49 | (injection eo49 with f1_ f2_ f3_; have f4_ := f1_.symm; have f5_ := f3_.symm; clear f1_ f2_ f3_; subst f4_; subst f5_))
                    have p233 : 0 ≤ (x17_4 : Int) := of_decide_eq_true (by first | (with_reducible assumption) | assumption)
                    have q233 : x17_4 < (x14_2.length : Int) := of_decide_eq_true (by first | (with_reducible assumption) | assumption)
                    obtain ⟨ad233, e233, hx233_0, hx233_1⟩ := at_T26 (Kd.R_reads' HO_14.out).2.2 x17_4 p233 q233
                    cases e233
                    replace p233 := eq_true p233
                    replace q233 := eq_true q233
                    have p235 : 0 ≤ (x17_4 : Int) := of_decide_eq_true (by first | (with_reducible assumption) | assumption)
                    have q235 : x17_4 < (x14_2.length : Int) := of_decide_eq_true (by first | (with_reducible assumption) | assumption)
                    obtain ⟨ad235, e235, hx235_0, hx235_1⟩ := at_T26 (Kd.R_reads' HO_14.out).2.2 x17_4 p235 q235
                    obtain rfl : ad233 = ad235 := (by injection e235)
                    replace p235 := eq_true p235
                    replace q235 := eq_true q235
                    have p237 : 0 ≤ (x17_4 : Int) := of_decide_eq_true (by first | (with_reducible assumption) | assumption)
                    have q237 : x17_4 < (x14_2.length : Int) := of_decide_eq_true (by first | (with_reducible assumption) | assumption)
                    obtain ⟨ad237, e237, hx237_0, hx237_1⟩ := at_T26 (Kd.R_reads' HO_14.out).2.2 x17_4 p237 q237
                    obtain rfl : ad233 = ad237 := (by injection e237)
                    replace p237 := eq_true p237
                    replace q237 := eq_true q237
                    refine start_ (n := 38) (S := fun w' => w'.cell? ⟨gb217, 0, none⟩ = some (.int .u64 a0_0) ∧ w'.cell? ⟨gb217, 1, none⟩ = some (.int .u16 a0_1) ∧ w'.cell? ⟨gb226, 0, none⟩ = some (.int .u64 ((rd_T26 x11_1 x15_2).f0)) ∧ w'.cell? ⟨gb226, 1, none⟩ = some (.int .u16 ((rd_T26 x11_1 x15_2).f1)) ∧ w'.cell? (ad233.add ((x17_4).toNat * 2)) = some (.int .u64 ((rd_T26 x14_2 x17_4).f0)) ∧ w'.cell? ⟨(ad233.add ((x17_4).toNat * 2)).block, (ad233.add ((x17_4).toNat * 2)).off + 1, none⟩ = some (.int .u16 ((rd_T26 x14_2 x17_4).f1)) ∧ w'.cell? (ad233.add ((x17_4).toNat * 2)) = some (.int .u64 ((rd_T26 x14_2 x17_4).f0)) ∧ w'.cell? ⟨(ad233.add ((x17_4).toNat * 2)).block, (ad233.add ((x17_4).toNat * 2)).off + 1, none⟩ = some (.int .u16 ((rd_T26 x14_2 x17_4).f1)) ∧ w'.cell? (ad233.add ((x17_4).toNat * 2)) = some (.int .u64 ((rd_T26 x14_2 x17_4).f0)) ∧ w'.cell? ⟨(ad233.add ((x17_4).toNat * 2)).block, (ad233.add ((x17_4).toNat * 2)).off + 1, none⟩ = some (.int .u16 ((rd_T26 x14_2 x17_4).f1))) (ds := []) #[F',F',F',F',F',F',F',F',F',F',F',F',F',F',F',F',F',F',F',F',F',F',F',F',F',F',F',F',F',F',F',F',F',F',F',F',F',F'] (by kernel_rfl) rfl rfl ⟨(blk_cell BK217.out 0).trans rfl, (blk_cell BK217.out 1).trans rfl, (blk_cell BK226.out 0).trans rfl, (blk_cell BK226.out 1).trans rfl, hx233_0, hx233_1, hx235_0, hx235_1, hx237_0, hx237_1⟩ (fun hHeld => ?_); refine with_tabW annuletref28_Hops.tab17 annuletref28_Hops.bits17 (fun HT_ HW_ => ?_)
                    generalize wr.drew = w48 at HO_11 HO_13 HO_14 BK217 BK226 HB hx233_0 hx233_1 hx235_0 hx235_1 hx237_0 hx237_1 hHeld ⊢
                    refine pure_ (i := 0) (N := some 73) (v := ?_) (a' := ?_) #[T',F',F',F',F',F',F',F',F',F',F',F',F',F',F',F',F',F',F',F',F',F',F',F',F',F',F',F',F',F',F',F',F',F',F',F',F',F'] rfl rfl (any_of HT_.out (by kernel_rfl)) (fun _ _ _ h => h) (Or.inl ⟨by rfl, ?_⟩) ?_ ?_
                    rotate_left
                    ·intro w'
                     go_simp
                     with_reducible rfl
                    rotate_left
                    ·simp only [Act.put, la_, lz_, ls_, i64_w, i32_w]
                     rfl
                    refine pure_ (i := 1) (N := some 74) (v := ?_) (a' := ?_) #[T',T',F',F',F',F',F',F',F',F',F',F',F',F',F',F',F',F',F',F',F',F',F',F',F',F',F',F',F',F',F',F',F',F',F',F',F',F'] rfl rfl (any_of HT_.out (by kernel_rfl)) (fun _ _ _ h => h) (Or.inl ⟨by rfl, ?_⟩) ?_ ?_
                    rotate_left
                    ·intro w'
                     go_simp
                     with_reducible rfl
                    rotate_left
                    ·simp only [Act.put, la_, lz_, ls_, i64_w, i32_w]
                     rfl
                    refine pure_ (i := 2) (N := some 75) (v := ?_) (a' := ?_) #[T',T',T',F',F',F',F',F',F',F',F',F',F',F',F',F',F',F',F',F',F',F',F',F',F',F',F',F',F',F',F',F',F',F',F',F',F',F'] rfl rfl (any_of HT_.out (by kernel_rfl)) (fun _ _ _ h => h) (Or.inl ⟨by rfl, ?_⟩) ?_ ?_
                    rotate_left
                    ·intro w'
                     go_simp
                     with_reducible rfl
                    rotate_left
                    ·simp only [Act.put, la_, lz_, ls_, i64_w, i32_w]
                     rfl
                    refine pure_ (i := 3) (N := some 76) (v := ?_) (a' := ?_) #[T',T',T',T',F',F',F',F',F',F',F',F',F',F',F',F',F',F',F',F',F',F',F',F',F',F',F',F',F',F',F',F',F',F',F',F',F',F'] rfl rfl (any_of HT_.out (by kernel_rfl)) (fun _ _ _ h => h) (Or.inl ⟨by rfl, ?_⟩) ?_ ?_
                    rotate_left
                    ·intro w'
                     go_simp
                     with_reducible rfl
                    rotate_left
                    ·simp only [Act.put, la_, lz_, ls_, i64_w, i32_w]
                     rfl
                    refine pure_ (i := 4) (N := some 77) (v := ?_) (a' := ?_) #[T',T',T',T',T',F',F',F',F',F',F',F',F',F',F',F',F',F',F',F',F',F',F',F',F',F',F',F',F',F',F',F',F',F',F',F',F',F'] rfl rfl (any_of HT_.out (by kernel_rfl)) (fun _ _ _ h => h) (Or.inl ⟨by rfl, ?_⟩) ?_ ?_
                    rotate_left
                    ·intro w'
                     go_simp
                     with_reducible rfl
                    rotate_left
                    ·simp only [Act.put, la_, lz_, ls_, i64_w, i32_w]
                     rfl
                    refine pure_ (i := 5) (N := some 78) (v := ?_) (a' := ?_) #[T',T',T',T',T',T',F',F',F',F',F',F',F',F',F',F',F',F',F',F',F',F',F',F',F',F',F',F',F',F',F',F',F',F',F',F',F',F'] rfl rfl (any_of HT_.out (by kernel_rfl)) (fun _ _ _ h => h) (Or.inl ⟨by rfl, ?_⟩) ?_ ?_
                    rotate_left
                    ·intro w'
                     go_simp
                     with_reducible rfl
                    rotate_left
                    ·simp only [Act.put, la_, lz_, ls_, i64_w, i32_w]
                     rfl
                    refine pure_ (i := 7) (N := some 80) (v := ?_) (a' := ?_) #[T',T',T',T',T',T',F',T',F',F',F',F',F',F',F',F',F',F',F',F',F',F',F',F',F',F',F',F',F',F',F',F',F',F',F',F',F',F'] rfl rfl (any_of HT_.out (by kernel_rfl)) (fun _ _ _ h => h) (Or.inl ⟨by rfl, ?_⟩) ?_ ?_
                    rotate_left
                    ·intro w'
                     go_simp
                     with_reducible rfl
                    rotate_left
                    ·simp only [Act.put, la_, lz_, ls_, i64_w, i32_w]
                     rfl
                    refine pure_ (i := 8) (N := some 81) (v := ?_) (a' := ?_) #[T',T',T',T',T',T',F',T',T',F',F',F',F',F',F',F',F',F',F',F',F',F',F',F',F',F',F',F',F',F',F',F',F',F',F',F',F',F'] rfl rfl (any_of HT_.out (by kernel_rfl)) (fun _ _ _ h => h) (Or.inl ⟨by rfl, ?_⟩) ?_ ?_
                    rotate_left
                    ·intro w'
                     go_simp
                     with_reducible rfl
                    rotate_left
                    ·simp only [Act.put, la_, lz_, ls_, i64_w, i32_w]
                     rfl
                    refine pure_ (i := 9) (N := some 82) (v := ?_) (a' := ?_) #[T',T',T',T',T',T',F',T',T',T',F',F',F',F',F',F',F',F',F',F',F',F',F',F',F',F',F',F',F',F',F',F',F',F',F',F',F',F'] rfl rfl (any_of HT_.out (by kernel_rfl)) (fun _ _ _ h => h) (Or.inl ⟨by rfl, ?_⟩) ?_ ?_
                    rotate_left
                    ·intro w'
                     go_simp
                     with_reducible rfl
                    rotate_left
                    ·simp only [Act.put, la_, lz_, ls_, i64_w, i32_w]
                     rfl
                    refine pure_ (i := 10) (N := some 83) (v := ?_) (a' := ?_) #[T',T',T',T',T',T',F',T',T',T',T',F',F',F',F',F',F',F',F',F',F',F',F',F',F',F',F',F',F',F',F',F',F',F',F',F',F',F'] rfl rfl (any_of HT_.out (by kernel_rfl)) (fun _ _ _ h => h) (Or.inl ⟨by rfl, ?_⟩) ?_ ?_
                    rotate_left
                    ·intro w'
                     go_simp
                     with_reducible rfl
                    rotate_left
                    ·simp only [Act.put, la_, lz_, ls_, i64_w, i32_w]
                     rfl
                    refine pure_ (i := 13) (N := some 86) (v := ?_) (a' := ?_) #[T',T',T',T',T',T',F',T',T',T',T',F',F',T',F',F',F',F',F',F',F',F',F',F',F',F',F',F',F',F',F',F',F',F',F',F',F',F'] rfl rfl (any_of HT_.out (by kernel_rfl)) (fun _ _ _ h => h) (Or.inl ⟨by rfl, ?_⟩) ?_ ?_
                    rotate_left
                    ·intro w'
                     go_simp
                     with_reducible rfl
                    rotate_left
                    ·simp only [Act.put, la_, lz_, ls_, i64_w, i32_w]
                     rfl
                    refine take_ (i := 6) (N := some 79) (v := ?_) (a' := ?_) #[T',T',T',T',T',T',T',T',T',T',T',F',F',T',F',F',F',F',F',F',F',F',F',F',F',F',F',F',F',F',F',F',F',F',F',F',F',F'] rfl rfl (take_ofW HT_.out HW_.out (by kernel_rfl)) (fun _ _ _ h => h) (Or.inl ⟨by rfl, ?_⟩) hHeld ?_ ?_
                    rotate_left
                    ·rintro w' ⟨s0, s1, s2, s3, s4, s5, s6, s7, s8, s9⟩
                     go_simp
                     with_reducible rfl
                    rotate_left
                    ·simp only [Act.put, la_, lz_, ls_, i64_w, i32_w]
                     rfl
                    refine take_ (i := 11) (N := some 84) (v := ?_) (a' := ?_) #[T',T',T',T',T',T',T',T',T',T',T',T',F',T',F',F',F',F',F',F',F',F',F',F',F',F',F',F',F',F',F',F',F',F',F',F',F',F'] rfl rfl (take_ofW HT_.out HW_.out (by kernel_rfl)) (fun _ _ _ h => h) (Or.inl ⟨by rfl, ?_⟩) hHeld ?_ ?_
                    rotate_left
                    ·rintro w' ⟨s0, s1, s2, s3, s4, s5, s6, s7, s8, s9⟩
                     go_simp
                     with_reducible rfl
                    rotate_left
                    ·simp only [Act.put, la_, lz_, ls_, i64_w, i32_w]
                     rfl
                    refine one_ (i := 12) (N := some 85) #[T',T',T',T',T',T',T',T',T',T',T',T',T',T',F',F',F',F',F',F',F',F',F',F',F',F',F',F',F',F',F',F',F',F',F',F',F',F'] rfl rfl (one_of HT_.out (by kernel_rfl)) (by decide) (fun K hK => ?_)
                    refine goes_ Try.func37 (by kernel_rfl) rfl #[.int .u64 a0_0, .int .u64 ((rd_T26 x14_2 x17_4).f0)] (by rfl) rfl rfl (by (try simp only [List.map_toArray, List.map_cons, List.map_nil]); first | done | rfl | (simp only [List.length_drop, List.length_take]; rfl)) ?_
                    with_reducible refine (annuletref03_Dist.calls a0_0 ((rd_T26 x14_2 x17_4).f0) t234 _ A41.out).mono ?_
                    rintro e w' ⟨rfl, ⟨nd, rfl⟩⟩
                    refine ⟨_, rfl, ?_⟩
                    refine hK.out _ _ ⟨(blk_cell BK217.out 0).trans rfl, (blk_cell BK217.out 1).trans rfl, (blk_cell BK226.out 0).trans rfl, (blk_cell BK226.out 1).trans rfl, hHeld.2.2.2.2.1, hHeld.2.2.2.2.2.1, hHeld.2.2.2.2.2.2.1, hHeld.2.2.2.2.2.2.2.1, hHeld.2.2.2.2.2.2.2.2.1, hHeld.2.2.2.2.2.2.2.2.2⟩ (fun hHeld => ?_)
                    clear hK K
                    refine norm_ (a' := ?_) ?_ ?_
                    rotate_left
                    ·show Act.put _ (some 85) _ = _
                     simp only [Act.put, la_, lz_, ls_, i64_w, i32_w]
                     rfl
                    refine pure_ (i := 14) (N := some 87) (v := ?_) (a' := ?_) #[T',T',T',T',T',T',T',T',T',T',T',T',T',T',T',F',F',F',F',F',F',F',F',F',F',F',F',F',F',F',F',F',F',F',F',F',F',F'] rfl rfl (any_of HT_.out (by kernel_rfl)) (fun _ _ _ h => h) (Or.inl ⟨by rfl, ?_⟩) ?_ ?_
                    rotate_left
                    ·intro w'
                     go_simp
                     with_reducible rfl
                    rotate_left
                    ·simp only [Act.put, la_, lz_, ls_, i64_w, i32_w]
                     rfl
                    refine pure_ (i := 15) (N := some 88) (v := ?_) (a' := ?_) #[T',T',T',T',T',T',T',T',T',T',T',T',T',T',T',T',F',F',F',F',F',F',F',F',F',F',F',F',F',F',F',F',F',F',F',F',F',F'] rfl rfl (any_of HT_.out (by kernel_rfl)) (fun _ _ _ h => h) (Or.inl ⟨by rfl, ?_⟩) ?_ ?_
                    rotate_left
                    ·intro w'
                     go_simp
                     with_reducible rfl
                    rotate_left
                    ·simp only [Act.put, la_, lz_, ls_, i64_w, i32_w]
                     rfl
                    refine pure_ (i := 16) (N := some 89) (v := ?_) (a' := ?_) #[T',T',T',T',T',T',T',T',T',T',T',T',T',T',T',T',T',F',F',F',F',F',F',F',F',F',F',F',F',F',F',F',F',F',F',F',F',F'] rfl rfl (any_of HT_.out (by kernel_rfl)) (fun _ _ _ h => h) (Or.inl ⟨by rfl, ?_⟩) ?_ ?_
                    rotate_left
                    ·intro w'
                     go_simp
                     with_reducible rfl
                    rotate_left
                    ·simp only [Act.put, la_, lz_, ls_, i64_w, i32_w]
                     rfl
                    refine pure_ (i := 18) (N := some 91) (v := ?_) (a' := ?_) #[T',T',T',T',T',T',T',T',T',T',T',T',T',T',T',T',T',F',T',F',F',F',F',F',F',F',F',F',F',F',F',F',F',F',F',F',F',F'] rfl rfl (any_of HT_.out (by kernel_rfl)) (fun _ _ _ h => h) (Or.inl ⟨by rfl, ?_⟩) ?_ ?_
                    rotate_left
                    ·intro w'
                     go_simp
                     with_reducible rfl
                    rotate_left
                    ·simp only [Act.put, la_, lz_, ls_, i64_w, i32_w]
                     rfl
                    refine pure_ (i := 19) (N := some 92) (v := ?_) (a' := ?_) #[T',T',T',T',T',T',T',T',T',T',T',T',T',T',T',T',T',F',T',T',F',F',F',F',F',F',F',F',F',F',F',F',F',F',F',F',F',F'] rfl rfl (any_of HT_.out (by kernel_rfl)) (fun _ _ _ h => h) (Or.inl ⟨by rfl, ?_⟩) ?_ ?_
                    rotate_left
                    ·intro w'
                     go_simp
                     with_reducible rfl
                    rotate_left
                    ·simp only [Act.put, la_, lz_, ls_, i64_w, i32_w]
                     rfl
                    refine pure_ (i := 20) (N := some 93) (v := ?_) (a' := ?_) #[T',T',T',T',T',T',T',T',T',T',T',T',T',T',T',T',T',F',T',T',T',F',F',F',F',F',F',F',F',F',F',F',F',F',F',F',F',F'] rfl rfl (any_of HT_.out (by kernel_rfl)) (fun _ _ _ h => h) (Or.inl ⟨by rfl, ?_⟩) ?_ ?_
                    rotate_left
                    ·intro w'
                     go_simp
                     with_reducible rfl
                    rotate_left
                    ·simp only [Act.put, la_, lz_, ls_, i64_w, i32_w]
                     rfl
                    refine pure_ (i := 21) (N := some 94) (v := ?_) (a' := ?_) #[T',T',T',T',T',T',T',T',T',T',T',T',T',T',T',T',T',F',T',T',T',T',F',F',F',F',F',F',F',F',F',F',F',F',F',F',F',F'] rfl rfl (any_of HT_.out (by kernel_rfl)) (fun _ _ _ h => h) (Or.inl ⟨by rfl, ?_⟩) ?_ ?_
                    rotate_left
                    ·intro w'
                     go_simp
                     with_reducible rfl
                    rotate_left
                    ·simp only [Act.put, la_, lz_, ls_, i64_w, i32_w]
                     rfl
                    refine pure_ (i := 24) (N := some 97) (v := ?_) (a' := ?_) #[T',T',T',T',T',T',T',T',T',T',T',T',T',T',T',T',T',F',T',T',T',T',F',F',T',F',F',F',F',F',F',F',F',F',F',F',F',F'] rfl rfl (any_of HT_.out (by kernel_rfl)) (fun _ _ _ h => h) (Or.inl ⟨by rfl, ?_⟩) ?_ ?_
                    rotate_left
                    ·intro w'
                     go_simp
                     with_reducible rfl
                    rotate_left
                    ·simp only [Act.put, la_, lz_, ls_, i64_w, i32_w]
                     rfl
                    refine take_ (i := 17) (N := some 90) (v := ?_) (a' := ?_) #[T',T',T',T',T',T',T',T',T',T',T',T',T',T',T',T',T',T',T',T',T',T',F',F',T',F',F',F',F',F',F',F',F',F',F',F',F',F'] rfl rfl (take_ofW HT_.out HW_.out (by kernel_rfl)) (fun _ _ _ h => h) (Or.inl ⟨by rfl, ?_⟩) hHeld ?_ ?_
                    rotate_left
                    ·rintro w' ⟨s0, s1, s2, s3, s4, s5, s6, s7, s8, s9⟩
                     go_simp
                     with_reducible rfl
                    rotate_left
                    ·simp only [Act.put, la_, lz_, ls_, i64_w, i32_w]
                     rfl
                    refine take_ (i := 22) (N := some 95) (v := ?_) (a' := ?_) #[T',T',T',T',T',T',T',T',T',T',T',T',T',T',T',T',T',T',T',T',T',T',T',F',T',F',F',F',F',F',F',F',F',F',F',F',F',F'] rfl rfl (take_ofW HT_.out HW_.out (by kernel_rfl)) (fun _ _ _ h => h) (Or.inl ⟨by rfl, ?_⟩) hHeld ?_ ?_
                    rotate_left
                    ·rintro w' ⟨s0, s1, s2, s3, s4, s5, s6, s7, s8, s9⟩
                     go_simp
                     with_reducible rfl
                    rotate_left
                    ·simp only [Act.put, la_, lz_, ls_, i64_w, i32_w]
                     rfl
                    refine one_ (i := 23) (N := some 96) #[T',T',T',T',T',T',T',T',T',T',T',T',T',T',T',T',T',T',T',T',T',T',T',T',T',F',F',F',F',F',F',F',F',F',F',F',F',F'] rfl rfl (one_of HT_.out (by kernel_rfl)) (by decide) (fun K hK => ?_)
                    refine goes_ Try.func37 (by kernel_rfl) rfl #[.int .u64 a0_0, .int .u64 ((rd_T26 x14_2 x17_4).f0)] (by rfl) rfl rfl (by (try simp only [List.map_toArray, List.map_cons, List.map_nil]); first | done | rfl | (simp only [List.length_drop, List.length_take]; rfl)) ?_
                    with_reducible refine (annuletref03_Dist.calls a0_0 ((rd_T26 x14_2 x17_4).f0) t236 _ A45.out).mono ?_
                    rintro e w' ⟨rfl, ⟨nd, rfl⟩⟩
                    refine ⟨_, rfl, ?_⟩
                    refine hK.out _ _ ⟨(blk_cell BK217.out 0).trans rfl, (blk_cell BK217.out 1).trans rfl, (blk_cell BK226.out 0).trans rfl, (blk_cell BK226.out 1).trans rfl, hHeld.2.2.2.2.1, hHeld.2.2.2.2.2.1, hHeld.2.2.2.2.2.2.1, hHeld.2.2.2.2.2.2.2.1, hHeld.2.2.2.2.2.2.2.2.1, hHeld.2.2.2.2.2.2.2.2.2⟩ (fun hHeld => ?_)
                    clear hK K
                    refine norm_ (a' := ?_) ?_ ?_
                    rotate_left
                    ·show Act.put _ (some 96) _ = _
                     simp only [Act.put, la_, lz_, ls_, i64_w, i32_w]
                     rfl
                    refine pure_ (i := 25) (N := some 98) (v := ?_) (a' := ?_) #[T',T',T',T',T',T',T',T',T',T',T',T',T',T',T',T',T',T',T',T',T',T',T',T',T',T',F',F',F',F',F',F',F',F',F',F',F',F'] rfl rfl (any_of HT_.out (by kernel_rfl)) (fun _ _ _ h => h) (Or.inl ⟨by rfl, ?_⟩) ?_ ?_
                    rotate_left
                    ·intro w'
                     go_simp
                     with_reducible rfl
                    rotate_left
                    ·simp only [Act.put, la_, lz_, ls_, i64_w, i32_w]
                     rfl
                    refine pure_ (i := 26) (N := some 99) (v := ?_) (a' := ?_) #[T',T',T',T',T',T',T',T',T',T',T',T',T',T',T',T',T',T',T',T',T',T',T',T',T',T',T',F',F',F',F',F',F',F',F',F',F',F'] rfl rfl (any_of HT_.out (by kernel_rfl)) (fun _ _ _ h => h) (Or.inl ⟨by rfl, ?_⟩) ?_ ?_
                    rotate_left
                    ·intro w'
                     go_simp
                     with_reducible rfl
                    rotate_left
                    ·simp only [Act.put, la_, lz_, ls_, i64_w, i32_w]
                     rfl
                    refine pure_ (i := 27) (N := some 100) (v := ?_) (a' := ?_) #[T',T',T',T',T',T',T',T',T',T',T',T',T',T',T',T',T',T',T',T',T',T',T',T',T',T',T',T',F',F',F',F',F',F',F',F',F',F'] rfl rfl (any_of HT_.out (by kernel_rfl)) (fun _ _ _ h => h) (Or.inl ⟨by rfl, ?_⟩) ?_ ?_
                    rotate_left
                    ·intro w'
                     go_simp
                     with_reducible rfl
                    rotate_left
                    ·simp only [Act.put, la_, lz_, ls_, i64_w, i32_w]
                     rfl
                    refine pure_ (i := 28) (N := some 101) (v := ?_) (a' := ?_) #[T',T',T',T',T',T',T',T',T',T',T',T',T',T',T',T',T',T',T',T',T',T',T',T',T',T',T',T',T',F',F',F',F',F',F',F',F',F'] rfl rfl (any_of HT_.out (by kernel_rfl)) (fun _ _ _ h => h) (Or.inl ⟨by rfl, ?_⟩) ?_ ?_
                    rotate_left
                    ·intro w'
                     go_simp
                     with_reducible rfl
                    rotate_left
                    ·simp only [Act.put, la_, lz_, ls_, i64_w, i32_w]
                     rfl
                    refine pure_ (i := 29) (N := some 102) (v := ?_) (a' := ?_) #[T',T',T',T',T',T',T',T',T',T',T',T',T',T',T',T',T',T',T',T',T',T',T',T',T',T',T',T',T',T',F',F',F',F',F',F',F',F'] rfl rfl (any_of HT_.out (by kernel_rfl)) (fun _ _ _ h => h) (Or.inl ⟨by rfl, ?_⟩) ?_ ?_
                    rotate_left
                    ·intro w'
                     go_simp
                     with_reducible rfl
                    rotate_left
                    ·simp only [Act.put, la_, lz_, ls_, i64_w, i32_w]
                     rfl
                    refine pure_ (i := 30) (N := some 103) (v := ?_) (a' := ?_) #[T',T',T',T',T',T',T',T',T',T',T',T',T',T',T',T',T',T',T',T',T',T',T',T',T',T',T',T',T',T',T',F',F',F',F',F',F',F'] rfl rfl (any_of HT_.out (by kernel_rfl)) (fun _ _ _ h => h) (Or.inl ⟨by rfl, ?_⟩) ?_ ?_
                    rotate_left
                    ·intro w'
                     go_simp
                     with_reducible rfl
                    rotate_left
                    ·simp only [Act.put, la_, lz_, ls_, i64_w, i32_w]
                     rfl
                    refine pure_ (i := 32) (N := some 105) (v := ?_) (a' := ?_) #[T',T',T',T',T',T',T',T',T',T',T',T',T',T',T',T',T',T',T',T',T',T',T',T',T',T',T',T',T',T',T',F',T',F',F',F',F',F'] rfl rfl (any_of HT_.out (by kernel_rfl)) (fun _ _ _ h => h) (Or.inl ⟨by rfl, ?_⟩) ?_ ?_
                    rotate_left
                    ·intro w'
                     go_simp
                     with_reducible rfl
                    rotate_left
                    ·simp only [Act.put, la_, lz_, ls_, i64_w, i32_w]
                     rfl
                    refine take_ (i := 31) (N := some 104) (v := ?_) (a' := ?_) #[T',T',T',T',T',T',T',T',T',T',T',T',T',T',T',T',T',T',T',T',T',T',T',T',T',T',T',T',T',T',T',T',T',F',F',F',F',F'] rfl rfl (take_ofW HT_.out HW_.out (by kernel_rfl)) (fun _ _ _ h => h) (Or.inl ⟨by rfl, ?_⟩) hHeld ?_ ?_
                    rotate_left
                    ·rintro w' ⟨s0, s1, s2, s3, s4, s5, s6, s7, s8, s9⟩
                     go_simp
                     with_reducible rfl
                    rotate_left
                    ·simp only [Act.put, la_, lz_, ls_, i64_w, i32_w]
                     rfl
                    refine take_ (i := 33) (N := some 106) (v := ?_) (a' := ?_) #[T',T',T',T',T',T',T',T',T',T',T',T',T',T',T',T',T',T',T',T',T',T',T',T',T',T',T',T',T',T',T',T',T',T',F',F',F',F'] rfl rfl (take_ofW HT_.out HW_.out (by kernel_rfl)) (fun _ _ _ h => h) (Or.inl ⟨by rfl, ?_⟩) hHeld ?_ ?_
                    rotate_left
                    ·rintro w' ⟨s0, s1, s2, s3, s4, s5, s6, s7, s8, s9⟩
                     go_simp
                     with_reducible rfl
                    rotate_left
                    ·simp only [Act.put, la_, lz_, ls_, i64_w, i32_w]
                     rfl
                    refine pure_ (i := 34) (N := some 107) (v := ?_) (a' := ?_) #[T',T',T',T',T',T',T',T',T',T',T',T',T',T',T',T',T',T',T',T',T',T',T',T',T',T',T',T',T',T',T',T',T',T',T',F',F',F'] rfl rfl (any_of HT_.out (by kernel_rfl)) (fun _ _ _ h => h) (Or.inl ⟨by rfl, ?_⟩) ?_ ?_
                    rotate_left
                    ·intro w'
                     go_simp
                     with_reducible rfl
                    rotate_left
                    ·simp only [Act.put, la_, lz_, ls_, i64_w, i32_w]
                     rfl
                    refine pure_ (i := 35) (N := some 108) (v := ?_) (a' := ?_) #[T',T',T',T',T',T',T',T',T',T',T',T',T',T',T',T',T',T',T',T',T',T',T',T',T',T',T',T',T',T',T',T',T',T',T',T',F',F'] rfl rfl (any_of HT_.out (by kernel_rfl)) (fun _ _ _ h => h) (Or.inl ⟨by rfl, ?_⟩) ?_ ?_
                    rotate_left
                    ·intro w'
                     go_simp
                     with_reducible rfl
                    rotate_left
                    ·simp only [Act.put, la_, lz_, ls_, i64_w, i32_w]
                     rfl
                    refine pure_ (i := 36) (N := some 109) (v := ?_) (a' := ?_) #[T',T',T',T',T',T',T',T',T',T',T',T',T',T',T',T',T',T',T',T',T',T',T',T',T',T',T',T',T',T',T',T',T',T',T',T',T',F'] rfl rfl (any_of HT_.out (by kernel_rfl)) (fun _ _ _ h => h) (Or.inl ⟨by rfl, ?_⟩) ?_ ?_
                    rotate_left
                    ·intro w'
                     go_simp
                     with_reducible rfl
                    rotate_left
                    ·simp only [Act.put, la_, lz_, ls_, i64_w, i32_w]
                     rfl
                    refine pure_ (i := 37) (N := some 110) (v := ?_) (a' := ?_) #[T',T',T',T',T',T',T',T',T',T',T',T',T',T',T',T',T',T',T',T',T',T',T',T',T',T',T',T',T',T',T',T',T',T',T',T',T',T'] rfl rfl (any_of HT_.out (by kernel_rfl)) (fun _ _ _ h => h) (Or.inl ⟨by rfl, ?_⟩) ?_ ?_
                    rotate_left
                    ·intro w'
                     go_simp
                     with_reducible rfl
                    rotate_left
                    ·simp only [Act.put, la_, lz_, ls_, i64_w, i32_w]
                     rfl
                    refine done_ (done_of HT_.out (by kernel_rfl)) ?_
                    try go_wp2
                    go_roundg k4
                    case measure => have := HK1.out; have := HK2.out; have := HJ14.out; have := HK4.out; omega
                    case rel => exact ⟨(wrap64 (x17_4 + 1)), (by first | rfl | (simp; done) | (simp [*]; done)), H', ⟨by have := HK1.out; have := HK2.out; have := HJ14.out; have := HK4.out; omega⟩, ⟨by (with_reducible repeat (first | apply Kd.R_alloc | apply Kd.R_drewN | apply Kd.R_drew)); exact HO_11.out⟩, ⟨by (with_reducible repeat (first | apply Kd.R_alloc | apply Kd.R_drewN | apply Kd.R_drew)); exact HO_13.out⟩, ⟨by (with_reducible repeat (first | apply Kd.R_alloc | apply Kd.R_drewN | apply Kd.R_drew)); exact HO_14.out⟩, ⟨by (with_reducible repeat (first | refine blk_drewN ?_ _ | refine blk_drew ?_ | refine blk_alloc ?_ _)); exact BK217.out⟩, ⟨by (with_reducible repeat (first | refine blk_drewN ?_ _ | refine blk_drew ?_ | refine blk_alloc ?_ _)); exact BK226.out⟩, ⟨by repeat (first | (with_reducible first | exact HB.out | apply below_alloc | apply pw_below_drewN | apply below_drew1 | refine below_set ?_ GE217.out | refine below_set ?_ GE226.out) | exact HB.out)⟩⟩
                   ·rw [if_neg c47] at H
                    have c47b0 : decide (((rd_T26 x14_2 x17_4).f1) < ((rd_T26 x11_1 x15_2).f1)) = false := decide_eq_false c47
                    clear c47
                    obtain ⟨y238, hy238⟩ : ∃ y_ : List (S26), y_ = (([] : List (S26))) := ⟨_, rfl⟩
                    replace H : (if x17_4 ≤ (x14_2.length : Int) then ((some (x14_2.take (x17_4 : Int).toNat : List (S26))).bind fun y241 => (if y238.length + y241.length < 8796093022208 then ((some (y238 ++ y241 : List (S26))).bind fun y245 => (if y245.length < 8796093022208 then ((some (y245 ++ [(⟨((rd_T26 x11_1 x15_2).f0), ((rd_T26 x11_1 x15_2).f1)⟩ : S26)] : List (S26))).bind fun y248 => ((some (x14_2.drop (x17_4 : Int).toNat : List (S26))).bind fun y251 => (if y248.length + y251.length < 8796093022208 then (annuletref28_Hops.l1 k4 a3 a4 x11_1 y228 (y248 ++ y251) (wrap64 (x15_2 + 1)) a0_0 a0_1) else (none)))) else (none))) else (none))) else (none)) = some r := by first | (rw [hy238]; with_reducible exact H) | (have H2_ := (Option.bind_some _ _).symm.trans H; rw [hy238]; with_reducible exact H2_) | (have H2_ := (Option.bind_some _ _).symm.trans H; with_reducible exact H2_) | with_reducible exact H | (rw [hy238]; exact H) | exact H
                    have Ny238 := Aside0.mk hy238
                    clear hy238
                    have c50b0 := eq_true (of_decide_eq_true (by first | (with_reducible assumption) | assumption) : 0 ≤ x17_4)
                    by_cases c51 : x17_4 ≤ (x14_2.length : Int)
                    ·rw [if_pos c51] at H
                     have c51b0 := eq_true c51
                     have c51b1 : decide (x17_4 ≤ (x14_2.length : Int)) = true := decide_eq_true c51
                     clear c51
                     obtain ⟨y241, hy241⟩ : ∃ y_ : List (S26), y_ = (x14_2.take (x17_4 : Int).toNat) := ⟨_, rfl⟩
                     replace H : (if y238.length + y241.length < 8796093022208 then ((some (y238 ++ y241 : List (S26))).bind fun y245 => (if y245.length < 8796093022208 then ((some (y245 ++ [(⟨((rd_T26 x11_1 x15_2).f0), ((rd_T26 x11_1 x15_2).f1)⟩ : S26)] : List (S26))).bind fun y248 => ((some (x14_2.drop (x17_4 : Int).toNat : List (S26))).bind fun y251 => (if y248.length + y251.length < 8796093022208 then (annuletref28_Hops.l1 k4 a3 a4 x11_1 y228 (y248 ++ y251) (wrap64 (x15_2 + 1)) a0_0 a0_1) else (none)))) else (none))) else (none)) = some r := by first | (rw [hy241]; with_reducible exact H) | (have H2_ := (Option.bind_some _ _).symm.trans H; rw [hy241]; with_reducible exact H2_) | (have H2_ := (Option.bind_some _ _).symm.trans H; with_reducible exact H2_) | with_reducible exact H | (rw [hy241]; exact H) | exact H
                     have Ny241 := Aside0.mk hy241
                     clear hy241
                     by_cases c52 : y238.length + y241.length < 8796093022208
                     ·rw [if_pos c52] at H
                      have LMc52 := Aside0.mk c52
                      clear c52
                      obtain ⟨y245, hy245⟩ : ∃ y_ : List (S26), y_ = (y238 ++ y241) := ⟨_, rfl⟩
                      replace H : (if y245.length < 8796093022208 then ((some (y245 ++ [(⟨((rd_T26 x11_1 x15_2).f0), ((rd_T26 x11_1 x15_2).f1)⟩ : S26)] : List (S26))).bind fun y248 => ((some (x14_2.drop (x17_4 : Int).toNat : List (S26))).bind fun y251 => (if y248.length + y251.length < 8796093022208 then (annuletref28_Hops.l1 k4 a3 a4 x11_1 y228 (y248 ++ y251) (wrap64 (x15_2 + 1)) a0_0 a0_1) else (none)))) else (none)) = some r := by first | (rw [hy245]; with_reducible exact H) | (have H2_ := (Option.bind_some _ _).symm.trans H; rw [hy245]; with_reducible exact H2_) | (have H2_ := (Option.bind_some _ _).symm.trans H; with_reducible exact H2_) | with_reducible exact H | (rw [hy245]; exact H) | exact H
                      have Ny245 := Aside0.mk hy245
                      clear hy245
                      by_cases c53 : y245.length < 8796093022208
                      ·rw [if_pos c53] at H
                       have LMc53 := Aside0.mk c53
                       clear c53
                       obtain ⟨y248, hy248⟩ : ∃ y_ : List (S26), y_ = (y245 ++ [(⟨((rd_T26 x11_1 x15_2).f0), ((rd_T26 x11_1 x15_2).f1)⟩ : S26)]) := ⟨_, rfl⟩
                       replace H : ((some (x14_2.drop (x17_4 : Int).toNat : List (S26))).bind fun y251 => (if y248.length + y251.length < 8796093022208 then (annuletref28_Hops.l1 k4 a3 a4 x11_1 y228 (y248 ++ y251) (wrap64 (x15_2 + 1)) a0_0 a0_1) else (none))) = some r := by first | (rw [hy248]; with_reducible exact H) | (have H2_ := (Option.bind_some _ _).symm.trans H; rw [hy248]; with_reducible exact H2_) | (have H2_ := (Option.bind_some _ _).symm.trans H; with_reducible exact H2_) | with_reducible exact H | (rw [hy248]; exact H) | exact H
                       have Ny248 := Aside0.mk hy248
                       clear hy248
                       have c54b0 := eq_true (of_decide_eq_true (by first | (with_reducible assumption) | assumption) : 0 ≤ x17_4)
                       have c55b0 := eq_true (of_decide_eq_true (by first | (with_reducible assumption) | assumption) : x17_4 ≤ (x14_2.length : Int))
                       obtain ⟨y251, hy251⟩ : ∃ y_ : List (S26), y_ = (x14_2.drop (x17_4 : Int).toNat) := ⟨_, rfl⟩
                       replace H : (if y248.length + y251.length < 8796093022208 then (annuletref28_Hops.l1 k4 a3 a4 x11_1 y228 (y248 ++ y251) (wrap64 (x15_2 + 1)) a0_0 a0_1) else (none)) = some r := by first | (rw [hy251]; with_reducible exact H) | (have H2_ := (Option.bind_some _ _).symm.trans H; rw [hy251]; with_reducible exact H2_) | (have H2_ := (Option.bind_some _ _).symm.trans H; with_reducible exact H2_) | with_reducible exact H | (rw [hy251]; exact H) | exact H
                       have Ny251 := Aside0.mk hy251
                       clear hy251
                       by_cases c56 : y248.length + y251.length < 8796093022208
                       ·rw [if_pos c56] at H
                        have LMc56 := Aside0.mk c56
                        clear c56
                        obtain ⟨y255, hy255⟩ : ∃ y_ : List (S26), y_ = (y248 ++ y251) := ⟨_, rfl⟩
                        replace H : (annuletref28_Hops.l1 k4 a3 a4 x11_1 y228 y255 (wrap64 (x15_2 + 1)) a0_0 a0_1) = some r := by first | (rw [hy255]; with_reducible exact H) | (have H2_ := (Option.bind_some _ _).symm.trans H; rw [hy255]; with_reducible exact H2_) | (have H2_ := (Option.bind_some _ _).symm.trans H; with_reducible exact H2_) | with_reducible exact H | (rw [hy255]; exact H) | exact H
                        have Ny255 := Aside0.mk hy255
                        clear hy255
                        have H' := Aside0.mk H
                        clear H
                        try go_wp2
                        have n0_ := Aside0.mk (Kd.R_drew HO_11.out)
                        have n1_ := Aside0.mk (Kd.R_drew HO_13.out)
                        have n2_ := Aside0.mk (Kd.R_drew HO_14.out)
                        have n3_ := Aside0.mk (blk_drew BK217.out)
                        have n4_ := Aside0.mk (blk_drew BK226.out)
                        have n5_ := Aside0.mk (below_drew1 HB.out)
                        clear HO_11
                        clear HO_13
                        clear HO_14
                        clear BK217
                        clear BK226
                        clear HB
                        have HO_11 := n0_
                        have HO_13 := n1_
                        have HO_14 := n2_
                        have BK217 := n3_
                        have BK226 := n4_
                        have HB := n5_
                        clear n0_ n1_ n2_ n3_ n4_ n5_
                        obtain ⟨Ao58, co58, eo58⟩ := Kd.R_slice HO_14.out
                        (first | subst eo58 | (injection eo58 with f1_ f2_ f3_; have f4_ := f1_.symm; have f5_ := f3_.symm; clear f1_ f2_ f3_; subst f4_; subst f5_))
                        have p233 : 0 ≤ (x17_4 : Int) := of_decide_eq_true (by first | (with_reducible assumption) | assumption)
                        have q233 : x17_4 < (x14_2.length : Int) := of_decide_eq_true (by first | (with_reducible assumption) | assumption)
                        obtain ⟨ad233, e233, hx233_0, hx233_1⟩ := at_T26 (Kd.R_reads' HO_14.out).2.2 x17_4 p233 q233
                        cases e233
                        replace p233 := eq_true p233
                        replace q233 := eq_true q233
                        have p235 : 0 ≤ (x17_4 : Int) := of_decide_eq_true (by first | (with_reducible assumption) | assumption)
                        have q235 : x17_4 < (x14_2.length : Int) := of_decide_eq_true (by first | (with_reducible assumption) | assumption)
                        obtain ⟨ad235, e235, hx235_0, hx235_1⟩ := at_T26 (Kd.R_reads' HO_14.out).2.2 x17_4 p235 q235
                        obtain rfl : ad233 = ad235 := (by injection e235)
                        replace p235 := eq_true p235
                        replace q235 := eq_true q235
                        have p237 : 0 ≤ (x17_4 : Int) := of_decide_eq_true (by first | (with_reducible assumption) | assumption)
                        have q237 : x17_4 < (x14_2.length : Int) := of_decide_eq_true (by first | (with_reducible assumption) | assumption)
                        obtain ⟨ad237, e237, hx237_0, hx237_1⟩ := at_T26 (Kd.R_reads' HO_14.out).2.2 x17_4 p237 q237
                        obtain rfl : ad233 = ad237 := (by injection e237)
                        replace p237 := eq_true p237
                        replace q237 := eq_true q237
                        refine start_ (n := 38) (S := fun w' => w'.cell? ⟨gb217, 0, none⟩ = some (.int .u64 a0_0) ∧ w'.cell? ⟨gb217, 1, none⟩ = some (.int .u16 a0_1) ∧ w'.cell? ⟨gb226, 0, none⟩ = some (.int .u64 ((rd_T26 x11_1 x15_2).f0)) ∧ w'.cell? ⟨gb226, 1, none⟩ = some (.int .u16 ((rd_T26 x11_1 x15_2).f1)) ∧ w'.cell? (ad233.add ((x17_4).toNat * 2)) = some (.int .u64 ((rd_T26 x14_2 x17_4).f0)) ∧ w'.cell? ⟨(ad233.add ((x17_4).toNat * 2)).block, (ad233.add ((x17_4).toNat * 2)).off + 1, none⟩ = some (.int .u16 ((rd_T26 x14_2 x17_4).f1)) ∧ w'.cell? (ad233.add ((x17_4).toNat * 2)) = some (.int .u64 ((rd_T26 x14_2 x17_4).f0)) ∧ w'.cell? ⟨(ad233.add ((x17_4).toNat * 2)).block, (ad233.add ((x17_4).toNat * 2)).off + 1, none⟩ = some (.int .u16 ((rd_T26 x14_2 x17_4).f1)) ∧ w'.cell? (ad233.add ((x17_4).toNat * 2)) = some (.int .u64 ((rd_T26 x14_2 x17_4).f0)) ∧ w'.cell? ⟨(ad233.add ((x17_4).toNat * 2)).block, (ad233.add ((x17_4).toNat * 2)).off + 1, none⟩ = some (.int .u16 ((rd_T26 x14_2 x17_4).f1))) (ds := []) #[F',F',F',F',F',F',F',F',F',F',F',F',F',F',F',F',F',F',F',F',F',F',F',F',F',F',F',F',F',F',F',F',F',F',F',F',F',F'] (by kernel_rfl) rfl rfl ⟨(blk_cell BK217.out 0).trans rfl, (blk_cell BK217.out 1).trans rfl, (blk_cell BK226.out 0).trans rfl, (blk_cell BK226.out 1).trans rfl, hx233_0, hx233_1, hx235_0, hx235_1, hx237_0, hx237_1⟩ (fun hHeld => ?_); refine with_tabW annuletref28_Hops.tab17 annuletref28_Hops.bits17 (fun HT_ HW_ => ?_)
                        generalize wr.drew = w57 at HO_11 HO_13 HO_14 BK217 BK226 HB hx233_0 hx233_1 hx235_0 hx235_1 hx237_0 hx237_1 hHeld ⊢
                        refine pure_ (i := 0) (N := some 73) (v := ?_) (a' := ?_) #[T',F',F',F',F',F',F',F',F',F',F',F',F',F',F',F',F',F',F',F',F',F',F',F',F',F',F',F',F',F',F',F',F',F',F',F',F',F'] rfl rfl (any_of HT_.out (by kernel_rfl)) (fun _ _ _ h => h) (Or.inl ⟨by rfl, ?_⟩) ?_ ?_
                        rotate_left
                        ·intro w'
                         go_simp
                         with_reducible rfl
                        rotate_left
                        ·simp only [Act.put, la_, lz_, ls_, i64_w, i32_w]
                         rfl
                        refine pure_ (i := 1) (N := some 74) (v := ?_) (a' := ?_) #[T',T',F',F',F',F',F',F',F',F',F',F',F',F',F',F',F',F',F',F',F',F',F',F',F',F',F',F',F',F',F',F',F',F',F',F',F',F'] rfl rfl (any_of HT_.out (by kernel_rfl)) (fun _ _ _ h => h) (Or.inl ⟨by rfl, ?_⟩) ?_ ?_
                        rotate_left
                        ·intro w'
                         go_simp
                         with_reducible rfl
                        rotate_left
                        ·simp only [Act.put, la_, lz_, ls_, i64_w, i32_w]
                         rfl
                        refine pure_ (i := 2) (N := some 75) (v := ?_) (a' := ?_) #[T',T',T',F',F',F',F',F',F',F',F',F',F',F',F',F',F',F',F',F',F',F',F',F',F',F',F',F',F',F',F',F',F',F',F',F',F',F'] rfl rfl (any_of HT_.out (by kernel_rfl)) (fun _ _ _ h => h) (Or.inl ⟨by rfl, ?_⟩) ?_ ?_
                        rotate_left
                        ·intro w'
                         go_simp
                         with_reducible rfl
                        rotate_left
                        ·simp only [Act.put, la_, lz_, ls_, i64_w, i32_w]
                         rfl
                        refine pure_ (i := 3) (N := some 76) (v := ?_) (a' := ?_) #[T',T',T',T',F',F',F',F',F',F',F',F',F',F',F',F',F',F',F',F',F',F',F',F',F',F',F',F',F',F',F',F',F',F',F',F',F',F'] rfl rfl (any_of HT_.out (by kernel_rfl)) (fun _ _ _ h => h) (Or.inl ⟨by rfl, ?_⟩) ?_ ?_
                        rotate_left
                        ·intro w'
                         go_simp
                         with_reducible rfl
                        rotate_left
                        ·simp only [Act.put, la_, lz_, ls_, i64_w, i32_w]
                         rfl
                        refine pure_ (i := 4) (N := some 77) (v := ?_) (a' := ?_) #[T',T',T',T',T',F',F',F',F',F',F',F',F',F',F',F',F',F',F',F',F',F',F',F',F',F',F',F',F',F',F',F',F',F',F',F',F',F'] rfl rfl (any_of HT_.out (by kernel_rfl)) (fun _ _ _ h => h) (Or.inl ⟨by rfl, ?_⟩) ?_ ?_
                        rotate_left
                        ·intro w'
                         go_simp
                         with_reducible rfl
                        rotate_left
                        ·simp only [Act.put, la_, lz_, ls_, i64_w, i32_w]
                         rfl
                        refine pure_ (i := 5) (N := some 78) (v := ?_) (a' := ?_) #[T',T',T',T',T',T',F',F',F',F',F',F',F',F',F',F',F',F',F',F',F',F',F',F',F',F',F',F',F',F',F',F',F',F',F',F',F',F'] rfl rfl (any_of HT_.out (by kernel_rfl)) (fun _ _ _ h => h) (Or.inl ⟨by rfl, ?_⟩) ?_ ?_
                        rotate_left
                        ·intro w'
                         go_simp
                         with_reducible rfl
                        rotate_left
                        ·simp only [Act.put, la_, lz_, ls_, i64_w, i32_w]
                         rfl
                        refine pure_ (i := 7) (N := some 80) (v := ?_) (a' := ?_) #[T',T',T',T',T',T',F',T',F',F',F',F',F',F',F',F',F',F',F',F',F',F',F',F',F',F',F',F',F',F',F',F',F',F',F',F',F',F'] rfl rfl (any_of HT_.out (by kernel_rfl)) (fun _ _ _ h => h) (Or.inl ⟨by rfl, ?_⟩) ?_ ?_
                        rotate_left
                        ·intro w'
                         go_simp
                         with_reducible rfl
                        rotate_left
                        ·simp only [Act.put, la_, lz_, ls_, i64_w, i32_w]
                         rfl
                        refine pure_ (i := 8) (N := some 81) (v := ?_) (a' := ?_) #[T',T',T',T',T',T',F',T',T',F',F',F',F',F',F',F',F',F',F',F',F',F',F',F',F',F',F',F',F',F',F',F',F',F',F',F',F',F'] rfl rfl (any_of HT_.out (by kernel_rfl)) (fun _ _ _ h => h) (Or.inl ⟨by rfl, ?_⟩) ?_ ?_
                        rotate_left
                        ·intro w'
                         go_simp
                         with_reducible rfl
                        rotate_left
                        ·simp only [Act.put, la_, lz_, ls_, i64_w, i32_w]
                         rfl
                        refine pure_ (i := 9) (N := some 82) (v := ?_) (a' := ?_) #[T',T',T',T',T',T',F',T',T',T',F',F',F',F',F',F',F',F',F',F',F',F',F',F',F',F',F',F',F',F',F',F',F',F',F',F',F',F'] rfl rfl (any_of HT_.out (by kernel_rfl)) (fun _ _ _ h => h) (Or.inl ⟨by rfl, ?_⟩) ?_ ?_
                        rotate_left
                        ·intro w'
                         go_simp
                         with_reducible rfl
                        rotate_left
                        ·simp only [Act.put, la_, lz_, ls_, i64_w, i32_w]
                         rfl
                        refine pure_ (i := 10) (N := some 83) (v := ?_) (a' := ?_) #[T',T',T',T',T',T',F',T',T',T',T',F',F',F',F',F',F',F',F',F',F',F',F',F',F',F',F',F',F',F',F',F',F',F',F',F',F',F'] rfl rfl (any_of HT_.out (by kernel_rfl)) (fun _ _ _ h => h) (Or.inl ⟨by rfl, ?_⟩) ?_ ?_
                        rotate_left
                        ·intro w'
                         go_simp
                         with_reducible rfl
                        rotate_left
                        ·simp only [Act.put, la_, lz_, ls_, i64_w, i32_w]
                         rfl
                        refine pure_ (i := 13) (N := some 86) (v := ?_) (a' := ?_) #[T',T',T',T',T',T',F',T',T',T',T',F',F',T',F',F',F',F',F',F',F',F',F',F',F',F',F',F',F',F',F',F',F',F',F',F',F',F'] rfl rfl (any_of HT_.out (by kernel_rfl)) (fun _ _ _ h => h) (Or.inl ⟨by rfl, ?_⟩) ?_ ?_
                        rotate_left
                        ·intro w'
                         go_simp
                         with_reducible rfl
                        rotate_left
                        ·simp only [Act.put, la_, lz_, ls_, i64_w, i32_w]
                         rfl
                        refine take_ (i := 6) (N := some 79) (v := ?_) (a' := ?_) #[T',T',T',T',T',T',T',T',T',T',T',F',F',T',F',F',F',F',F',F',F',F',F',F',F',F',F',F',F',F',F',F',F',F',F',F',F',F'] rfl rfl (take_ofW HT_.out HW_.out (by kernel_rfl)) (fun _ _ _ h => h) (Or.inl ⟨by rfl, ?_⟩) hHeld ?_ ?_
                        rotate_left
                        ·rintro w' ⟨s0, s1, s2, s3, s4, s5, s6, s7, s8, s9⟩
                         go_simp
                         with_reducible rfl
                        rotate_left
                        ·simp only [Act.put, la_, lz_, ls_, i64_w, i32_w]
                         rfl
                        refine take_ (i := 11) (N := some 84) (v := ?_) (a' := ?_) #[T',T',T',T',T',T',T',T',T',T',T',T',F',T',F',F',F',F',F',F',F',F',F',F',F',F',F',F',F',F',F',F',F',F',F',F',F',F'] rfl rfl (take_ofW HT_.out HW_.out (by kernel_rfl)) (fun _ _ _ h => h) (Or.inl ⟨by rfl, ?_⟩) hHeld ?_ ?_
                        rotate_left
                        ·rintro w' ⟨s0, s1, s2, s3, s4, s5, s6, s7, s8, s9⟩
                         go_simp
                         with_reducible rfl
                        rotate_left
                        ·simp only [Act.put, la_, lz_, ls_, i64_w, i32_w]
                         rfl
                        refine one_ (i := 12) (N := some 85) #[T',T',T',T',T',T',T',T',T',T',T',T',T',T',F',F',F',F',F',F',F',F',F',F',F',F',F',F',F',F',F',F',F',F',F',F',F',F'] rfl rfl (one_of HT_.out (by kernel_rfl)) (by decide) (fun K hK => ?_)
                        refine goes_ Try.func37 (by kernel_rfl) rfl #[.int .u64 a0_0, .int .u64 ((rd_T26 x14_2 x17_4).f0)] (by rfl) rfl rfl (by (try simp only [List.map_toArray, List.map_cons, List.map_nil]); first | done | rfl | (simp only [List.length_drop, List.length_take]; rfl)) ?_
                        with_reducible refine (annuletref03_Dist.calls a0_0 ((rd_T26 x14_2 x17_4).f0) t234 _ A41.out).mono ?_
                        rintro e w' ⟨rfl, ⟨nd, rfl⟩⟩
                        refine ⟨_, rfl, ?_⟩
                        refine hK.out _ _ ⟨(blk_cell BK217.out 0).trans rfl, (blk_cell BK217.out 1).trans rfl, (blk_cell BK226.out 0).trans rfl, (blk_cell BK226.out 1).trans rfl, hHeld.2.2.2.2.1, hHeld.2.2.2.2.2.1, hHeld.2.2.2.2.2.2.1, hHeld.2.2.2.2.2.2.2.1, hHeld.2.2.2.2.2.2.2.2.1, hHeld.2.2.2.2.2.2.2.2.2⟩ (fun hHeld => ?_)
                        clear hK K
                        refine norm_ (a' := ?_) ?_ ?_
                        rotate_left
                        ·show Act.put _ (some 85) _ = _
                         simp only [Act.put, la_, lz_, ls_, i64_w, i32_w]
                         rfl
                        refine pure_ (i := 14) (N := some 87) (v := ?_) (a' := ?_) #[T',T',T',T',T',T',T',T',T',T',T',T',T',T',T',F',F',F',F',F',F',F',F',F',F',F',F',F',F',F',F',F',F',F',F',F',F',F'] rfl rfl (any_of HT_.out (by kernel_rfl)) (fun _ _ _ h => h) (Or.inl ⟨by rfl, ?_⟩) ?_ ?_
                        rotate_left
                        ·intro w'
                         go_simp
                         with_reducible rfl
                        rotate_left
                        ·simp only [Act.put, la_, lz_, ls_, i64_w, i32_w]
                         rfl
                        refine pure_ (i := 15) (N := some 88) (v := ?_) (a' := ?_) #[T',T',T',T',T',T',T',T',T',T',T',T',T',T',T',T',F',F',F',F',F',F',F',F',F',F',F',F',F',F',F',F',F',F',F',F',F',F'] rfl rfl (any_of HT_.out (by kernel_rfl)) (fun _ _ _ h => h) (Or.inl ⟨by rfl, ?_⟩) ?_ ?_
                        rotate_left
                        ·intro w'
                         go_simp
                         with_reducible rfl
                        rotate_left
                        ·simp only [Act.put, la_, lz_, ls_, i64_w, i32_w]
                         rfl
                        refine pure_ (i := 16) (N := some 89) (v := ?_) (a' := ?_) #[T',T',T',T',T',T',T',T',T',T',T',T',T',T',T',T',T',F',F',F',F',F',F',F',F',F',F',F',F',F',F',F',F',F',F',F',F',F'] rfl rfl (any_of HT_.out (by kernel_rfl)) (fun _ _ _ h => h) (Or.inl ⟨by rfl, ?_⟩) ?_ ?_
                        rotate_left
                        ·intro w'
                         go_simp
                         with_reducible rfl
                        rotate_left
                        ·simp only [Act.put, la_, lz_, ls_, i64_w, i32_w]
                         rfl
                        refine pure_ (i := 18) (N := some 91) (v := ?_) (a' := ?_) #[T',T',T',T',T',T',T',T',T',T',T',T',T',T',T',T',T',F',T',F',F',F',F',F',F',F',F',F',F',F',F',F',F',F',F',F',F',F'] rfl rfl (any_of HT_.out (by kernel_rfl)) (fun _ _ _ h => h) (Or.inl ⟨by rfl, ?_⟩) ?_ ?_
                        rotate_left
                        ·intro w'
                         go_simp
                         with_reducible rfl
                        rotate_left
                        ·simp only [Act.put, la_, lz_, ls_, i64_w, i32_w]
                         rfl
                        refine pure_ (i := 19) (N := some 92) (v := ?_) (a' := ?_) #[T',T',T',T',T',T',T',T',T',T',T',T',T',T',T',T',T',F',T',T',F',F',F',F',F',F',F',F',F',F',F',F',F',F',F',F',F',F'] rfl rfl (any_of HT_.out (by kernel_rfl)) (fun _ _ _ h => h) (Or.inl ⟨by rfl, ?_⟩) ?_ ?_
                        rotate_left
                        ·intro w'
                         go_simp
                         with_reducible rfl
                        rotate_left
                        ·simp only [Act.put, la_, lz_, ls_, i64_w, i32_w]
                         rfl
                        refine pure_ (i := 20) (N := some 93) (v := ?_) (a' := ?_) #[T',T',T',T',T',T',T',T',T',T',T',T',T',T',T',T',T',F',T',T',T',F',F',F',F',F',F',F',F',F',F',F',F',F',F',F',F',F'] rfl rfl (any_of HT_.out (by kernel_rfl)) (fun _ _ _ h => h) (Or.inl ⟨by rfl, ?_⟩) ?_ ?_
                        rotate_left
                        ·intro w'
                         go_simp
                         with_reducible rfl
                        rotate_left
                        ·simp only [Act.put, la_, lz_, ls_, i64_w, i32_w]
                         rfl
                        refine pure_ (i := 21) (N := some 94) (v := ?_) (a' := ?_) #[T',T',T',T',T',T',T',T',T',T',T',T',T',T',T',T',T',F',T',T',T',T',F',F',F',F',F',F',F',F',F',F',F',F',F',F',F',F'] rfl rfl (any_of HT_.out (by kernel_rfl)) (fun _ _ _ h => h) (Or.inl ⟨by rfl, ?_⟩) ?_ ?_
                        rotate_left
                        ·intro w'
                         go_simp
                         with_reducible rfl
                        rotate_left
                        ·simp only [Act.put, la_, lz_, ls_, i64_w, i32_w]
                         rfl
                        refine pure_ (i := 24) (N := some 97) (v := ?_) (a' := ?_) #[T',T',T',T',T',T',T',T',T',T',T',T',T',T',T',T',T',F',T',T',T',T',F',F',T',F',F',F',F',F',F',F',F',F',F',F',F',F'] rfl rfl (any_of HT_.out (by kernel_rfl)) (fun _ _ _ h => h) (Or.inl ⟨by rfl, ?_⟩) ?_ ?_
                        rotate_left
                        ·intro w'
                         go_simp
                         with_reducible rfl
                        rotate_left
                        ·simp only [Act.put, la_, lz_, ls_, i64_w, i32_w]
                         rfl
                        refine take_ (i := 17) (N := some 90) (v := ?_) (a' := ?_) #[T',T',T',T',T',T',T',T',T',T',T',T',T',T',T',T',T',T',T',T',T',T',F',F',T',F',F',F',F',F',F',F',F',F',F',F',F',F'] rfl rfl (take_ofW HT_.out HW_.out (by kernel_rfl)) (fun _ _ _ h => h) (Or.inl ⟨by rfl, ?_⟩) hHeld ?_ ?_
                        rotate_left
                        ·rintro w' ⟨s0, s1, s2, s3, s4, s5, s6, s7, s8, s9⟩
                         go_simp
                         with_reducible rfl
                        rotate_left
                        ·simp only [Act.put, la_, lz_, ls_, i64_w, i32_w]
                         rfl
                        refine take_ (i := 22) (N := some 95) (v := ?_) (a' := ?_) #[T',T',T',T',T',T',T',T',T',T',T',T',T',T',T',T',T',T',T',T',T',T',T',F',T',F',F',F',F',F',F',F',F',F',F',F',F',F'] rfl rfl (take_ofW HT_.out HW_.out (by kernel_rfl)) (fun _ _ _ h => h) (Or.inl ⟨by rfl, ?_⟩) hHeld ?_ ?_
                        rotate_left
                        ·rintro w' ⟨s0, s1, s2, s3, s4, s5, s6, s7, s8, s9⟩
                         go_simp
                         with_reducible rfl
                        rotate_left
                        ·simp only [Act.put, la_, lz_, ls_, i64_w, i32_w]
                         rfl
                        refine one_ (i := 23) (N := some 96) #[T',T',T',T',T',T',T',T',T',T',T',T',T',T',T',T',T',T',T',T',T',T',T',T',T',F',F',F',F',F',F',F',F',F',F',F',F',F'] rfl rfl (one_of HT_.out (by kernel_rfl)) (by decide) (fun K hK => ?_)
                        refine goes_ Try.func37 (by kernel_rfl) rfl #[.int .u64 a0_0, .int .u64 ((rd_T26 x14_2 x17_4).f0)] (by rfl) rfl rfl (by (try simp only [List.map_toArray, List.map_cons, List.map_nil]); first | done | rfl | (simp only [List.length_drop, List.length_take]; rfl)) ?_
                        with_reducible refine (annuletref03_Dist.calls a0_0 ((rd_T26 x14_2 x17_4).f0) t236 _ A45.out).mono ?_
                        rintro e w' ⟨rfl, ⟨nd, rfl⟩⟩
                        refine ⟨_, rfl, ?_⟩
                        refine hK.out _ _ ⟨(blk_cell BK217.out 0).trans rfl, (blk_cell BK217.out 1).trans rfl, (blk_cell BK226.out 0).trans rfl, (blk_cell BK226.out 1).trans rfl, hHeld.2.2.2.2.1, hHeld.2.2.2.2.2.1, hHeld.2.2.2.2.2.2.1, hHeld.2.2.2.2.2.2.2.1, hHeld.2.2.2.2.2.2.2.2.1, hHeld.2.2.2.2.2.2.2.2.2⟩ (fun hHeld => ?_)
                        clear hK K
                        refine norm_ (a' := ?_) ?_ ?_
                        rotate_left
                        ·show Act.put _ (some 96) _ = _
                         simp only [Act.put, la_, lz_, ls_, i64_w, i32_w]
                         rfl
                        refine pure_ (i := 25) (N := some 98) (v := ?_) (a' := ?_) #[T',T',T',T',T',T',T',T',T',T',T',T',T',T',T',T',T',T',T',T',T',T',T',T',T',T',F',F',F',F',F',F',F',F',F',F',F',F'] rfl rfl (any_of HT_.out (by kernel_rfl)) (fun _ _ _ h => h) (Or.inl ⟨by rfl, ?_⟩) ?_ ?_
                        rotate_left
                        ·intro w'
                         go_simp
                         with_reducible rfl
                        rotate_left
                        ·simp only [Act.put, la_, lz_, ls_, i64_w, i32_w]
                         rfl
                        refine pure_ (i := 26) (N := some 99) (v := ?_) (a' := ?_) #[T',T',T',T',T',T',T',T',T',T',T',T',T',T',T',T',T',T',T',T',T',T',T',T',T',T',T',F',F',F',F',F',F',F',F',F',F',F'] rfl rfl (any_of HT_.out (by kernel_rfl)) (fun _ _ _ h => h) (Or.inl ⟨by rfl, ?_⟩) ?_ ?_
                        rotate_left
                        ·intro w'
                         go_simp
                         with_reducible rfl
                        rotate_left
                        ·simp only [Act.put, la_, lz_, ls_, i64_w, i32_w]
                         rfl
                        refine pure_ (i := 27) (N := some 100) (v := ?_) (a' := ?_) #[T',T',T',T',T',T',T',T',T',T',T',T',T',T',T',T',T',T',T',T',T',T',T',T',T',T',T',T',F',F',F',F',F',F',F',F',F',F'] rfl rfl (any_of HT_.out (by kernel_rfl)) (fun _ _ _ h => h) (Or.inl ⟨by rfl, ?_⟩) ?_ ?_
                        rotate_left
                        ·intro w'
                         go_simp
                         with_reducible rfl
                        rotate_left
                        ·simp only [Act.put, la_, lz_, ls_, i64_w, i32_w]
                         rfl
                        refine pure_ (i := 28) (N := some 101) (v := ?_) (a' := ?_) #[T',T',T',T',T',T',T',T',T',T',T',T',T',T',T',T',T',T',T',T',T',T',T',T',T',T',T',T',T',F',F',F',F',F',F',F',F',F'] rfl rfl (any_of HT_.out (by kernel_rfl)) (fun _ _ _ h => h) (Or.inl ⟨by rfl, ?_⟩) ?_ ?_
                        rotate_left
                        ·intro w'
                         go_simp
                         with_reducible rfl
                        rotate_left
                        ·simp only [Act.put, la_, lz_, ls_, i64_w, i32_w]
                         rfl
                        refine pure_ (i := 29) (N := some 102) (v := ?_) (a' := ?_) #[T',T',T',T',T',T',T',T',T',T',T',T',T',T',T',T',T',T',T',T',T',T',T',T',T',T',T',T',T',T',F',F',F',F',F',F',F',F'] rfl rfl (any_of HT_.out (by kernel_rfl)) (fun _ _ _ h => h) (Or.inl ⟨by rfl, ?_⟩) ?_ ?_
                        rotate_left
                        ·intro w'
                         go_simp
                         with_reducible rfl
                        rotate_left
                        ·simp only [Act.put, la_, lz_, ls_, i64_w, i32_w]
                         rfl
                        refine pure_ (i := 30) (N := some 103) (v := ?_) (a' := ?_) #[T',T',T',T',T',T',T',T',T',T',T',T',T',T',T',T',T',T',T',T',T',T',T',T',T',T',T',T',T',T',T',F',F',F',F',F',F',F'] rfl rfl (any_of HT_.out (by kernel_rfl)) (fun _ _ _ h => h) (Or.inl ⟨by rfl, ?_⟩) ?_ ?_
                        rotate_left
                        ·intro w'
                         go_simp
                         with_reducible rfl
                        rotate_left
                        ·simp only [Act.put, la_, lz_, ls_, i64_w, i32_w]
                         rfl
                        refine pure_ (i := 32) (N := some 105) (v := ?_) (a' := ?_) #[T',T',T',T',T',T',T',T',T',T',T',T',T',T',T',T',T',T',T',T',T',T',T',T',T',T',T',T',T',T',T',F',T',F',F',F',F',F'] rfl rfl (any_of HT_.out (by kernel_rfl)) (fun _ _ _ h => h) (Or.inl ⟨by rfl, ?_⟩) ?_ ?_
                        rotate_left
                        ·intro w'
                         go_simp
                         with_reducible rfl
                        rotate_left
                        ·simp only [Act.put, la_, lz_, ls_, i64_w, i32_w]
                         rfl
                        refine take_ (i := 31) (N := some 104) (v := ?_) (a' := ?_) #[T',T',T',T',T',T',T',T',T',T',T',T',T',T',T',T',T',T',T',T',T',T',T',T',T',T',T',T',T',T',T',T',T',F',F',F',F',F'] rfl rfl (take_ofW HT_.out HW_.out (by kernel_rfl)) (fun _ _ _ h => h) (Or.inl ⟨by rfl, ?_⟩) hHeld ?_ ?_
                        rotate_left
                        ·rintro w' ⟨s0, s1, s2, s3, s4, s5, s6, s7, s8, s9⟩
                         go_simp
                         with_reducible rfl
                        rotate_left
                        ·simp only [Act.put, la_, lz_, ls_, i64_w, i32_w]
                         rfl
                        refine take_ (i := 33) (N := some 106) (v := ?_) (a' := ?_) #[T',T',T',T',T',T',T',T',T',T',T',T',T',T',T',T',T',T',T',T',T',T',T',T',T',T',T',T',T',T',T',T',T',T',F',F',F',F'] rfl rfl (take_ofW HT_.out HW_.out (by kernel_rfl)) (fun _ _ _ h => h) (Or.inl ⟨by rfl, ?_⟩) hHeld ?_ ?_
                        rotate_left
                        ·rintro w' ⟨s0, s1, s2, s3, s4, s5, s6, s7, s8, s9⟩
                         go_simp
                         with_reducible rfl
                        rotate_left
                        ·simp only [Act.put, la_, lz_, ls_, i64_w, i32_w]
                         rfl
                        refine pure_ (i := 34) (N := some 107) (v := ?_) (a' := ?_) #[T',T',T',T',T',T',T',T',T',T',T',T',T',T',T',T',T',T',T',T',T',T',T',T',T',T',T',T',T',T',T',T',T',T',T',F',F',F'] rfl rfl (any_of HT_.out (by kernel_rfl)) (fun _ _ _ h => h) (Or.inl ⟨by rfl, ?_⟩) ?_ ?_
                        rotate_left
                        ·intro w'
                         go_simp
                         with_reducible rfl
                        rotate_left
                        ·simp only [Act.put, la_, lz_, ls_, i64_w, i32_w]
                         rfl
                        refine pure_ (i := 35) (N := some 108) (v := ?_) (a' := ?_) #[T',T',T',T',T',T',T',T',T',T',T',T',T',T',T',T',T',T',T',T',T',T',T',T',T',T',T',T',T',T',T',T',T',T',T',T',F',F'] rfl rfl (any_of HT_.out (by kernel_rfl)) (fun _ _ _ h => h) (Or.inl ⟨by rfl, ?_⟩) ?_ ?_
                        rotate_left
                        ·intro w'
                         go_simp
                         with_reducible rfl
                        rotate_left
                        ·simp only [Act.put, la_, lz_, ls_, i64_w, i32_w]
                         rfl
                        refine pure_ (i := 36) (N := some 109) (v := ?_) (a' := ?_) #[T',T',T',T',T',T',T',T',T',T',T',T',T',T',T',T',T',T',T',T',T',T',T',T',T',T',T',T',T',T',T',T',T',T',T',T',T',F'] rfl rfl (any_of HT_.out (by kernel_rfl)) (fun _ _ _ h => h) (Or.inl ⟨by rfl, ?_⟩) ?_ ?_
                        rotate_left
                        ·intro w'
                         go_simp
                         with_reducible rfl
                        rotate_left
                        ·simp only [Act.put, la_, lz_, ls_, i64_w, i32_w]
                         rfl
                        refine pure_ (i := 37) (N := some 110) (v := ?_) (a' := ?_) #[T',T',T',T',T',T',T',T',T',T',T',T',T',T',T',T',T',T',T',T',T',T',T',T',T',T',T',T',T',T',T',T',T',T',T',T',T',T'] rfl rfl (any_of HT_.out (by kernel_rfl)) (fun _ _ _ h => h) (Or.inl ⟨by rfl, ?_⟩) ?_ ?_
                        rotate_left
                        ·intro w'
                         go_simp
                         with_reducible rfl
                        rotate_left
                        ·simp only [Act.put, la_, lz_, ls_, i64_w, i32_w]
                         rfl
                        refine done_ (done_of HT_.out (by kernel_rfl)) ?_
                        try go_wp2_with (first | ((with_reducible refine gate_dst (N := 113) rfl ?_); refine Kd.R_lit k26 _ 26 ?hg (N := 113) ?hd (xs := ([] : List (S26))) (inner := []) (ok := fun _ => True) (okp := fun _ => True) ?hr ?hp (fun _ hk => hk) trivial (Below.refl _ _) (Nat.le_refl _) (by simp) ?_; (case hd => rfl); (case hg => rfl); (case hr => first | (go_simp; done) | (go_simp; rfl)); (case hp => exact (Reps.none _ _)); intro v239 w59 ho60 hb hg_ hnew_; clear hg_ hnew_; (first | rw [← Ny238.out] at ho60 | (simp only [Int.reduceToNat] at ho60; rw [← Ny238.out] at ho60)); have n0_ := Aside0.mk (Kd.R_elder' (by (with_reducible repeat (first | apply Kd.R_alloc | apply Kd.R_drewN | apply Kd.R_drew)); exact HO_11.out) (Kd.R_base ho60) hb); have n1_ := Aside0.mk (Kd.R_elder' (by (with_reducible repeat (first | apply Kd.R_alloc | apply Kd.R_drewN | apply Kd.R_drew)); exact HO_13.out) (Kd.R_base ho60) hb); have n2_ := Aside0.mk (Kd.R_elder' (by (with_reducible repeat (first | apply Kd.R_alloc | apply Kd.R_drewN | apply Kd.R_drew)); exact HO_14.out) (Kd.R_base ho60) hb); have n3_ := Aside0.mk (Kd.R_lower (Kd.R_newB (Kd.R_newB (Kd.R_new' (Kd.R_new' (Kd.R_new' ho60 (Kd.R_lt (by (with_reducible repeat (first | apply Kd.R_alloc | apply Kd.R_drewN | apply Kd.R_drew)); exact HO_11.out))) (Kd.R_lt (by (with_reducible repeat (first | apply Kd.R_alloc | apply Kd.R_drewN | apply Kd.R_drew)); exact HO_13.out))) (Kd.R_lt (by (with_reducible repeat (first | apply Kd.R_alloc | apply Kd.R_drewN | apply Kd.R_drew)); exact HO_14.out))) (g := gb217) (o := .cells #[.int .u64 a0_0, .int .u16 a0_1] 26 (0, 0)) (by (with_reducible repeat (first | refine blk_drewN ?_ _ | refine blk_drew ?_ | refine blk_alloc ?_ _)); exact BK217.out)) (g := gb226) (o := .cells #[.int .u64 ((rd_T26 x11_1 x15_2).f0), .int .u16 ((rd_T26 x11_1 x15_2).f1)] 26 (0, 0)) (by (with_reducible repeat (first | refine blk_drewN ?_ _ | refine blk_drew ?_ | refine blk_alloc ?_ _)); exact BK226.out)) (below_size (by repeat (first | (with_reducible first | exact HB.out | apply below_alloc | apply pw_below_drewN | apply below_drew1 | refine below_set ?_ GE217.out | refine below_set ?_ GE226.out) | exact HB.out)))); have n4_ := Aside0.mk (blk_below (g := gb217) (o := .cells #[.int .u64 a0_0, .int .u16 a0_1] 26 (0, 0)) (by (with_reducible repeat (first | refine blk_drewN ?_ _ | refine blk_drew ?_ | refine blk_alloc ?_ _)); exact BK217.out) hb); have n5_ := Aside0.mk (blk_below (g := gb226) (o := .cells #[.int .u64 ((rd_T26 x11_1 x15_2).f0), .int .u16 ((rd_T26 x11_1 x15_2).f1)] 26 (0, 0)) (by (with_reducible repeat (first | refine blk_drewN ?_ _ | refine blk_drew ?_ | refine blk_alloc ?_ _)); exact BK226.out) hb); have n6_ := Aside0.mk (below_step (by repeat (first | (with_reducible first | exact HB.out | apply below_alloc | apply pw_below_drewN | apply below_drew1 | refine below_set ?_ GE217.out | refine below_set ?_ GE226.out) | exact HB.out)) hb); clear HO_11; clear HO_13; clear HO_14; clear BK217; clear BK226; clear HB; have HO_11 := n0_; have HO_13 := n1_; have HO_14 := n2_; have HO240 := n3_; have BK217 := n4_; have BK226 := n5_; have HB := n6_; clear n0_ n1_ n2_ n3_ n4_ n5_ n6_; clear hb ho60; have q61 : (x17_4 : Int) ≤ ((x14_2.length : Int) : Int) := of_decide_eq_true (by first | (with_reducible assumption) | assumption); obtain ⟨i061, hi061, _, hsz61, _⟩ := info_parts info26; have hroom61 : x14_2.length ≤ co58 := (Kd.R_reads' HO_14.out).2.1; have hC61 : Kd.C k26 _ (some ad233) x14_2.length x14_2 := (Kd.R_reads' HO_14.out).2.2; have hcut61 := cut_to (P := Try.prog) 36 26 .i64 Try.underlying36 hi061 (some ad233) x14_2.length co58 x17_4 (of_decide_eq_true (by first | (with_reducible assumption) | assumption)) q61 hroom61; have hr61 := Kd.C_take (m := (x17_4 : Int).toNat) hC61 (by omega); have hy61 : y241.length = (x17_4 : Int).toNat := (by rw [Ny241.out, List.length_take]; omega); rw [← Ny241.out] at hr61; rw [← hy61] at hcut61; have HR244 := Aside0.mk hr61; have HC244 := Aside0.mk (show y241.length ≤ co58 from by omega); clear hr61 hC61 hroom61 hi061 hsz61; have KY61 := Aside0.mk hy61; clear hy61; have KL61 := Aside0.mk (show (x17_4 : Int).toNat ≤ x14_2.length from by omega); replace q61 := eq_true q61) | ((with_reducible refine gate_builtin (b := .append) (xs := #[.tmp 113, .tmp 116]) rfl ?_); at_builtin; refine Kd.R_append_rows k26 (w0 := w) w.heap.size rfl (.tmp 113) (.tmp 116) 36 26 (.agg #[(.int .u64 0), (.int .u16 0)]) 16 rfl Try.underlying36 info26 rfl (by decide) (by omega) v239 y238 y241 _ _ _ (fun k_ => some k_ ≠ (.slice (some ad225) x11_1.length co16 : Value).ownBlock ∧ some k_ ≠ (v229 : Value).ownBlock ∧ some k_ ≠ (.slice (some ad233) x14_2.length co58 : Value).ownBlock ∧ k_ ≠ gb217 ∧ k_ ≠ gb226) (fun _ => False) rfl rfl ?aO ?aR (fun _ _ h => h) (fun _ h => h.elim) ?aF ?aB ?aS ?aL ?_; (case aR => repeat (first | exact (by repeat (first | (with_reducible exact HR244.out) | (with_reducible refine Kd.C_alloc ?_ _) | (with_reducible refine Kd.C_drewN ?_ _) | (with_reducible refine Kd.C_drew ?_) | exact HR244.out)) | (with_reducible refine Kd.C_alloc ?_ _) | (with_reducible refine Kd.C_drewN ?_ _) | (with_reducible refine Kd.C_drew ?_))); (case aB => exact (by repeat (first | (with_reducible first | exact HB.out | apply below_alloc | apply pw_below_drewN | apply below_drew1 | refine below_set ?_ GE217.out | refine below_set ?_ GE226.out) | exact HB.out))); (case aF => exact (fun k_ hk => ⟨Kd.fresh' (Kd.R_lt (by (with_reducible repeat (first | apply Kd.R_alloc | apply Kd.R_drewN | apply Kd.R_drew)); exact HO_11.out)) k_ hk, Kd.fresh' (Kd.R_lt (by (with_reducible repeat (first | apply Kd.R_alloc | apply Kd.R_drewN | apply Kd.R_drew)); exact HO_13.out)) k_ hk, Kd.fresh' (Kd.R_lt (by (with_reducible repeat (first | apply Kd.R_alloc | apply Kd.R_drewN | apply Kd.R_drew)); exact HO_14.out)) k_ hk, Kd.freshB (g := gb217) (o := .cells #[.int .u64 a0_0, .int .u16 a0_1] 26 (0, 0)) (by (with_reducible repeat (first | refine blk_drewN ?_ _ | refine blk_drew ?_ | refine blk_alloc ?_ _)); exact BK217.out) k_ hk, Kd.freshB (g := gb226) (o := .cells #[.int .u64 ((rd_T26 x11_1 x15_2).f0), .int .u16 ((rd_T26 x11_1 x15_2).f1)] 26 (0, 0)) (by (with_reducible repeat (first | refine blk_drewN ?_ _ | refine blk_drew ?_ | refine blk_alloc ?_ _)); exact BK226.out) k_ hk⟩)); (case aO => exact (by (with_reducible repeat (first | apply Kd.R_alloc | apply Kd.R_drewN | apply Kd.R_drew)); exact Kd.R_mono HO240.out (fun _ hk => ⟨hk.1.1.1.1.2, ⟨hk.1.1.1.2, ⟨hk.1.1.2, ⟨hk.1.2, hk.2⟩⟩⟩⟩))); (case aS => exact (below_size (by repeat (first | (with_reducible first | exact HB.out | apply below_alloc | apply pw_below_drewN | apply below_drew1 | refine below_set ?_ GE217.out | refine below_set ?_ GE226.out) | exact HB.out)))); (case aL => have := LMc52.out; omega); intro v246 w62 ho hb hg hat; rw [← Ny245.out] at ho; have n0_ := Aside0.mk (Kd.R_after (ok := (fun k_ => some k_ ≠ (v229 : Value).ownBlock ∧ some k_ ≠ (.slice (some ad233) x14_2.length co58 : Value).ownBlock ∧ k_ ≠ gb217 ∧ k_ ≠ gb226)) (by (with_reducible repeat (first | apply Kd.R_alloc | apply Kd.R_drewN | apply Kd.R_drew)); exact HO_11.out) hg hat); have n1_ := Aside0.mk (Kd.R_after (ok := (fun k_ => some k_ ≠ (.slice (some ad225) x11_1.length co16 : Value).ownBlock ∧ some k_ ≠ (.slice (some ad233) x14_2.length co58 : Value).ownBlock ∧ k_ ≠ gb217 ∧ k_ ≠ gb226)) (by (with_reducible repeat (first | apply Kd.R_alloc | apply Kd.R_drewN | apply Kd.R_drew)); exact HO_13.out) hg hat); have n2_ := Aside0.mk (Kd.R_after (ok := (fun k_ => some k_ ≠ (.slice (some ad225) x11_1.length co16 : Value).ownBlock ∧ some k_ ≠ (v229 : Value).ownBlock ∧ k_ ≠ gb217 ∧ k_ ≠ gb226)) (by (with_reducible repeat (first | apply Kd.R_alloc | apply Kd.R_drewN | apply Kd.R_drew)); exact HO_14.out) hg hat); have n3_ := Aside0.mk (blk_grown (g := gb217) (o := .cells #[.int .u64 a0_0, .int .u16 a0_1] 26 (0, 0)) (by (with_reducible repeat (first | refine blk_drewN ?_ _ | refine blk_drew ?_ | refine blk_alloc ?_ _)); exact BK217.out) hg (Kd.R_away HO240.out (fun _ hk => hk.1.2))); have n4_ := Aside0.mk (blk_grown (g := gb226) (o := .cells #[.int .u64 ((rd_T26 x11_1 x15_2).f0), .int .u16 ((rd_T26 x11_1 x15_2).f1)] 26 (0, 0)) (by (with_reducible repeat (first | refine blk_drewN ?_ _ | refine blk_drew ?_ | refine blk_alloc ?_ _)); exact BK226.out) hg (Kd.R_away HO240.out (fun _ hk => hk.2))); have n5_ := Aside0.mk (hb); have n6_ := Aside0.mk ((show Kd.C k26 w62 (some ad233) y241.length y241 from by rw [Ny241.out]; exact Kd.C_take (m := (x17_4 : Int).toNat) ((Kd.R_reads' (Kd.R_after (ok := (fun k_ => some k_ ≠ (.slice (some ad225) x11_1.length co16 : Value).ownBlock ∧ some k_ ≠ (v229 : Value).ownBlock ∧ k_ ≠ gb217 ∧ k_ ≠ gb226)) (by (with_reducible repeat (first | apply Kd.R_alloc | apply Kd.R_drewN | apply Kd.R_drew)); exact HO_14.out) hg hat)).2.2) KL61.out)); have n7_ := Aside0.mk (ho); clear HO_11; clear HO_13; clear HO_14; clear BK217; clear BK226; clear HB; clear HR244; clear HO240; have HO_11 := n0_; have HO_13 := n1_; have HO_14 := n2_; have BK217 := n3_; have BK226 := n4_; have HB := n5_; have HR244 := n6_; have HO247 := n7_; clear n0_ n1_ n2_ n3_ n4_ n5_ n6_ n7_; clear ho hb hg hat; have hnb63 := NB226_217.out; have hnc63 := NB217_226.out; obtain ⟨hcz64_0, hcz64_1, hfz64_0, hfz64_1⟩ := box2f (w := w62) (g := gb226) BK226.out) | ((with_reducible refine gate_builtin (b := .append) (xs := #[.tmp 118, .tmp 120]) rfl ?_); at_builtin; refine Kd.R_append k26 (w0 := w) w.heap.size rfl (.tmp 118) (.tmp 120) 36 26 (.agg #[(.int .u64 0), (.int .u16 0)]) 16 rfl Try.underlying36 info26 rfl (by decide) (by omega) v246 y245 (⟨((rd_T26 x11_1 x15_2).f0), ((rd_T26 x11_1 x15_2).f1)⟩ : S26) [.int .u64 ((rd_T26 x11_1 x15_2).f0), .int .u16 ((rd_T26 x11_1 x15_2).f1)] (fun k_ => some k_ ≠ (.slice (some ad225) x11_1.length co16 : Value).ownBlock ∧ some k_ ≠ (v229 : Value).ownBlock ∧ some k_ ≠ (.slice (some ad233) x14_2.length co58 : Value).ownBlock ∧ k_ ≠ gb217 ∧ k_ ≠ gb226) (fun _ => False) rfl rfl ?aP (fun _ hk => hk.elim) ?aF ?aO ?aB ?aS ?aL ?_; (case aP => exact k26_mkM _ _ _ (⟨((rd_T26 x11_1 x15_2).f0), ((rd_T26 x11_1 x15_2).f1)⟩ : S26)); (case aB => exact (by repeat (first | (with_reducible first | exact HB.out | apply below_alloc | apply pw_below_drewN | apply below_drew1 | refine below_set ?_ GE217.out | refine below_set ?_ GE226.out) | exact HB.out))); (case aF => exact (fun k_ hk => ⟨Kd.fresh' (Kd.R_lt (by (with_reducible repeat (first | apply Kd.R_alloc | apply Kd.R_drewN | apply Kd.R_drew)); exact HO_11.out)) k_ hk, Kd.fresh' (Kd.R_lt (by (with_reducible repeat (first | apply Kd.R_alloc | apply Kd.R_drewN | apply Kd.R_drew)); exact HO_13.out)) k_ hk, Kd.fresh' (Kd.R_lt (by (with_reducible repeat (first | apply Kd.R_alloc | apply Kd.R_drewN | apply Kd.R_drew)); exact HO_14.out)) k_ hk, Kd.freshB (g := gb217) (o := .cells #[.int .u64 a0_0, .int .u16 a0_1] 26 (0, 0)) (by (with_reducible repeat (first | refine blk_drewN ?_ _ | refine blk_drew ?_ | refine blk_alloc ?_ _)); exact BK217.out) k_ hk, Kd.freshB (g := gb226) (o := .cells #[.int .u64 ((rd_T26 x11_1 x15_2).f0), .int .u16 ((rd_T26 x11_1 x15_2).f1)] 26 (0, 0)) (by (with_reducible repeat (first | refine blk_drewN ?_ _ | refine blk_drew ?_ | refine blk_alloc ?_ _)); exact BK226.out) k_ hk⟩)); (case aO => exact (by (with_reducible repeat (first | apply Kd.R_alloc | apply Kd.R_drewN | apply Kd.R_drew)); exact HO247.out)); (case aS => exact (below_size (by repeat (first | (with_reducible first | exact HB.out | apply below_alloc | apply pw_below_drewN | apply below_drew1 | refine below_set ?_ GE217.out | refine below_set ?_ GE226.out) | exact HB.out)))); (case aL => have := LMc53.out; omega); intro v249 w65 ho hb hg hat; rw [← Ny248.out] at ho; have n0_ := Aside0.mk (Kd.R_after (ok := (fun k_ => some k_ ≠ (v229 : Value).ownBlock ∧ some k_ ≠ (.slice (some ad233) x14_2.length co58 : Value).ownBlock ∧ k_ ≠ gb217 ∧ k_ ≠ gb226)) (by (with_reducible repeat (first | apply Kd.R_alloc | apply Kd.R_drewN | apply Kd.R_drew)); exact HO_11.out) hg hat); have n1_ := Aside0.mk (Kd.R_after (ok := (fun k_ => some k_ ≠ (.slice (some ad225) x11_1.length co16 : Value).ownBlock ∧ some k_ ≠ (.slice (some ad233) x14_2.length co58 : Value).ownBlock ∧ k_ ≠ gb217 ∧ k_ ≠ gb226)) (by (with_reducible repeat (first | apply Kd.R_alloc | apply Kd.R_drewN | apply Kd.R_drew)); exact HO_13.out) hg hat); have n2_ := Aside0.mk (Kd.R_after (ok := (fun k_ => some k_ ≠ (.slice (some ad225) x11_1.length co16 : Value).ownBlock ∧ some k_ ≠ (v229 : Value).ownBlock ∧ k_ ≠ gb217 ∧ k_ ≠ gb226)) (by (with_reducible repeat (first | apply Kd.R_alloc | apply Kd.R_drewN | apply Kd.R_drew)); exact HO_14.out) hg hat); have n3_ := Aside0.mk (blk_grown (g := gb217) (o := .cells #[.int .u64 a0_0, .int .u16 a0_1] 26 (0, 0)) (by (with_reducible repeat (first | refine blk_drewN ?_ _ | refine blk_drew ?_ | refine blk_alloc ?_ _)); exact BK217.out) hg (Kd.R_away HO247.out (fun _ hk => hk.2.2.2.1))); have n4_ := Aside0.mk (blk_grown (g := gb226) (o := .cells #[.int .u64 ((rd_T26 x11_1 x15_2).f0), .int .u16 ((rd_T26 x11_1 x15_2).f1)] 26 (0, 0)) (by (with_reducible repeat (first | refine blk_drewN ?_ _ | refine blk_drew ?_ | refine blk_alloc ?_ _)); exact BK226.out) hg (Kd.R_away HO247.out (fun _ hk => hk.2.2.2.2))); have n5_ := Aside0.mk (hb); have n6_ := Aside0.mk ((show Kd.C k26 w65 (some ad233) y241.length y241 from by rw [Ny241.out]; exact Kd.C_take (m := (x17_4 : Int).toNat) ((Kd.R_reads' (Kd.R_after (ok := (fun k_ => some k_ ≠ (.slice (some ad225) x11_1.length co16 : Value).ownBlock ∧ some k_ ≠ (v229 : Value).ownBlock ∧ k_ ≠ gb217 ∧ k_ ≠ gb226)) (by (with_reducible repeat (first | apply Kd.R_alloc | apply Kd.R_drewN | apply Kd.R_drew)); exact HO_14.out) hg hat)).2.2) KL61.out)); have n7_ := Aside0.mk (ho); clear HO_11; clear HO_13; clear HO_14; clear BK217; clear BK226; clear HB; clear HR244; clear HO247; have HO_11 := n0_; have HO_13 := n1_; have HO_14 := n2_; have BK217 := n3_; have BK226 := n4_; have HB := n5_; have HR244 := n6_; have HO250 := n7_; clear n0_ n1_ n2_ n3_ n4_ n5_ n6_ n7_; clear ho hb hg hat; have q66 : (x17_4 : Int) ≤ ((x14_2.length : Int) : Int) := of_decide_eq_true (by first | (with_reducible assumption) | assumption); obtain ⟨i066, hi066, _, hsz66, _⟩ := info_parts info26; have hroom66 : x14_2.length ≤ co58 := (Kd.R_reads' HO_14.out).2.1; have hC66 : Kd.C k26 _ (some ad233) x14_2.length x14_2 := (Kd.R_reads' HO_14.out).2.2; have q066 : (0 : Int) ≤ (x17_4 : Int) := of_decide_eq_true (by first | (with_reducible assumption) | assumption); have hcut66 := cut_from (P := Try.prog) 36 26 .i64 Try.underlying36 hi066 2 hsz66 (some ad233) x14_2.length co58 x17_4 q066 q66; have hr66 := Kd.C_drop (m := (x17_4 : Int).toNat) (c := co58) hC66 (by omega) hroom66; obtain ⟨A66, hA66⟩ : ∃ A1, A1 = (if co58 = (x17_4 : Int).toNat then (some ad233) else ((some ad233) : Option Addr).map (·.add ((x17_4 : Int).toNat * 2))) := ⟨_, rfl⟩; obtain ⟨c66, hc66⟩ : ∃ c1, c1 = co58 - (x17_4 : Int).toNat := ⟨_, rfl⟩; have hy66 : y251.length = x14_2.length - (x17_4 : Int).toNat := (by rw [Ny251.out, List.length_drop] <;> omega); rw [show (x14_2).drop (x17_4 : Int).toNat = y251 from Ny251.out.symm] at hr66; replace hr66 : Kd.C k26 _ A66 y251.length y251 := (by rw [hA66]; exact hr66); rw [← hy66, ← hA66, ← hc66] at hcut66; have HR254 := Aside0.mk hr66; have HC254 := Aside0.mk (show y251.length ≤ c66 from by rw [hy66, hc66]; exact Nat.sub_le_sub_right hroom66 _); clear hr66 hC66 hroom66 hi066 hsz66 hc66; have KY66 := Aside0.mk hy66; have KA66 := Aside0.mk hA66; clear hy66 hA66; have KL66 := Aside0.mk (show (x17_4 : Int).toNat ≤ x14_2.length from by omega); replace q66 := eq_true q66) | ((with_reducible refine gate_builtin (b := .append) (xs := #[.tmp 122, .tmp 125]) rfl ?_); at_builtin; refine Kd.R_append_rows k26 (w0 := w) w.heap.size rfl (.tmp 122) (.tmp 125) 36 26 (.agg #[(.int .u64 0), (.int .u16 0)]) 16 rfl Try.underlying36 info26 rfl (by decide) (by omega) v249 y248 y251 _ _ _ (fun k_ => some k_ ≠ (.slice (some ad225) x11_1.length co16 : Value).ownBlock ∧ some k_ ≠ (v229 : Value).ownBlock ∧ some k_ ≠ (.slice (some ad233) x14_2.length co58 : Value).ownBlock ∧ k_ ≠ gb217 ∧ k_ ≠ gb226) (fun _ => False) rfl rfl ?aO ?aR (fun _ _ h => h) (fun _ h => h.elim) ?aF ?aB ?aS ?aL ?_; (case aR => repeat (first | exact (by repeat (first | (with_reducible exact HR254.out) | (with_reducible refine Kd.C_alloc ?_ _) | (with_reducible refine Kd.C_drewN ?_ _) | (with_reducible refine Kd.C_drew ?_) | exact HR254.out)) | (with_reducible refine Kd.C_alloc ?_ _) | (with_reducible refine Kd.C_drewN ?_ _) | (with_reducible refine Kd.C_drew ?_))); (case aB => exact (by repeat (first | (with_reducible first | exact HB.out | apply below_alloc | apply pw_below_drewN | apply below_drew1 | refine below_set ?_ GE217.out | refine below_set ?_ GE226.out) | exact HB.out))); (case aF => exact (fun k_ hk => ⟨Kd.fresh' (Kd.R_lt (by (with_reducible repeat (first | apply Kd.R_alloc | apply Kd.R_drewN | apply Kd.R_drew)); exact HO_11.out)) k_ hk, Kd.fresh' (Kd.R_lt (by (with_reducible repeat (first | apply Kd.R_alloc | apply Kd.R_drewN | apply Kd.R_drew)); exact HO_13.out)) k_ hk, Kd.fresh' (Kd.R_lt (by (with_reducible repeat (first | apply Kd.R_alloc | apply Kd.R_drewN | apply Kd.R_drew)); exact HO_14.out)) k_ hk, Kd.freshB (g := gb217) (o := .cells #[.int .u64 a0_0, .int .u16 a0_1] 26 (0, 0)) (by (with_reducible repeat (first | refine blk_drewN ?_ _ | refine blk_drew ?_ | refine blk_alloc ?_ _)); exact BK217.out) k_ hk, Kd.freshB (g := gb226) (o := .cells #[.int .u64 ((rd_T26 x11_1 x15_2).f0), .int .u16 ((rd_T26 x11_1 x15_2).f1)] 26 (0, 0)) (by (with_reducible repeat (first | refine blk_drewN ?_ _ | refine blk_drew ?_ | refine blk_alloc ?_ _)); exact BK226.out) k_ hk⟩)); (case aO => exact (by (with_reducible repeat (first | apply Kd.R_alloc | apply Kd.R_drewN | apply Kd.R_drew)); exact HO250.out)); (case aS => exact (below_size (by repeat (first | (with_reducible first | exact HB.out | apply below_alloc | apply pw_below_drewN | apply below_drew1 | refine below_set ?_ GE217.out | refine below_set ?_ GE226.out) | exact HB.out)))); (case aL => have := LMc56.out; omega); intro v256 w67 ho hb hg hat; rw [← Ny255.out] at ho; have n0_ := Aside0.mk (Kd.R_after (ok := (fun k_ => some k_ ≠ (v229 : Value).ownBlock ∧ some k_ ≠ (.slice (some ad233) x14_2.length co58 : Value).ownBlock ∧ k_ ≠ gb217 ∧ k_ ≠ gb226)) (by (with_reducible repeat (first | apply Kd.R_alloc | apply Kd.R_drewN | apply Kd.R_drew)); exact HO_11.out) hg hat); have n1_ := Aside0.mk (Kd.R_after (ok := (fun k_ => some k_ ≠ (.slice (some ad225) x11_1.length co16 : Value).ownBlock ∧ some k_ ≠ (.slice (some ad233) x14_2.length co58 : Value).ownBlock ∧ k_ ≠ gb217 ∧ k_ ≠ gb226)) (by (with_reducible repeat (first | apply Kd.R_alloc | apply Kd.R_drewN | apply Kd.R_drew)); exact HO_13.out) hg hat); have n2_ := Aside0.mk (Kd.R_after (ok := (fun k_ => some k_ ≠ (.slice (some ad225) x11_1.length co16 : Value).ownBlock ∧ some k_ ≠ (v229 : Value).ownBlock ∧ k_ ≠ gb217 ∧ k_ ≠ gb226)) (by (with_reducible repeat (first | apply Kd.R_alloc | apply Kd.R_drewN | apply Kd.R_drew)); exact HO_14.out) hg hat); have n3_ := Aside0.mk (blk_grown (g := gb217) (o := .cells #[.int .u64 a0_0, .int .u16 a0_1] 26 (0, 0)) (by (with_reducible repeat (first | refine blk_drewN ?_ _ | refine blk_drew ?_ | refine blk_alloc ?_ _)); exact BK217.out) hg (Kd.R_away HO250.out (fun _ hk => hk.2.2.2.1))); have n4_ := Aside0.mk (blk_grown (g := gb226) (o := .cells #[.int .u64 ((rd_T26 x11_1 x15_2).f0), .int .u16 ((rd_T26 x11_1 x15_2).f1)] 26 (0, 0)) (by (with_reducible repeat (first | refine blk_drewN ?_ _ | refine blk_drew ?_ | refine blk_alloc ?_ _)); exact BK226.out) hg (Kd.R_away HO250.out (fun _ hk => hk.2.2.2.2))); have n5_ := Aside0.mk (hb); have n6_ := Aside0.mk ((show Kd.C k26 w67 (some ad233) y241.length y241 from by rw [Ny241.out]; exact Kd.C_take (m := (x17_4 : Int).toNat) ((Kd.R_reads' (Kd.R_after (ok := (fun k_ => some k_ ≠ (.slice (some ad225) x11_1.length co16 : Value).ownBlock ∧ some k_ ≠ (v229 : Value).ownBlock ∧ k_ ≠ gb217 ∧ k_ ≠ gb226)) (by (with_reducible repeat (first | apply Kd.R_alloc | apply Kd.R_drewN | apply Kd.R_drew)); exact HO_14.out) hg hat)).2.2) KL61.out)); have n7_ := Aside0.mk ((show Kd.C k26 w67 A66 y251.length y251 from by rw [Ny251.out, KA66.out]; exact Kd.C_drop (m := (x17_4 : Int).toNat) (c := co58) ((Kd.R_reads' (Kd.R_after (ok := (fun k_ => some k_ ≠ (.slice (some ad225) x11_1.length co16 : Value).ownBlock ∧ some k_ ≠ (v229 : Value).ownBlock ∧ k_ ≠ gb217 ∧ k_ ≠ gb226)) (by (with_reducible repeat (first | apply Kd.R_alloc | apply Kd.R_drewN | apply Kd.R_drew)); exact HO_14.out) hg hat)).2.2) KL66.out ((Kd.R_reads' (Kd.R_after (ok := (fun k_ => some k_ ≠ (.slice (some ad225) x11_1.length co16 : Value).ownBlock ∧ some k_ ≠ (v229 : Value).ownBlock ∧ k_ ≠ gb217 ∧ k_ ≠ gb226)) (by (with_reducible repeat (first | apply Kd.R_alloc | apply Kd.R_drewN | apply Kd.R_drew)); exact HO_14.out) hg hat)).2.1))); have n8_ := Aside0.mk (ho); clear HO_11; clear HO_13; clear HO_14; clear BK217; clear BK226; clear HB; clear HR244; clear HR254; clear HO250; have HO_11 := n0_; have HO_13 := n1_; have HO_14 := n2_; have BK217 := n3_; have BK226 := n4_; have HB := n5_; have HR244 := n6_; have HR254 := n7_; have HO257 := n8_; clear n0_ n1_ n2_ n3_ n4_ n5_ n6_ n7_ n8_; clear ho hb hg hat))
                        go_roundg k4
                        case measure => have := HK1.out; have := HK2.out; have := HJ14.out; have := HK4.out; omega
                        case rel => exact ⟨(y228), (y255), (wrap64 (x15_2 + 1)), (by first | rfl | (simp; done) | (simp [*]; done)), H', ⟨by have := HK1.out; have := HK2.out; have := HJ14.out; have := HK4.out; omega⟩, ⟨by (with_reducible repeat (first | apply Kd.R_alloc | apply Kd.R_drewN | apply Kd.R_drew)); exact Kd.R_mono HO_11.out (fun _ hk => ⟨hk.1.1, ⟨hk.2, hk.1.2.2.1⟩⟩)⟩, ⟨by (with_reducible repeat (first | apply Kd.R_alloc | apply Kd.R_drewN | apply Kd.R_drew)); exact Kd.R_mono HO_13.out (fun _ hk => ⟨hk.1.1, ⟨hk.2, hk.1.2.2.1⟩⟩)⟩, ⟨by (with_reducible repeat (first | apply Kd.R_alloc | apply Kd.R_drewN | apply Kd.R_drew)); exact Kd.R_mono HO257.out (fun _ hk => ⟨hk.1, ⟨hk.2.1, hk.2.2.2.1⟩⟩)⟩, ⟨by (with_reducible repeat (first | refine blk_drewN ?_ _ | refine blk_drew ?_ | refine blk_alloc ?_ _)); exact BK217.out⟩, ⟨by repeat (first | (with_reducible first | exact HB.out | apply below_alloc | apply pw_below_drewN | apply below_drew1 | refine below_set ?_ GE217.out | refine below_set ?_ GE226.out) | exact HB.out)⟩⟩
                       ·rw [if_neg c56] at H
                        exact absurd H (by simp)
                      ·rw [if_neg c53] at H
                       exact absurd H (by simp)
                     ·rw [if_neg c52] at H
                      exact absurd H (by simp)
                    ·rw [if_neg c51] at H
                     exact absurd H (by simp)
                  ·rw [if_neg c46] at H
                   have c46b0 : (t236 == t232) = false := beq_eq_false_iff_ne.mpr c46
                   have c46b1 : (t236 != t232) = true := bne_iff_ne.mpr c46
                   obtain ⟨y258, hy258⟩ : ∃ y_ : List (S26), y_ = (([] : List (S26))) := ⟨_, rfl⟩
                   replace H : (if x17_4 ≤ (x14_2.length : Int) then ((some (x14_2.take (x17_4 : Int).toNat : List (S26))).bind fun y261 => (if y258.length + y261.length < 8796093022208 then ((some (y258 ++ y261 : List (S26))).bind fun y265 => (if y265.length < 8796093022208 then ((some (y265 ++ [(⟨((rd_T26 x11_1 x15_2).f0), ((rd_T26 x11_1 x15_2).f1)⟩ : S26)] : List (S26))).bind fun y268 => ((some (x14_2.drop (x17_4 : Int).toNat : List (S26))).bind fun y271 => (if y268.length + y271.length < 8796093022208 then (annuletref28_Hops.l1 k4 a3 a4 x11_1 y228 (y268 ++ y271) (wrap64 (x15_2 + 1)) a0_0 a0_1) else (none)))) else (none))) else (none))) else (none)) = some r := by first | (rw [hy258]; with_reducible exact H) | (have H2_ := (Option.bind_some _ _).symm.trans H; rw [hy258]; with_reducible exact H2_) | (have H2_ := (Option.bind_some _ _).symm.trans H; with_reducible exact H2_) | with_reducible exact H | (rw [hy258]; exact H) | exact H
                   have Ny258 := Aside0.mk hy258
                   clear hy258
                   have c68b0 := eq_true (of_decide_eq_true (by first | (with_reducible assumption) | assumption) : 0 ≤ x17_4)
                   by_cases c69 : x17_4 ≤ (x14_2.length : Int)
                   ·rw [if_pos c69] at H
                    have c69b0 := eq_true c69
                    have c69b1 : decide (x17_4 ≤ (x14_2.length : Int)) = true := decide_eq_true c69
                    clear c69
                    obtain ⟨y261, hy261⟩ : ∃ y_ : List (S26), y_ = (x14_2.take (x17_4 : Int).toNat) := ⟨_, rfl⟩
                    replace H : (if y258.length + y261.length < 8796093022208 then ((some (y258 ++ y261 : List (S26))).bind fun y265 => (if y265.length < 8796093022208 then ((some (y265 ++ [(⟨((rd_T26 x11_1 x15_2).f0), ((rd_T26 x11_1 x15_2).f1)⟩ : S26)] : List (S26))).bind fun y268 => ((some (x14_2.drop (x17_4 : Int).toNat : List (S26))).bind fun y271 => (if y268.length + y271.length < 8796093022208 then (annuletref28_Hops.l1 k4 a3 a4 x11_1 y228 (y268 ++ y271) (wrap64 (x15_2 + 1)) a0_0 a0_1) else (none)))) else (none))) else (none)) = some r := by first | (rw [hy261]; with_reducible exact H) | (have H2_ := (Option.bind_some _ _).symm.trans H; rw [hy261]; with_reducible exact H2_) | (have H2_ := (Option.bind_some _ _).symm.trans H; with_reducible exact H2_) | with_reducible exact H | (rw [hy261]; exact H) | exact H
                    have Ny261 := Aside0.mk hy261
                    clear hy261
                    by_cases c70 : y258.length + y261.length < 8796093022208
                    ·rw [if_pos c70] at H
                     have LMc70 := Aside0.mk c70
                     clear c70
                     obtain ⟨y265, hy265⟩ : ∃ y_ : List (S26), y_ = (y258 ++ y261) := ⟨_, rfl⟩
                     replace H : (if y265.length < 8796093022208 then ((some (y265 ++ [(⟨((rd_T26 x11_1 x15_2).f0), ((rd_T26 x11_1 x15_2).f1)⟩ : S26)] : List (S26))).bind fun y268 => ((some (x14_2.drop (x17_4 : Int).toNat : List (S26))).bind fun y271 => (if y268.length + y271.length < 8796093022208 then (annuletref28_Hops.l1 k4 a3 a4 x11_1 y228 (y268 ++ y271) (wrap64 (x15_2 + 1)) a0_0 a0_1) else (none)))) else (none)) = some r := by first | (rw [hy265]; with_reducible exact H) | (have H2_ := (Option.bind_some _ _).symm.trans H; rw [hy265]; with_reducible exact H2_) | (have H2_ := (Option.bind_some _ _).symm.trans H; with_reducible exact H2_) | with_reducible exact H | (rw [hy265]; exact H) | exact H
                     have Ny265 := Aside0.mk hy265
                     clear hy265
                     by_cases c71 : y265.length < 8796093022208
                     ·rw [if_pos c71] at H
                      have LMc71 := Aside0.mk c71
                      clear c71
                      obtain ⟨y268, hy268⟩ : ∃ y_ : List (S26), y_ = (y265 ++ [(⟨((rd_T26 x11_1 x15_2).f0), ((rd_T26 x11_1 x15_2).f1)⟩ : S26)]) := ⟨_, rfl⟩
                      replace H : ((some (x14_2.drop (x17_4 : Int).toNat : List (S26))).bind fun y271 => (if y268.length + y271.length < 8796093022208 then (annuletref28_Hops.l1 k4 a3 a4 x11_1 y228 (y268 ++ y271) (wrap64 (x15_2 + 1)) a0_0 a0_1) else (none))) = some r := by first | (rw [hy268]; with_reducible exact H) | (have H2_ := (Option.bind_some _ _).symm.trans H; rw [hy268]; with_reducible exact H2_) | (have H2_ := (Option.bind_some _ _).symm.trans H; with_reducible exact H2_) | with_reducible exact H | (rw [hy268]; exact H) | exact H
                      have Ny268 := Aside0.mk hy268
                      clear hy268
                      have c72b0 := eq_true (of_decide_eq_true (by first | (with_reducible assumption) | assumption) : 0 ≤ x17_4)
                      have c73b0 := eq_true (of_decide_eq_true (by first | (with_reducible assumption) | assumption) : x17_4 ≤ (x14_2.length : Int))
                      obtain ⟨y271, hy271⟩ : ∃ y_ : List (S26), y_ = (x14_2.drop (x17_4 : Int).toNat) := ⟨_, rfl⟩
                      replace H : (if y268.length + y271.length < 8796093022208 then (annuletref28_Hops.l1 k4 a3 a4 x11_1 y228 (y268 ++ y271) (wrap64 (x15_2 + 1)) a0_0 a0_1) else (none)) = some r := by first | (rw [hy271]; with_reducible exact H) | (have H2_ := (Option.bind_some _ _).symm.trans H; rw [hy271]; with_reducible exact H2_) | (have H2_ := (Option.bind_some _ _).symm.trans H; with_reducible exact H2_) | with_reducible exact H | (rw [hy271]; exact H) | exact H
                      have Ny271 := Aside0.mk hy271
                      clear hy271
                      by_cases c74 : y268.length + y271.length < 8796093022208
                      ·rw [if_pos c74] at H
                       have LMc74 := Aside0.mk c74
                       clear c74
                       obtain ⟨y275, hy275⟩ : ∃ y_ : List (S26), y_ = (y268 ++ y271) := ⟨_, rfl⟩
                       replace H : (annuletref28_Hops.l1 k4 a3 a4 x11_1 y228 y275 (wrap64 (x15_2 + 1)) a0_0 a0_1) = some r := by first | (rw [hy275]; with_reducible exact H) | (have H2_ := (Option.bind_some _ _).symm.trans H; rw [hy275]; with_reducible exact H2_) | (have H2_ := (Option.bind_some _ _).symm.trans H; with_reducible exact H2_) | with_reducible exact H | (rw [hy275]; exact H) | exact H
                       have Ny275 := Aside0.mk hy275
                       clear hy275
                       have H' := Aside0.mk H
                       clear H
                       try go_wp2
                       have n0_ := Aside0.mk (Kd.R_drew HO_11.out)
                       have n1_ := Aside0.mk (Kd.R_drew HO_13.out)
                       have n2_ := Aside0.mk (Kd.R_drew HO_14.out)
                       have n3_ := Aside0.mk (blk_drew BK217.out)
                       have n4_ := Aside0.mk (blk_drew BK226.out)
                       have n5_ := Aside0.mk (below_drew1 HB.out)
                       clear HO_11
                       clear HO_13
                       clear HO_14
                       clear BK217
                       clear BK226
                       clear HB
                       have HO_11 := n0_
                       have HO_13 := n1_
                       have HO_14 := n2_
                       have BK217 := n3_
                       have BK226 := n4_
                       have HB := n5_
                       clear n0_ n1_ n2_ n3_ n4_ n5_
                       obtain ⟨Ao76, co76, eo76⟩ := Kd.R_slice HO_14.out
                       (first | subst eo76 | (injection eo76 with f1_ f2_ f3_; have f4_ := f1_.symm; have f5_ := f3_.symm; clear f1_ f2_ f3_; subst f4_; subst f5_))
                       have p233 : 0 ≤ (x17_4 : Int) := of_decide_eq_true (by first | (with_reducible assumption) | assumption)
                       have q233 : x17_4 < (x14_2.length : Int) := of_decide_eq_true (by first | (with_reducible assumption) | assumption)
                       obtain ⟨ad233, e233, hx233_0, hx233_1⟩ := at_T26 (Kd.R_reads' HO_14.out).2.2 x17_4 p233 q233
                       cases e233
                       replace p233 := eq_true p233
                       replace q233 := eq_true q233
                       have p235 : 0 ≤ (x17_4 : Int) := of_decide_eq_true (by first | (with_reducible assumption) | assumption)
                       have q235 : x17_4 < (x14_2.length : Int) := of_decide_eq_true (by first | (with_reducible assumption) | assumption)
                       obtain ⟨ad235, e235, hx235_0, hx235_1⟩ := at_T26 (Kd.R_reads' HO_14.out).2.2 x17_4 p235 q235
                       obtain rfl : ad233 = ad235 := (by injection e235)
                       replace p235 := eq_true p235
                       replace q235 := eq_true q235
                       refine start_ (n := 38) (S := fun w' => w'.cell? ⟨gb217, 0, none⟩ = some (.int .u64 a0_0) ∧ w'.cell? ⟨gb217, 1, none⟩ = some (.int .u16 a0_1) ∧ w'.cell? (ad233.add ((x17_4).toNat * 2)) = some (.int .u64 ((rd_T26 x14_2 x17_4).f0)) ∧ w'.cell? ⟨(ad233.add ((x17_4).toNat * 2)).block, (ad233.add ((x17_4).toNat * 2)).off + 1, none⟩ = some (.int .u16 ((rd_T26 x14_2 x17_4).f1)) ∧ w'.cell? (ad233.add ((x17_4).toNat * 2)) = some (.int .u64 ((rd_T26 x14_2 x17_4).f0)) ∧ w'.cell? ⟨(ad233.add ((x17_4).toNat * 2)).block, (ad233.add ((x17_4).toNat * 2)).off + 1, none⟩ = some (.int .u16 ((rd_T26 x14_2 x17_4).f1))) (ds := []) #[F',F',F',F',F',F',F',F',F',F',F',F',F',F',F',F',F',F',F',F',F',F',F',F',F',F',F',F',F',F',F',F',F',F',F',F',F',F'] (by kernel_rfl) rfl rfl ⟨(blk_cell BK217.out 0).trans rfl, (blk_cell BK217.out 1).trans rfl, hx233_0, hx233_1, hx235_0, hx235_1⟩ (fun hHeld => ?_); refine with_tabW annuletref28_Hops.tab17 annuletref28_Hops.bits17 (fun HT_ HW_ => ?_)
                       generalize wr.drew = w75 at HO_11 HO_13 HO_14 BK217 BK226 HB hx233_0 hx233_1 hx235_0 hx235_1 hHeld ⊢
                       refine pure_ (i := 0) (N := some 73) (v := ?_) (a' := ?_) #[T',F',F',F',F',F',F',F',F',F',F',F',F',F',F',F',F',F',F',F',F',F',F',F',F',F',F',F',F',F',F',F',F',F',F',F',F',F'] rfl rfl (any_of HT_.out (by kernel_rfl)) (fun _ _ _ h => h) (Or.inl ⟨by rfl, ?_⟩) ?_ ?_
                       rotate_left
                       ·intro w'
                        go_simp
                        with_reducible rfl
                       rotate_left
                       ·simp only [Act.put, la_, lz_, ls_, i64_w, i32_w]
                        rfl
                       refine pure_ (i := 1) (N := some 74) (v := ?_) (a' := ?_) #[T',T',F',F',F',F',F',F',F',F',F',F',F',F',F',F',F',F',F',F',F',F',F',F',F',F',F',F',F',F',F',F',F',F',F',F',F',F'] rfl rfl (any_of HT_.out (by kernel_rfl)) (fun _ _ _ h => h) (Or.inl ⟨by rfl, ?_⟩) ?_ ?_
                       rotate_left
                       ·intro w'
                        go_simp
                        with_reducible rfl
                       rotate_left
                       ·simp only [Act.put, la_, lz_, ls_, i64_w, i32_w]
                        rfl
                       refine pure_ (i := 2) (N := some 75) (v := ?_) (a' := ?_) #[T',T',T',F',F',F',F',F',F',F',F',F',F',F',F',F',F',F',F',F',F',F',F',F',F',F',F',F',F',F',F',F',F',F',F',F',F',F'] rfl rfl (any_of HT_.out (by kernel_rfl)) (fun _ _ _ h => h) (Or.inl ⟨by rfl, ?_⟩) ?_ ?_
                       rotate_left
                       ·intro w'
                        go_simp
                        with_reducible rfl
                       rotate_left
                       ·simp only [Act.put, la_, lz_, ls_, i64_w, i32_w]
                        rfl
                       refine pure_ (i := 3) (N := some 76) (v := ?_) (a' := ?_) #[T',T',T',T',F',F',F',F',F',F',F',F',F',F',F',F',F',F',F',F',F',F',F',F',F',F',F',F',F',F',F',F',F',F',F',F',F',F'] rfl rfl (any_of HT_.out (by kernel_rfl)) (fun _ _ _ h => h) (Or.inl ⟨by rfl, ?_⟩) ?_ ?_
                       rotate_left
                       ·intro w'
                        go_simp
                        with_reducible rfl
                       rotate_left
                       ·simp only [Act.put, la_, lz_, ls_, i64_w, i32_w]
                        rfl
                       refine pure_ (i := 4) (N := some 77) (v := ?_) (a' := ?_) #[T',T',T',T',T',F',F',F',F',F',F',F',F',F',F',F',F',F',F',F',F',F',F',F',F',F',F',F',F',F',F',F',F',F',F',F',F',F'] rfl rfl (any_of HT_.out (by kernel_rfl)) (fun _ _ _ h => h) (Or.inl ⟨by rfl, ?_⟩) ?_ ?_
                       rotate_left
                       ·intro w'
                        go_simp
                        with_reducible rfl
                       rotate_left
                       ·simp only [Act.put, la_, lz_, ls_, i64_w, i32_w]
                        rfl
                       refine pure_ (i := 5) (N := some 78) (v := ?_) (a' := ?_) #[T',T',T',T',T',T',F',F',F',F',F',F',F',F',F',F',F',F',F',F',F',F',F',F',F',F',F',F',F',F',F',F',F',F',F',F',F',F'] rfl rfl (any_of HT_.out (by kernel_rfl)) (fun _ _ _ h => h) (Or.inl ⟨by rfl, ?_⟩) ?_ ?_
                       rotate_left
                       ·intro w'
                        go_simp
                        with_reducible rfl
                       rotate_left
                       ·simp only [Act.put, la_, lz_, ls_, i64_w, i32_w]
                        rfl
                       refine pure_ (i := 7) (N := some 80) (v := ?_) (a' := ?_) #[T',T',T',T',T',T',F',T',F',F',F',F',F',F',F',F',F',F',F',F',F',F',F',F',F',F',F',F',F',F',F',F',F',F',F',F',F',F'] rfl rfl (any_of HT_.out (by kernel_rfl)) (fun _ _ _ h => h) (Or.inl ⟨by rfl, ?_⟩) ?_ ?_
                       rotate_left
                       ·intro w'
                        go_simp
                        with_reducible rfl
                       rotate_left
                       ·simp only [Act.put, la_, lz_, ls_, i64_w, i32_w]
                        rfl
                       refine pure_ (i := 8) (N := some 81) (v := ?_) (a' := ?_) #[T',T',T',T',T',T',F',T',T',F',F',F',F',F',F',F',F',F',F',F',F',F',F',F',F',F',F',F',F',F',F',F',F',F',F',F',F',F'] rfl rfl (any_of HT_.out (by kernel_rfl)) (fun _ _ _ h => h) (Or.inl ⟨by rfl, ?_⟩) ?_ ?_
                       rotate_left
                       ·intro w'
                        go_simp
                        with_reducible rfl
                       rotate_left
                       ·simp only [Act.put, la_, lz_, ls_, i64_w, i32_w]
                        rfl
                       refine pure_ (i := 9) (N := some 82) (v := ?_) (a' := ?_) #[T',T',T',T',T',T',F',T',T',T',F',F',F',F',F',F',F',F',F',F',F',F',F',F',F',F',F',F',F',F',F',F',F',F',F',F',F',F'] rfl rfl (any_of HT_.out (by kernel_rfl)) (fun _ _ _ h => h) (Or.inl ⟨by rfl, ?_⟩) ?_ ?_
                       rotate_left
                       ·intro w'
                        go_simp
                        with_reducible rfl
                       rotate_left
                       ·simp only [Act.put, la_, lz_, ls_, i64_w, i32_w]
                        rfl
                       refine pure_ (i := 10) (N := some 83) (v := ?_) (a' := ?_) #[T',T',T',T',T',T',F',T',T',T',T',F',F',F',F',F',F',F',F',F',F',F',F',F',F',F',F',F',F',F',F',F',F',F',F',F',F',F'] rfl rfl (any_of HT_.out (by kernel_rfl)) (fun _ _ _ h => h) (Or.inl ⟨by rfl, ?_⟩) ?_ ?_
                       rotate_left
                       ·intro w'
                        go_simp
                        with_reducible rfl
                       rotate_left
                       ·simp only [Act.put, la_, lz_, ls_, i64_w, i32_w]
                        rfl
                       refine pure_ (i := 13) (N := some 86) (v := ?_) (a' := ?_) #[T',T',T',T',T',T',F',T',T',T',T',F',F',T',F',F',F',F',F',F',F',F',F',F',F',F',F',F',F',F',F',F',F',F',F',F',F',F'] rfl rfl (any_of HT_.out (by kernel_rfl)) (fun _ _ _ h => h) (Or.inl ⟨by rfl, ?_⟩) ?_ ?_
                       rotate_left
                       ·intro w'
                        go_simp
                        with_reducible rfl
                       rotate_left
                       ·simp only [Act.put, la_, lz_, ls_, i64_w, i32_w]
                        rfl
                       refine take_ (i := 6) (N := some 79) (v := ?_) (a' := ?_) #[T',T',T',T',T',T',T',T',T',T',T',F',F',T',F',F',F',F',F',F',F',F',F',F',F',F',F',F',F',F',F',F',F',F',F',F',F',F'] rfl rfl (take_ofW HT_.out HW_.out (by kernel_rfl)) (fun _ _ _ h => h) (Or.inl ⟨by rfl, ?_⟩) hHeld ?_ ?_
                       rotate_left
                       ·rintro w' ⟨s0, s1, s2, s3, s4, s5⟩
                        go_simp
                        with_reducible rfl
                       rotate_left
                       ·simp only [Act.put, la_, lz_, ls_, i64_w, i32_w]
                        rfl
                       refine take_ (i := 11) (N := some 84) (v := ?_) (a' := ?_) #[T',T',T',T',T',T',T',T',T',T',T',T',F',T',F',F',F',F',F',F',F',F',F',F',F',F',F',F',F',F',F',F',F',F',F',F',F',F'] rfl rfl (take_ofW HT_.out HW_.out (by kernel_rfl)) (fun _ _ _ h => h) (Or.inl ⟨by rfl, ?_⟩) hHeld ?_ ?_
                       rotate_left
                       ·rintro w' ⟨s0, s1, s2, s3, s4, s5⟩
                        go_simp
                        with_reducible rfl
                       rotate_left
                       ·simp only [Act.put, la_, lz_, ls_, i64_w, i32_w]
                        rfl
                       refine one_ (i := 12) (N := some 85) #[T',T',T',T',T',T',T',T',T',T',T',T',T',T',F',F',F',F',F',F',F',F',F',F',F',F',F',F',F',F',F',F',F',F',F',F',F',F'] rfl rfl (one_of HT_.out (by kernel_rfl)) (by decide) (fun K hK => ?_)
                       refine goes_ Try.func37 (by kernel_rfl) rfl #[.int .u64 a0_0, .int .u64 ((rd_T26 x14_2 x17_4).f0)] (by rfl) rfl rfl (by (try simp only [List.map_toArray, List.map_cons, List.map_nil]); first | done | rfl | (simp only [List.length_drop, List.length_take]; rfl)) ?_
                       with_reducible refine (annuletref03_Dist.calls a0_0 ((rd_T26 x14_2 x17_4).f0) t234 _ A41.out).mono ?_
                       rintro e w' ⟨rfl, ⟨nd, rfl⟩⟩
                       refine ⟨_, rfl, ?_⟩
                       refine hK.out _ _ ⟨(blk_cell BK217.out 0).trans rfl, (blk_cell BK217.out 1).trans rfl, hHeld.2.2.1, hHeld.2.2.2.1, hHeld.2.2.2.2.1, hHeld.2.2.2.2.2⟩ (fun hHeld => ?_)
                       clear hK K
                       refine norm_ (a' := ?_) ?_ ?_
                       rotate_left
                       ·show Act.put _ (some 85) _ = _
                        simp only [Act.put, la_, lz_, ls_, i64_w, i32_w]
                        rfl
                       refine pure_ (i := 14) (N := some 87) (v := ?_) (a' := ?_) #[T',T',T',T',T',T',T',T',T',T',T',T',T',T',T',F',F',F',F',F',F',F',F',F',F',F',F',F',F',F',F',F',F',F',F',F',F',F'] rfl rfl (any_of HT_.out (by kernel_rfl)) (fun _ _ _ h => h) (Or.inl ⟨by rfl, ?_⟩) ?_ ?_
                       rotate_left
                       ·intro w'
                        go_simp
                        with_reducible rfl
                       rotate_left
                       ·simp only [Act.put, la_, lz_, ls_, i64_w, i32_w]
                        rfl
                       refine pure_ (i := 15) (N := some 88) (v := ?_) (a' := ?_) #[T',T',T',T',T',T',T',T',T',T',T',T',T',T',T',T',F',F',F',F',F',F',F',F',F',F',F',F',F',F',F',F',F',F',F',F',F',F'] rfl rfl (any_of HT_.out (by kernel_rfl)) (fun _ _ _ h => h) (Or.inl ⟨by rfl, ?_⟩) ?_ ?_
                       rotate_left
                       ·intro w'
                        go_simp
                        with_reducible rfl
                       rotate_left
                       ·simp only [Act.put, la_, lz_, ls_, i64_w, i32_w]
                        rfl
                       refine pure_ (i := 16) (N := some 89) (v := ?_) (a' := ?_) #[T',T',T',T',T',T',T',T',T',T',T',T',T',T',T',T',T',F',F',F',F',F',F',F',F',F',F',F',F',F',F',F',F',F',F',F',F',F'] rfl rfl (any_of HT_.out (by kernel_rfl)) (fun _ _ _ h => h) (Or.inl ⟨by rfl, ?_⟩) ?_ ?_
                       rotate_left
                       ·intro w'
                        go_simp
                        with_reducible rfl
                       rotate_left
                       ·simp only [Act.put, la_, lz_, ls_, i64_w, i32_w]
                        rfl
                       refine pure_ (i := 18) (N := some 91) (v := ?_) (a' := ?_) #[T',T',T',T',T',T',T',T',T',T',T',T',T',T',T',T',T',F',T',F',F',F',F',F',F',F',F',F',F',F',F',F',F',F',F',F',F',F'] rfl rfl (any_of HT_.out (by kernel_rfl)) (fun _ _ _ h => h) (Or.inl ⟨by rfl, ?_⟩) ?_ ?_
                       rotate_left
                       ·intro w'
                        go_simp
                        with_reducible rfl
                       rotate_left
                       ·simp only [Act.put, la_, lz_, ls_, i64_w, i32_w]
                        rfl
                       refine pure_ (i := 19) (N := some 92) (v := ?_) (a' := ?_) #[T',T',T',T',T',T',T',T',T',T',T',T',T',T',T',T',T',F',T',T',F',F',F',F',F',F',F',F',F',F',F',F',F',F',F',F',F',F'] rfl rfl (any_of HT_.out (by kernel_rfl)) (fun _ _ _ h => h) (Or.inl ⟨by rfl, ?_⟩) ?_ ?_
                       rotate_left
                       ·intro w'
                        go_simp
                        with_reducible rfl
                       rotate_left
                       ·simp only [Act.put, la_, lz_, ls_, i64_w, i32_w]
                        rfl
                       refine pure_ (i := 20) (N := some 93) (v := ?_) (a' := ?_) #[T',T',T',T',T',T',T',T',T',T',T',T',T',T',T',T',T',F',T',T',T',F',F',F',F',F',F',F',F',F',F',F',F',F',F',F',F',F'] rfl rfl (any_of HT_.out (by kernel_rfl)) (fun _ _ _ h => h) (Or.inl ⟨by rfl, ?_⟩) ?_ ?_
                       rotate_left
                       ·intro w'
                        go_simp
                        with_reducible rfl
                       rotate_left
                       ·simp only [Act.put, la_, lz_, ls_, i64_w, i32_w]
                        rfl
                       refine pure_ (i := 21) (N := some 94) (v := ?_) (a' := ?_) #[T',T',T',T',T',T',T',T',T',T',T',T',T',T',T',T',T',F',T',T',T',T',F',F',F',F',F',F',F',F',F',F',F',F',F',F',F',F'] rfl rfl (any_of HT_.out (by kernel_rfl)) (fun _ _ _ h => h) (Or.inl ⟨by rfl, ?_⟩) ?_ ?_
                       rotate_left
                       ·intro w'
                        go_simp
                        with_reducible rfl
                       rotate_left
                       ·simp only [Act.put, la_, lz_, ls_, i64_w, i32_w]
                        rfl
                       refine pure_ (i := 24) (N := some 97) (v := ?_) (a' := ?_) #[T',T',T',T',T',T',T',T',T',T',T',T',T',T',T',T',T',F',T',T',T',T',F',F',T',F',F',F',F',F',F',F',F',F',F',F',F',F'] rfl rfl (any_of HT_.out (by kernel_rfl)) (fun _ _ _ h => h) (Or.inl ⟨by rfl, ?_⟩) ?_ ?_
                       rotate_left
                       ·intro w'
                        go_simp
                        with_reducible rfl
                       rotate_left
                       ·simp only [Act.put, la_, lz_, ls_, i64_w, i32_w]
                        rfl
                       refine take_ (i := 17) (N := some 90) (v := ?_) (a' := ?_) #[T',T',T',T',T',T',T',T',T',T',T',T',T',T',T',T',T',T',T',T',T',T',F',F',T',F',F',F',F',F',F',F',F',F',F',F',F',F'] rfl rfl (take_ofW HT_.out HW_.out (by kernel_rfl)) (fun _ _ _ h => h) (Or.inl ⟨by rfl, ?_⟩) hHeld ?_ ?_
                       rotate_left
                       ·rintro w' ⟨s0, s1, s2, s3, s4, s5⟩
                        go_simp
                        with_reducible rfl
                       rotate_left
                       ·simp only [Act.put, la_, lz_, ls_, i64_w, i32_w]
                        rfl
                       refine take_ (i := 22) (N := some 95) (v := ?_) (a' := ?_) #[T',T',T',T',T',T',T',T',T',T',T',T',T',T',T',T',T',T',T',T',T',T',T',F',T',F',F',F',F',F',F',F',F',F',F',F',F',F'] rfl rfl (take_ofW HT_.out HW_.out (by kernel_rfl)) (fun _ _ _ h => h) (Or.inl ⟨by rfl, ?_⟩) hHeld ?_ ?_
                       rotate_left
                       ·rintro w' ⟨s0, s1, s2, s3, s4, s5⟩
                        go_simp
                        with_reducible rfl
                       rotate_left
                       ·simp only [Act.put, la_, lz_, ls_, i64_w, i32_w]
                        rfl
                       refine one_ (i := 23) (N := some 96) #[T',T',T',T',T',T',T',T',T',T',T',T',T',T',T',T',T',T',T',T',T',T',T',T',T',F',F',F',F',F',F',F',F',F',F',F',F',F'] rfl rfl (one_of HT_.out (by kernel_rfl)) (by decide) (fun K hK => ?_)
                       refine goes_ Try.func37 (by kernel_rfl) rfl #[.int .u64 a0_0, .int .u64 ((rd_T26 x14_2 x17_4).f0)] (by rfl) rfl rfl (by (try simp only [List.map_toArray, List.map_cons, List.map_nil]); first | done | rfl | (simp only [List.length_drop, List.length_take]; rfl)) ?_
                       with_reducible refine (annuletref03_Dist.calls a0_0 ((rd_T26 x14_2 x17_4).f0) t236 _ A45.out).mono ?_
                       rintro e w' ⟨rfl, ⟨nd, rfl⟩⟩
                       refine ⟨_, rfl, ?_⟩
                       refine hK.out _ _ ⟨(blk_cell BK217.out 0).trans rfl, (blk_cell BK217.out 1).trans rfl, hHeld.2.2.1, hHeld.2.2.2.1, hHeld.2.2.2.2.1, hHeld.2.2.2.2.2⟩ (fun hHeld => ?_)
                       clear hK K
                       refine norm_ (a' := ?_) ?_ ?_
                       rotate_left
                       ·show Act.put _ (some 96) _ = _
                        simp only [Act.put, la_, lz_, ls_, i64_w, i32_w]
                        rfl
                       refine pure_ (i := 25) (N := some 98) (v := ?_) (a' := ?_) #[T',T',T',T',T',T',T',T',T',T',T',T',T',T',T',T',T',T',T',T',T',T',T',T',T',T',F',F',F',F',F',F',F',F',F',F',F',F'] rfl rfl (any_of HT_.out (by kernel_rfl)) (fun _ _ _ h => h) (Or.inl ⟨by rfl, ?_⟩) ?_ ?_
                       rotate_left
                       ·intro w'
                        go_simp
                        with_reducible rfl
                       rotate_left
                       ·simp only [Act.put, la_, lz_, ls_, i64_w, i32_w]
                        rfl
                       refine pure_ (i := 26) (N := some 99) (v := ?_) (a' := ?_) #[T',T',T',T',T',T',T',T',T',T',T',T',T',T',T',T',T',T',T',T',T',T',T',T',T',T',T',F',F',F',F',F',F',F',F',F',F',F'] rfl rfl (any_of HT_.out (by kernel_rfl)) (fun _ _ _ h => h) (Or.inl ⟨by rfl, ?_⟩) ?_ ?_
                       rotate_left
                       ·intro w'
                        go_simp
                        with_reducible rfl
                       rotate_left
                       ·simp only [Act.put, la_, lz_, ls_, i64_w, i32_w]
                        rfl
                       refine pure_ (i := 27) (N := some 100) (v := undef) (a' := ?_) #[T',T',T',T',T',T',T',T',T',T',T',T',T',T',T',T',T',T',T',T',T',T',T',T',T',T',T',T',F',F',F',F',F',F',F',F',F',F'] rfl rfl (any_of HT_.out (by kernel_rfl)) (fun _ _ _ h => h) (Or.inr ⟨by rfl, rfl⟩) ?_ ?_
                       rotate_left
                       ·simp only [Act.put, la_, lz_, ls_, i64_w, i32_w]
                        rfl
                       refine pure_ (i := 28) (N := some 101) (v := undef) (a' := ?_) #[T',T',T',T',T',T',T',T',T',T',T',T',T',T',T',T',T',T',T',T',T',T',T',T',T',T',T',T',T',F',F',F',F',F',F',F',F',F'] rfl rfl (any_of HT_.out (by kernel_rfl)) (fun _ _ _ h => h) (Or.inr ⟨by rfl, rfl⟩) ?_ ?_
                       rotate_left
                       ·simp only [Act.put, la_, lz_, ls_, i64_w, i32_w]
                        rfl
                       refine pure_ (i := 29) (N := some 102) (v := undef) (a' := ?_) #[T',T',T',T',T',T',T',T',T',T',T',T',T',T',T',T',T',T',T',T',T',T',T',T',T',T',T',T',T',T',F',F',F',F',F',F',F',F'] rfl rfl (any_of HT_.out (by kernel_rfl)) (fun _ _ _ h => h) (Or.inr ⟨by rfl, rfl⟩) ?_ ?_
                       rotate_left
                       ·simp only [Act.put, la_, lz_, ls_, i64_w, i32_w]
                        rfl
                       refine pure_ (i := 30) (N := some 103) (v := undef) (a' := ?_) #[T',T',T',T',T',T',T',T',T',T',T',T',T',T',T',T',T',T',T',T',T',T',T',T',T',T',T',T',T',T',T',F',F',F',F',F',F',F'] rfl rfl (any_of HT_.out (by kernel_rfl)) (fun _ _ _ h => h) (Or.inr ⟨by rfl, rfl⟩) ?_ ?_
                       rotate_left
                       ·simp only [Act.put, la_, lz_, ls_, i64_w, i32_w]
                        rfl
                       refine pure_ (i := 31) (N := some 104) (v := undef) (a' := ?_) #[T',T',T',T',T',T',T',T',T',T',T',T',T',T',T',T',T',T',T',T',T',T',T',T',T',T',T',T',T',T',T',T',F',F',F',F',F',F'] rfl rfl (any_of HT_.out (by kernel_rfl)) (fun _ _ _ h => h) (Or.inr ⟨by rfl, rfl⟩) ?_ ?_
                       rotate_left
                       ·simp only [Act.put, la_, lz_, ls_, i64_w, i32_w]
                        rfl
                       refine pure_ (i := 32) (N := some 105) (v := undef) (a' := ?_) #[T',T',T',T',T',T',T',T',T',T',T',T',T',T',T',T',T',T',T',T',T',T',T',T',T',T',T',T',T',T',T',T',T',F',F',F',F',F'] rfl rfl (any_of HT_.out (by kernel_rfl)) (fun _ _ _ h => h) (Or.inr ⟨by rfl, rfl⟩) ?_ ?_
                       rotate_left
                       ·simp only [Act.put, la_, lz_, ls_, i64_w, i32_w]
                        rfl
                       refine pure_ (i := 33) (N := some 106) (v := undef) (a' := ?_) #[T',T',T',T',T',T',T',T',T',T',T',T',T',T',T',T',T',T',T',T',T',T',T',T',T',T',T',T',T',T',T',T',T',T',F',F',F',F'] rfl rfl (any_of HT_.out (by kernel_rfl)) (fun _ _ _ h => h) (Or.inr ⟨by rfl, rfl⟩) ?_ ?_
                       rotate_left
                       ·simp only [Act.put, la_, lz_, ls_, i64_w, i32_w]
                        rfl
                       refine pure_ (i := 34) (N := some 107) (v := undef) (a' := ?_) #[T',T',T',T',T',T',T',T',T',T',T',T',T',T',T',T',T',T',T',T',T',T',T',T',T',T',T',T',T',T',T',T',T',T',T',F',F',F'] rfl rfl (any_of HT_.out (by kernel_rfl)) (fun _ _ _ h => h) (Or.inr ⟨by rfl, rfl⟩) ?_ ?_
                       rotate_left
                       ·simp only [Act.put, la_, lz_, ls_, i64_w, i32_w]
                        rfl
                       refine pure_ (i := 35) (N := some 108) (v := ?_) (a' := ?_) #[T',T',T',T',T',T',T',T',T',T',T',T',T',T',T',T',T',T',T',T',T',T',T',T',T',T',T',T',T',T',T',T',T',T',T',T',F',F'] rfl rfl (any_of HT_.out (by kernel_rfl)) (fun _ _ _ h => h) (Or.inl ⟨by rfl, ?_⟩) ?_ ?_
                       rotate_left
                       ·intro w'
                        go_simp
                        with_reducible rfl
                       rotate_left
                       ·simp only [Act.put, la_, lz_, ls_, i64_w, i32_w]
                        rfl
                       refine pure_ (i := 36) (N := some 109) (v := ?_) (a' := ?_) #[T',T',T',T',T',T',T',T',T',T',T',T',T',T',T',T',T',T',T',T',T',T',T',T',T',T',T',T',T',T',T',T',T',T',T',T',T',F'] rfl rfl (any_of HT_.out (by kernel_rfl)) (fun _ _ _ h => h) (Or.inl ⟨by rfl, ?_⟩) ?_ ?_
                       rotate_left
                       ·intro w'
                        go_simp
                        with_reducible rfl
                       rotate_left
                       ·simp only [Act.put, la_, lz_, ls_, i64_w, i32_w]
                        rfl
                       refine pure_ (i := 37) (N := some 110) (v := ?_) (a' := ?_) #[T',T',T',T',T',T',T',T',T',T',T',T',T',T',T',T',T',T',T',T',T',T',T',T',T',T',T',T',T',T',T',T',T',T',T',T',T',T'] rfl rfl (any_of HT_.out (by kernel_rfl)) (fun _ _ _ h => h) (Or.inl ⟨by rfl, ?_⟩) ?_ ?_
                       rotate_left
                       ·intro w'
                        go_simp
                        with_reducible rfl
                       rotate_left
                       ·simp only [Act.put, la_, lz_, ls_, i64_w, i32_w]
                        rfl
                       refine done_ (done_of HT_.out (by kernel_rfl)) ?_
                       try go_wp2_with (first | ((with_reducible refine gate_dst (N := 113) rfl ?_); refine Kd.R_lit k26 _ 26 ?hg (N := 113) ?hd (xs := ([] : List (S26))) (inner := []) (ok := fun _ => True) (okp := fun _ => True) ?hr ?hp (fun _ hk => hk) trivial (Below.refl _ _) (Nat.le_refl _) (by simp) ?_; (case hd => rfl); (case hg => rfl); (case hr => first | (go_simp; done) | (go_simp; rfl)); (case hp => exact (Reps.none _ _)); intro v259 w77 ho78 hb hg_ hnew_; clear hg_ hnew_; (first | rw [← Ny258.out] at ho78 | (simp only [Int.reduceToNat] at ho78; rw [← Ny258.out] at ho78)); have n0_ := Aside0.mk (Kd.R_elder' (by (with_reducible repeat (first | apply Kd.R_alloc | apply Kd.R_drewN | apply Kd.R_drew)); exact HO_11.out) (Kd.R_base ho78) hb); have n1_ := Aside0.mk (Kd.R_elder' (by (with_reducible repeat (first | apply Kd.R_alloc | apply Kd.R_drewN | apply Kd.R_drew)); exact HO_13.out) (Kd.R_base ho78) hb); have n2_ := Aside0.mk (Kd.R_elder' (by (with_reducible repeat (first | apply Kd.R_alloc | apply Kd.R_drewN | apply Kd.R_drew)); exact HO_14.out) (Kd.R_base ho78) hb); have n3_ := Aside0.mk (Kd.R_lower (Kd.R_newB (Kd.R_newB (Kd.R_new' (Kd.R_new' (Kd.R_new' ho78 (Kd.R_lt (by (with_reducible repeat (first | apply Kd.R_alloc | apply Kd.R_drewN | apply Kd.R_drew)); exact HO_11.out))) (Kd.R_lt (by (with_reducible repeat (first | apply Kd.R_alloc | apply Kd.R_drewN | apply Kd.R_drew)); exact HO_13.out))) (Kd.R_lt (by (with_reducible repeat (first | apply Kd.R_alloc | apply Kd.R_drewN | apply Kd.R_drew)); exact HO_14.out))) (g := gb217) (o := .cells #[.int .u64 a0_0, .int .u16 a0_1] 26 (0, 0)) (by (with_reducible repeat (first | refine blk_drewN ?_ _ | refine blk_drew ?_ | refine blk_alloc ?_ _)); exact BK217.out)) (g := gb226) (o := .cells #[.int .u64 ((rd_T26 x11_1 x15_2).f0), .int .u16 ((rd_T26 x11_1 x15_2).f1)] 26 (0, 0)) (by (with_reducible repeat (first | refine blk_drewN ?_ _ | refine blk_drew ?_ | refine blk_alloc ?_ _)); exact BK226.out)) (below_size (by repeat (first | (with_reducible first | exact HB.out | apply below_alloc | apply pw_below_drewN | apply below_drew1 | refine below_set ?_ GE217.out | refine below_set ?_ GE226.out) | exact HB.out)))); have n4_ := Aside0.mk (blk_below (g := gb217) (o := .cells #[.int .u64 a0_0, .int .u16 a0_1] 26 (0, 0)) (by (with_reducible repeat (first | refine blk_drewN ?_ _ | refine blk_drew ?_ | refine blk_alloc ?_ _)); exact BK217.out) hb); have n5_ := Aside0.mk (blk_below (g := gb226) (o := .cells #[.int .u64 ((rd_T26 x11_1 x15_2).f0), .int .u16 ((rd_T26 x11_1 x15_2).f1)] 26 (0, 0)) (by (with_reducible repeat (first | refine blk_drewN ?_ _ | refine blk_drew ?_ | refine blk_alloc ?_ _)); exact BK226.out) hb); have n6_ := Aside0.mk (below_step (by repeat (first | (with_reducible first | exact HB.out | apply below_alloc | apply pw_below_drewN | apply below_drew1 | refine below_set ?_ GE217.out | refine below_set ?_ GE226.out) | exact HB.out)) hb); clear HO_11; clear HO_13; clear HO_14; clear BK217; clear BK226; clear HB; have HO_11 := n0_; have HO_13 := n1_; have HO_14 := n2_; have HO260 := n3_; have BK217 := n4_; have BK226 := n5_; have HB := n6_; clear n0_ n1_ n2_ n3_ n4_ n5_ n6_; clear hb ho78; have q79 : (x17_4 : Int) ≤ ((x14_2.length : Int) : Int) := of_decide_eq_true (by first | (with_reducible assumption) | assumption); obtain ⟨i079, hi079, _, hsz79, _⟩ := info_parts info26; have hroom79 : x14_2.length ≤ co76 := (Kd.R_reads' HO_14.out).2.1; have hC79 : Kd.C k26 _ (some ad233) x14_2.length x14_2 := (Kd.R_reads' HO_14.out).2.2; have hcut79 := cut_to (P := Try.prog) 36 26 .i64 Try.underlying36 hi079 (some ad233) x14_2.length co76 x17_4 (of_decide_eq_true (by first | (with_reducible assumption) | assumption)) q79 hroom79; have hr79 := Kd.C_take (m := (x17_4 : Int).toNat) hC79 (by omega); have hy79 : y261.length = (x17_4 : Int).toNat := (by rw [Ny261.out, List.length_take]; omega); rw [← Ny261.out] at hr79; rw [← hy79] at hcut79; have HR264 := Aside0.mk hr79; have HC264 := Aside0.mk (show y261.length ≤ co76 from by omega); clear hr79 hC79 hroom79 hi079 hsz79; have KY79 := Aside0.mk hy79; clear hy79; have KL79 := Aside0.mk (show (x17_4 : Int).toNat ≤ x14_2.length from by omega); replace q79 := eq_true q79) | ((with_reducible refine gate_builtin (b := .append) (xs := #[.tmp 113, .tmp 116]) rfl ?_); at_builtin; refine Kd.R_append_rows k26 (w0 := w) w.heap.size rfl (.tmp 113) (.tmp 116) 36 26 (.agg #[(.int .u64 0), (.int .u16 0)]) 16 rfl Try.underlying36 info26 rfl (by decide) (by omega) v259 y258 y261 _ _ _ (fun k_ => some k_ ≠ (.slice (some ad225) x11_1.length co16 : Value).ownBlock ∧ some k_ ≠ (v229 : Value).ownBlock ∧ some k_ ≠ (.slice (some ad233) x14_2.length co76 : Value).ownBlock ∧ k_ ≠ gb217 ∧ k_ ≠ gb226) (fun _ => False) rfl rfl ?aO ?aR (fun _ _ h => h) (fun _ h => h.elim) ?aF ?aB ?aS ?aL ?_; (case aR => repeat (first | exact (by repeat (first | (with_reducible exact HR264.out) | (with_reducible refine Kd.C_alloc ?_ _) | (with_reducible refine Kd.C_drewN ?_ _) | (with_reducible refine Kd.C_drew ?_) | exact HR264.out)) | (with_reducible refine Kd.C_alloc ?_ _) | (with_reducible refine Kd.C_drewN ?_ _) | (with_reducible refine Kd.C_drew ?_))); (case aB => exact (by repeat (first | (with_reducible first | exact HB.out | apply below_alloc | apply pw_below_drewN | apply below_drew1 | refine below_set ?_ GE217.out | refine below_set ?_ GE226.out) | exact HB.out))); (case aF => exact (fun k_ hk => ⟨Kd.fresh' (Kd.R_lt (by (with_reducible repeat (first | apply Kd.R_alloc | apply Kd.R_drewN | apply Kd.R_drew)); exact HO_11.out)) k_ hk, Kd.fresh' (Kd.R_lt (by (with_reducible repeat (first | apply Kd.R_alloc | apply Kd.R_drewN | apply Kd.R_drew)); exact HO_13.out)) k_ hk, Kd.fresh' (Kd.R_lt (by (with_reducible repeat (first | apply Kd.R_alloc | apply Kd.R_drewN | apply Kd.R_drew)); exact HO_14.out)) k_ hk, Kd.freshB (g := gb217) (o := .cells #[.int .u64 a0_0, .int .u16 a0_1] 26 (0, 0)) (by (with_reducible repeat (first | refine blk_drewN ?_ _ | refine blk_drew ?_ | refine blk_alloc ?_ _)); exact BK217.out) k_ hk, Kd.freshB (g := gb226) (o := .cells #[.int .u64 ((rd_T26 x11_1 x15_2).f0), .int .u16 ((rd_T26 x11_1 x15_2).f1)] 26 (0, 0)) (by (with_reducible repeat (first | refine blk_drewN ?_ _ | refine blk_drew ?_ | refine blk_alloc ?_ _)); exact BK226.out) k_ hk⟩)); (case aO => exact (by (with_reducible repeat (first | apply Kd.R_alloc | apply Kd.R_drewN | apply Kd.R_drew)); exact Kd.R_mono HO260.out (fun _ hk => ⟨hk.1.1.1.1.2, ⟨hk.1.1.1.2, ⟨hk.1.1.2, ⟨hk.1.2, hk.2⟩⟩⟩⟩))); (case aS => exact (below_size (by repeat (first | (with_reducible first | exact HB.out | apply below_alloc | apply pw_below_drewN | apply below_drew1 | refine below_set ?_ GE217.out | refine below_set ?_ GE226.out) | exact HB.out)))); (case aL => have := LMc70.out; omega); intro v266 w80 ho hb hg hat; rw [← Ny265.out] at ho; have n0_ := Aside0.mk (Kd.R_after (ok := (fun k_ => some k_ ≠ (v229 : Value).ownBlock ∧ some k_ ≠ (.slice (some ad233) x14_2.length co76 : Value).ownBlock ∧ k_ ≠ gb217 ∧ k_ ≠ gb226)) (by (with_reducible repeat (first | apply Kd.R_alloc | apply Kd.R_drewN | apply Kd.R_drew)); exact HO_11.out) hg hat); have n1_ := Aside0.mk (Kd.R_after (ok := (fun k_ => some k_ ≠ (.slice (some ad225) x11_1.length co16 : Value).ownBlock ∧ some k_ ≠ (.slice (some ad233) x14_2.length co76 : Value).ownBlock ∧ k_ ≠ gb217 ∧ k_ ≠ gb226)) (by (with_reducible repeat (first | apply Kd.R_alloc | apply Kd.R_drewN | apply Kd.R_drew)); exact HO_13.out) hg hat); have n2_ := Aside0.mk (Kd.R_after (ok := (fun k_ => some k_ ≠ (.slice (some ad225) x11_1.length co16 : Value).ownBlock ∧ some k_ ≠ (v229 : Value).ownBlock ∧ k_ ≠ gb217 ∧ k_ ≠ gb226)) (by (with_reducible repeat (first | apply Kd.R_alloc | apply Kd.R_drewN | apply Kd.R_drew)); exact HO_14.out) hg hat); have n3_ := Aside0.mk (blk_grown (g := gb217) (o := .cells #[.int .u64 a0_0, .int .u16 a0_1] 26 (0, 0)) (by (with_reducible repeat (first | refine blk_drewN ?_ _ | refine blk_drew ?_ | refine blk_alloc ?_ _)); exact BK217.out) hg (Kd.R_away HO260.out (fun _ hk => hk.1.2))); have n4_ := Aside0.mk (blk_grown (g := gb226) (o := .cells #[.int .u64 ((rd_T26 x11_1 x15_2).f0), .int .u16 ((rd_T26 x11_1 x15_2).f1)] 26 (0, 0)) (by (with_reducible repeat (first | refine blk_drewN ?_ _ | refine blk_drew ?_ | refine blk_alloc ?_ _)); exact BK226.out) hg (Kd.R_away HO260.out (fun _ hk => hk.2))); have n5_ := Aside0.mk (hb); have n6_ := Aside0.mk ((show Kd.C k26 w80 (some ad233) y261.length y261 from by rw [Ny261.out]; exact Kd.C_take (m := (x17_4 : Int).toNat) ((Kd.R_reads' (Kd.R_after (ok := (fun k_ => some k_ ≠ (.slice (some ad225) x11_1.length co16 : Value).ownBlock ∧ some k_ ≠ (v229 : Value).ownBlock ∧ k_ ≠ gb217 ∧ k_ ≠ gb226)) (by (with_reducible repeat (first | apply Kd.R_alloc | apply Kd.R_drewN | apply Kd.R_drew)); exact HO_14.out) hg hat)).2.2) KL79.out)); have n7_ := Aside0.mk (ho); clear HO_11; clear HO_13; clear HO_14; clear BK217; clear BK226; clear HB; clear HR264; clear HO260; have HO_11 := n0_; have HO_13 := n1_; have HO_14 := n2_; have BK217 := n3_; have BK226 := n4_; have HB := n5_; have HR264 := n6_; have HO267 := n7_; clear n0_ n1_ n2_ n3_ n4_ n5_ n6_ n7_; clear ho hb hg hat; have hnb81 := NB226_217.out; have hnc81 := NB217_226.out; obtain ⟨hcz82_0, hcz82_1, hfz82_0, hfz82_1⟩ := box2f (w := w80) (g := gb226) BK226.out) | ((with_reducible refine gate_builtin (b := .append) (xs := #[.tmp 118, .tmp 120]) rfl ?_); at_builtin; refine Kd.R_append k26 (w0 := w) w.heap.size rfl (.tmp 118) (.tmp 120) 36 26 (.agg #[(.int .u64 0), (.int .u16 0)]) 16 rfl Try.underlying36 info26 rfl (by decide) (by omega) v266 y265 (⟨((rd_T26 x11_1 x15_2).f0), ((rd_T26 x11_1 x15_2).f1)⟩ : S26) [.int .u64 ((rd_T26 x11_1 x15_2).f0), .int .u16 ((rd_T26 x11_1 x15_2).f1)] (fun k_ => some k_ ≠ (.slice (some ad225) x11_1.length co16 : Value).ownBlock ∧ some k_ ≠ (v229 : Value).ownBlock ∧ some k_ ≠ (.slice (some ad233) x14_2.length co76 : Value).ownBlock ∧ k_ ≠ gb217 ∧ k_ ≠ gb226) (fun _ => False) rfl rfl ?aP (fun _ hk => hk.elim) ?aF ?aO ?aB ?aS ?aL ?_; (case aP => exact k26_mkM _ _ _ (⟨((rd_T26 x11_1 x15_2).f0), ((rd_T26 x11_1 x15_2).f1)⟩ : S26)); (case aB => exact (by repeat (first | (with_reducible first | exact HB.out | apply below_alloc | apply pw_below_drewN | apply below_drew1 | refine below_set ?_ GE217.out | refine below_set ?_ GE226.out) | exact HB.out))); (case aF => exact (fun k_ hk => ⟨Kd.fresh' (Kd.R_lt (by (with_reducible repeat (first | apply Kd.R_alloc | apply Kd.R_drewN | apply Kd.R_drew)); exact HO_11.out)) k_ hk, Kd.fresh' (Kd.R_lt (by (with_reducible repeat (first | apply Kd.R_alloc | apply Kd.R_drewN | apply Kd.R_drew)); exact HO_13.out)) k_ hk, Kd.fresh' (Kd.R_lt (by (with_reducible repeat (first | apply Kd.R_alloc | apply Kd.R_drewN | apply Kd.R_drew)); exact HO_14.out)) k_ hk, Kd.freshB (g := gb217) (o := .cells #[.int .u64 a0_0, .int .u16 a0_1] 26 (0, 0)) (by (with_reducible repeat (first | refine blk_drewN ?_ _ | refine blk_drew ?_ | refine blk_alloc ?_ _)); exact BK217.out) k_ hk, Kd.freshB (g := gb226) (o := .cells #[.int .u64 ((rd_T26 x11_1 x15_2).f0), .int .u16 ((rd_T26 x11_1 x15_2).f1)] 26 (0, 0)) (by (with_reducible repeat (first | refine blk_drewN ?_ _ | refine blk_drew ?_ | refine blk_alloc ?_ _)); exact BK226.out) k_ hk⟩)); (case aO => exact (by (with_reducible repeat (first | apply Kd.R_alloc | apply Kd.R_drewN | apply Kd.R_drew)); exact HO267.out)); (case aS => exact (below_size (by repeat (first | (with_reducible first | exact HB.out | apply below_alloc | apply pw_below_drewN | apply below_drew1 | refine below_set ?_ GE217.out | refine below_set ?_ GE226.out) | exact HB.out)))); (case aL => have := LMc71.out; omega); intro v269 w83 ho hb hg hat; rw [← Ny268.out] at ho; have n0_ := Aside0.mk (Kd.R_after (ok := (fun k_ => some k_ ≠ (v229 : Value).ownBlock ∧ some k_ ≠ (.slice (some ad233) x14_2.length co76 : Value).ownBlock ∧ k_ ≠ gb217 ∧ k_ ≠ gb226)) (by (with_reducible repeat (first | apply Kd.R_alloc | apply Kd.R_drewN | apply Kd.R_drew)); exact HO_11.out) hg hat); have n1_ := Aside0.mk (Kd.R_after (ok := (fun k_ => some k_ ≠ (.slice (some ad225) x11_1.length co16 : Value).ownBlock ∧ some k_ ≠ (.slice (some ad233) x14_2.length co76 : Value).ownBlock ∧ k_ ≠ gb217 ∧ k_ ≠ gb226)) (by (with_reducible repeat (first | apply Kd.R_alloc | apply Kd.R_drewN | apply Kd.R_drew)); exact HO_13.out) hg hat); have n2_ := Aside0.mk (Kd.R_after (ok := (fun k_ => some k_ ≠ (.slice (some ad225) x11_1.length co16 : Value).ownBlock ∧ some k_ ≠ (v229 : Value).ownBlock ∧ k_ ≠ gb217 ∧ k_ ≠ gb226)) (by (with_reducible repeat (first | apply Kd.R_alloc | apply Kd.R_drewN | apply Kd.R_drew)); exact HO_14.out) hg hat); have n3_ := Aside0.mk (blk_grown (g := gb217) (o := .cells #[.int .u64 a0_0, .int .u16 a0_1] 26 (0, 0)) (by (with_reducible repeat (first | refine blk_drewN ?_ _ | refine blk_drew ?_ | refine blk_alloc ?_ _)); exact BK217.out) hg (Kd.R_away HO267.out (fun _ hk => hk.2.2.2.1))); have n4_ := Aside0.mk (blk_grown (g := gb226) (o := .cells #[.int .u64 ((rd_T26 x11_1 x15_2).f0), .int .u16 ((rd_T26 x11_1 x15_2).f1)] 26 (0, 0)) (by (with_reducible repeat (first | refine blk_drewN ?_ _ | refine blk_drew ?_ | refine blk_alloc ?_ _)); exact BK226.out) hg (Kd.R_away HO267.out (fun _ hk => hk.2.2.2.2))); have n5_ := Aside0.mk (hb); have n6_ := Aside0.mk ((show Kd.C k26 w83 (some ad233) y261.length y261 from by rw [Ny261.out]; exact Kd.C_take (m := (x17_4 : Int).toNat) ((Kd.R_reads' (Kd.R_after (ok := (fun k_ => some k_ ≠ (.slice (some ad225) x11_1.length co16 : Value).ownBlock ∧ some k_ ≠ (v229 : Value).ownBlock ∧ k_ ≠ gb217 ∧ k_ ≠ gb226)) (by (with_reducible repeat (first | apply Kd.R_alloc | apply Kd.R_drewN | apply Kd.R_drew)); exact HO_14.out) hg hat)).2.2) KL79.out)); have n7_ := Aside0.mk (ho); clear HO_11; clear HO_13; clear HO_14; clear BK217; clear BK226; clear HB; clear HR264; clear HO267; have HO_11 := n0_; have HO_13 := n1_; have HO_14 := n2_; have BK217 := n3_; have BK226 := n4_; have HB := n5_; have HR264 := n6_; have HO270 := n7_; clear n0_ n1_ n2_ n3_ n4_ n5_ n6_ n7_; clear ho hb hg hat; have q84 : (x17_4 : Int) ≤ ((x14_2.length : Int) : Int) := of_decide_eq_true (by first | (with_reducible assumption) | assumption); obtain ⟨i084, hi084, _, hsz84, _⟩ := info_parts info26; have hroom84 : x14_2.length ≤ co76 := (Kd.R_reads' HO_14.out).2.1; have hC84 : Kd.C k26 _ (some ad233) x14_2.length x14_2 := (Kd.R_reads' HO_14.out).2.2; have q084 : (0 : Int) ≤ (x17_4 : Int) := of_decide_eq_true (by first | (with_reducible assumption) | assumption); have hcut84 := cut_from (P := Try.prog) 36 26 .i64 Try.underlying36 hi084 2 hsz84 (some ad233) x14_2.length co76 x17_4 q084 q84; have hr84 := Kd.C_drop (m := (x17_4 : Int).toNat) (c := co76) hC84 (by omega) hroom84; obtain ⟨A84, hA84⟩ : ∃ A1, A1 = (if co76 = (x17_4 : Int).toNat then (some ad233) else ((some ad233) : Option Addr).map (·.add ((x17_4 : Int).toNat * 2))) := ⟨_, rfl⟩; obtain ⟨c84, hc84⟩ : ∃ c1, c1 = co76 - (x17_4 : Int).toNat := ⟨_, rfl⟩; have hy84 : y271.length = x14_2.length - (x17_4 : Int).toNat := (by rw [Ny271.out, List.length_drop] <;> omega); rw [show (x14_2).drop (x17_4 : Int).toNat = y271 from Ny271.out.symm] at hr84; replace hr84 : Kd.C k26 _ A84 y271.length y271 := (by rw [hA84]; exact hr84); rw [← hy84, ← hA84, ← hc84] at hcut84; have HR274 := Aside0.mk hr84; have HC274 := Aside0.mk (show y271.length ≤ c84 from by rw [hy84, hc84]; exact Nat.sub_le_sub_right hroom84 _); clear hr84 hC84 hroom84 hi084 hsz84 hc84; have KY84 := Aside0.mk hy84; have KA84 := Aside0.mk hA84; clear hy84 hA84; have KL84 := Aside0.mk (show (x17_4 : Int).toNat ≤ x14_2.length from by omega); replace q84 := eq_true q84) | ((with_reducible refine gate_builtin (b := .append) (xs := #[.tmp 122, .tmp 125]) rfl ?_); at_builtin; refine Kd.R_append_rows k26 (w0 := w) w.heap.size rfl (.tmp 122) (.tmp 125) 36 26 (.agg #[(.int .u64 0), (.int .u16 0)]) 16 rfl Try.underlying36 info26 rfl (by decide) (by omega) v269 y268 y271 _ _ _ (fun k_ => some k_ ≠ (.slice (some ad225) x11_1.length co16 : Value).ownBlock ∧ some k_ ≠ (v229 : Value).ownBlock ∧ some k_ ≠ (.slice (some ad233) x14_2.length co76 : Value).ownBlock ∧ k_ ≠ gb217 ∧ k_ ≠ gb226) (fun _ => False) rfl rfl ?aO ?aR (fun _ _ h => h) (fun _ h => h.elim) ?aF ?aB ?aS ?aL ?_; (case aR => repeat (first | exact (by repeat (first | (with_reducible exact HR274.out) | (with_reducible refine Kd.C_alloc ?_ _) | (with_reducible refine Kd.C_drewN ?_ _) | (with_reducible refine Kd.C_drew ?_) | exact HR274.out)) | (with_reducible refine Kd.C_alloc ?_ _) | (with_reducible refine Kd.C_drewN ?_ _) | (with_reducible refine Kd.C_drew ?_))); (case aB => exact (by repeat (first | (with_reducible first | exact HB.out | apply below_alloc | apply pw_below_drewN | apply below_drew1 | refine below_set ?_ GE217.out | refine below_set ?_ GE226.out) | exact HB.out))); (case aF => exact (fun k_ hk => ⟨Kd.fresh' (Kd.R_lt (by (with_reducible repeat (first | apply Kd.R_alloc | apply Kd.R_drewN | apply Kd.R_drew)); exact HO_11.out)) k_ hk, Kd.fresh' (Kd.R_lt (by (with_reducible repeat (first | apply Kd.R_alloc | apply Kd.R_drewN | apply Kd.R_drew)); exact HO_13.out)) k_ hk, Kd.fresh' (Kd.R_lt (by (with_reducible repeat (first | apply Kd.R_alloc | apply Kd.R_drewN | apply Kd.R_drew)); exact HO_14.out)) k_ hk, Kd.freshB (g := gb217) (o := .cells #[.int .u64 a0_0, .int .u16 a0_1] 26 (0, 0)) (by (with_reducible repeat (first | refine blk_drewN ?_ _ | refine blk_drew ?_ | refine blk_alloc ?_ _)); exact BK217.out) k_ hk, Kd.freshB (g := gb226) (o := .cells #[.int .u64 ((rd_T26 x11_1 x15_2).f0), .int .u16 ((rd_T26 x11_1 x15_2).f1)] 26 (0, 0)) (by (with_reducible repeat (first | refine blk_drewN ?_ _ | refine blk_drew ?_ | refine blk_alloc ?_ _)); exact BK226.out) k_ hk⟩)); (case aO => exact (by (with_reducible repeat (first | apply Kd.R_alloc | apply Kd.R_drewN | apply Kd.R_drew)); exact HO270.out)); (case aS => exact (below_size (by repeat (first | (with_reducible first | exact HB.out | apply below_alloc | apply pw_below_drewN | apply below_drew1 | refine below_set ?_ GE217.out | refine below_set ?_ GE226.out) | exact HB.out)))); (case aL => have := LMc74.out; omega); intro v276 w85 ho hb hg hat; rw [← Ny275.out] at ho; have n0_ := Aside0.mk (Kd.R_after (ok := (fun k_ => some k_ ≠ (v229 : Value).ownBlock ∧ some k_ ≠ (.slice (some ad233) x14_2.length co76 : Value).ownBlock ∧ k_ ≠ gb217 ∧ k_ ≠ gb226)) (by (with_reducible repeat (first | apply Kd.R_alloc | apply Kd.R_drewN | apply Kd.R_drew)); exact HO_11.out) hg hat); have n1_ := Aside0.mk (Kd.R_after (ok := (fun k_ => some k_ ≠ (.slice (some ad225) x11_1.length co16 : Value).ownBlock ∧ some k_ ≠ (.slice (some ad233) x14_2.length co76 : Value).ownBlock ∧ k_ ≠ gb217 ∧ k_ ≠ gb226)) (by (with_reducible repeat (first | apply Kd.R_alloc | apply Kd.R_drewN | apply Kd.R_drew)); exact HO_13.out) hg hat); have n2_ := Aside0.mk (Kd.R_after (ok := (fun k_ => some k_ ≠ (.slice (some ad225) x11_1.length co16 : Value).ownBlock ∧ some k_ ≠ (v229 : Value).ownBlock ∧ k_ ≠ gb217 ∧ k_ ≠ gb226)) (by (with_reducible repeat (first | apply Kd.R_alloc | apply Kd.R_drewN | apply Kd.R_drew)); exact HO_14.out) hg hat); have n3_ := Aside0.mk (blk_grown (g := gb217) (o := .cells #[.int .u64 a0_0, .int .u16 a0_1] 26 (0, 0)) (by (with_reducible repeat (first | refine blk_drewN ?_ _ | refine blk_drew ?_ | refine blk_alloc ?_ _)); exact BK217.out) hg (Kd.R_away HO270.out (fun _ hk => hk.2.2.2.1))); have n4_ := Aside0.mk (blk_grown (g := gb226) (o := .cells #[.int .u64 ((rd_T26 x11_1 x15_2).f0), .int .u16 ((rd_T26 x11_1 x15_2).f1)] 26 (0, 0)) (by (with_reducible repeat (first | refine blk_drewN ?_ _ | refine blk_drew ?_ | refine blk_alloc ?_ _)); exact BK226.out) hg (Kd.R_away HO270.out (fun _ hk => hk.2.2.2.2))); have n5_ := Aside0.mk (hb); have n6_ := Aside0.mk ((show Kd.C k26 w85 (some ad233) y261.length y261 from by rw [Ny261.out]; exact Kd.C_take (m := (x17_4 : Int).toNat) ((Kd.R_reads' (Kd.R_after (ok := (fun k_ => some k_ ≠ (.slice (some ad225) x11_1.length co16 : Value).ownBlock ∧ some k_ ≠ (v229 : Value).ownBlock ∧ k_ ≠ gb217 ∧ k_ ≠ gb226)) (by (with_reducible repeat (first | apply Kd.R_alloc | apply Kd.R_drewN | apply Kd.R_drew)); exact HO_14.out) hg hat)).2.2) KL79.out)); have n7_ := Aside0.mk ((show Kd.C k26 w85 A84 y271.length y271 from by rw [Ny271.out, KA84.out]; exact Kd.C_drop (m := (x17_4 : Int).toNat) (c := co76) ((Kd.R_reads' (Kd.R_after (ok := (fun k_ => some k_ ≠ (.slice (some ad225) x11_1.length co16 : Value).ownBlock ∧ some k_ ≠ (v229 : Value).ownBlock ∧ k_ ≠ gb217 ∧ k_ ≠ gb226)) (by (with_reducible repeat (first | apply Kd.R_alloc | apply Kd.R_drewN | apply Kd.R_drew)); exact HO_14.out) hg hat)).2.2) KL84.out ((Kd.R_reads' (Kd.R_after (ok := (fun k_ => some k_ ≠ (.slice (some ad225) x11_1.length co16 : Value).ownBlock ∧ some k_ ≠ (v229 : Value).ownBlock ∧ k_ ≠ gb217 ∧ k_ ≠ gb226)) (by (with_reducible repeat (first | apply Kd.R_alloc | apply Kd.R_drewN | apply Kd.R_drew)); exact HO_14.out) hg hat)).2.1))); have n8_ := Aside0.mk (ho); clear HO_11; clear HO_13; clear HO_14; clear BK217; clear BK226; clear HB; clear HR264; clear HR274; clear HO270; have HO_11 := n0_; have HO_13 := n1_; have HO_14 := n2_; have BK217 := n3_; have BK226 := n4_; have HB := n5_; have HR264 := n6_; have HR274 := n7_; have HO277 := n8_; clear n0_ n1_ n2_ n3_ n4_ n5_ n6_ n7_ n8_; clear ho hb hg hat))
                       go_roundg k4
                       case measure => have := HK1.out; have := HK2.out; have := HJ14.out; have := HK4.out; omega
                       case rel => exact ⟨(y228), (y275), (wrap64 (x15_2 + 1)), (by first | rfl | (simp; done) | (simp [*]; done)), H', ⟨by have := HK1.out; have := HK2.out; have := HJ14.out; have := HK4.out; omega⟩, ⟨by (with_reducible repeat (first | apply Kd.R_alloc | apply Kd.R_drewN | apply Kd.R_drew)); exact Kd.R_mono HO_11.out (fun _ hk => ⟨hk.1.1, ⟨hk.2, hk.1.2.2.1⟩⟩)⟩, ⟨by (with_reducible repeat (first | apply Kd.R_alloc | apply Kd.R_drewN | apply Kd.R_drew)); exact Kd.R_mono HO_13.out (fun _ hk => ⟨hk.1.1, ⟨hk.2, hk.1.2.2.1⟩⟩)⟩, ⟨by (with_reducible repeat (first | apply Kd.R_alloc | apply Kd.R_drewN | apply Kd.R_drew)); exact Kd.R_mono HO277.out (fun _ hk => ⟨hk.1, ⟨hk.2.1, hk.2.2.2.1⟩⟩)⟩, ⟨by (with_reducible repeat (first | refine blk_drewN ?_ _ | refine blk_drew ?_ | refine blk_alloc ?_ _)); exact BK217.out⟩, ⟨by repeat (first | (with_reducible first | exact HB.out | apply below_alloc | apply pw_below_drewN | apply below_drew1 | refine below_set ?_ GE217.out | refine below_set ?_ GE226.out) | exact HB.out)⟩⟩
                      ·rw [if_neg c74] at H
                       exact absurd H (by simp)
                     ·rw [if_neg c71] at H
                      exact absurd H (by simp)
                    ·rw [if_neg c70] at H
                     exact absurd H (by simp)
                   ·rw [if_neg c69] at H
                    exact absurd H (by simp)
                ·rw [if_neg c40] at H
                 exact absurd H (by simp)
               ·rw [if_neg c39] at H
                have c39b0 : decide (x17_4 < (x14_2.length : Int)) = false := decide_eq_false c39
                clear c39
                obtain ⟨y278, hy278⟩ : ∃ y_ : List (S26), y_ = (([] : List (S26))) := ⟨_, rfl⟩
                replace H : (if 0 ≤ x17_4 then (if x17_4 ≤ (x14_2.length : Int) then ((some (x14_2.take (x17_4 : Int).toNat : List (S26))).bind fun y281 => (if y278.length + y281.length < 8796093022208 then ((some (y278 ++ y281 : List (S26))).bind fun y285 => (if y285.length < 8796093022208 then ((some (y285 ++ [(⟨((rd_T26 x11_1 x15_2).f0), ((rd_T26 x11_1 x15_2).f1)⟩ : S26)] : List (S26))).bind fun y288 => ((some (x14_2.drop (x17_4 : Int).toNat : List (S26))).bind fun y291 => (if y288.length + y291.length < 8796093022208 then (annuletref28_Hops.l1 k4 a3 a4 x11_1 y228 (y288 ++ y291) (wrap64 (x15_2 + 1)) a0_0 a0_1) else (none)))) else (none))) else (none))) else (none)) else (none)) = some r := by first | (rw [hy278]; with_reducible exact H) | (have H2_ := (Option.bind_some _ _).symm.trans H; rw [hy278]; with_reducible exact H2_) | (have H2_ := (Option.bind_some _ _).symm.trans H; with_reducible exact H2_) | with_reducible exact H | (rw [hy278]; exact H) | exact H
                have Ny278 := Aside0.mk hy278
                clear hy278
                by_cases c86 : 0 ≤ x17_4
                ·rw [if_pos c86] at H
                 have c86b0 := eq_true c86
                 have c86b1 : decide (0 ≤ x17_4) = true := decide_eq_true c86
                 clear c86
                 by_cases c87 : x17_4 ≤ (x14_2.length : Int)
                 ·rw [if_pos c87] at H
                  have c87b0 := eq_true c87
                  have c87b1 : decide (x17_4 ≤ (x14_2.length : Int)) = true := decide_eq_true c87
                  clear c87
                  obtain ⟨y281, hy281⟩ : ∃ y_ : List (S26), y_ = (x14_2.take (x17_4 : Int).toNat) := ⟨_, rfl⟩
                  replace H : (if y278.length + y281.length < 8796093022208 then ((some (y278 ++ y281 : List (S26))).bind fun y285 => (if y285.length < 8796093022208 then ((some (y285 ++ [(⟨((rd_T26 x11_1 x15_2).f0), ((rd_T26 x11_1 x15_2).f1)⟩ : S26)] : List (S26))).bind fun y288 => ((some (x14_2.drop (x17_4 : Int).toNat : List (S26))).bind fun y291 => (if y288.length + y291.length < 8796093022208 then (annuletref28_Hops.l1 k4 a3 a4 x11_1 y228 (y288 ++ y291) (wrap64 (x15_2 + 1)) a0_0 a0_1) else (none)))) else (none))) else (none)) = some r := by first | (rw [hy281]; with_reducible exact H) | (have H2_ := (Option.bind_some _ _).symm.trans H; rw [hy281]; with_reducible exact H2_) | (have H2_ := (Option.bind_some _ _).symm.trans H; with_reducible exact H2_) | with_reducible exact H | (rw [hy281]; exact H) | exact H
                  have Ny281 := Aside0.mk hy281
                  clear hy281
                  by_cases c88 : y278.length + y281.length < 8796093022208
                  ·rw [if_pos c88] at H
                   have LMc88 := Aside0.mk c88
                   clear c88
                   obtain ⟨y285, hy285⟩ : ∃ y_ : List (S26), y_ = (y278 ++ y281) := ⟨_, rfl⟩
                   replace H : (if y285.length < 8796093022208 then ((some (y285 ++ [(⟨((rd_T26 x11_1 x15_2).f0), ((rd_T26 x11_1 x15_2).f1)⟩ : S26)] : List (S26))).bind fun y288 => ((some (x14_2.drop (x17_4 : Int).toNat : List (S26))).bind fun y291 => (if y288.length + y291.length < 8796093022208 then (annuletref28_Hops.l1 k4 a3 a4 x11_1 y228 (y288 ++ y291) (wrap64 (x15_2 + 1)) a0_0 a0_1) else (none)))) else (none)) = some r := by first | (rw [hy285]; with_reducible exact H) | (have H2_ := (Option.bind_some _ _).symm.trans H; rw [hy285]; with_reducible exact H2_) | (have H2_ := (Option.bind_some _ _).symm.trans H; with_reducible exact H2_) | with_reducible exact H | (rw [hy285]; exact H) | exact H
                   have Ny285 := Aside0.mk hy285
                   clear hy285
                   by_cases c89 : y285.length < 8796093022208
                   ·rw [if_pos c89] at H
                    have LMc89 := Aside0.mk c89
                    clear c89
                    obtain ⟨y288, hy288⟩ : ∃ y_ : List (S26), y_ = (y285 ++ [(⟨((rd_T26 x11_1 x15_2).f0), ((rd_T26 x11_1 x15_2).f1)⟩ : S26)]) := ⟨_, rfl⟩
                    replace H : ((some (x14_2.drop (x17_4 : Int).toNat : List (S26))).bind fun y291 => (if y288.length + y291.length < 8796093022208 then (annuletref28_Hops.l1 k4 a3 a4 x11_1 y228 (y288 ++ y291) (wrap64 (x15_2 + 1)) a0_0 a0_1) else (none))) = some r := by first | (rw [hy288]; with_reducible exact H) | (have H2_ := (Option.bind_some _ _).symm.trans H; rw [hy288]; with_reducible exact H2_) | (have H2_ := (Option.bind_some _ _).symm.trans H; with_reducible exact H2_) | with_reducible exact H | (rw [hy288]; exact H) | exact H
                    have Ny288 := Aside0.mk hy288
                    clear hy288
                    have c90b0 := eq_true (of_decide_eq_true (by first | (with_reducible assumption) | assumption) : 0 ≤ x17_4)
                    have c91b0 := eq_true (of_decide_eq_true (by first | (with_reducible assumption) | assumption) : x17_4 ≤ (x14_2.length : Int))
                    obtain ⟨y291, hy291⟩ : ∃ y_ : List (S26), y_ = (x14_2.drop (x17_4 : Int).toNat) := ⟨_, rfl⟩
                    replace H : (if y288.length + y291.length < 8796093022208 then (annuletref28_Hops.l1 k4 a3 a4 x11_1 y228 (y288 ++ y291) (wrap64 (x15_2 + 1)) a0_0 a0_1) else (none)) = some r := by first | (rw [hy291]; with_reducible exact H) | (have H2_ := (Option.bind_some _ _).symm.trans H; rw [hy291]; with_reducible exact H2_) | (have H2_ := (Option.bind_some _ _).symm.trans H; with_reducible exact H2_) | with_reducible exact H | (rw [hy291]; exact H) | exact H
                    have Ny291 := Aside0.mk hy291
                    clear hy291
                    by_cases c92 : y288.length + y291.length < 8796093022208
                    ·rw [if_pos c92] at H
                     have LMc92 := Aside0.mk c92
                     clear c92
                     obtain ⟨y295, hy295⟩ : ∃ y_ : List (S26), y_ = (y288 ++ y291) := ⟨_, rfl⟩
                     replace H : (annuletref28_Hops.l1 k4 a3 a4 x11_1 y228 y295 (wrap64 (x15_2 + 1)) a0_0 a0_1) = some r := by first | (rw [hy295]; with_reducible exact H) | (have H2_ := (Option.bind_some _ _).symm.trans H; rw [hy295]; with_reducible exact H2_) | (have H2_ := (Option.bind_some _ _).symm.trans H; with_reducible exact H2_) | with_reducible exact H | (rw [hy295]; exact H) | exact H
                     have Ny295 := Aside0.mk hy295
                     clear hy295
                     have H' := Aside0.mk H
                     clear H
                     try go_wp2
                     have n0_ := Aside0.mk (Kd.R_drew HO_11.out)
                     have n1_ := Aside0.mk (Kd.R_drew HO_13.out)
                     have n2_ := Aside0.mk (Kd.R_drew HO_14.out)
                     have n3_ := Aside0.mk (blk_drew BK217.out)
                     have n4_ := Aside0.mk (blk_drew BK226.out)
                     have n5_ := Aside0.mk (below_drew1 HB.out)
                     clear HO_11
                     clear HO_13
                     clear HO_14
                     clear BK217
                     clear BK226
                     clear HB
                     have HO_11 := n0_
                     have HO_13 := n1_
                     have HO_14 := n2_
                     have BK217 := n3_
                     have BK226 := n4_
                     have HB := n5_
                     clear n0_ n1_ n2_ n3_ n4_ n5_
                     obtain ⟨Ao94, co94, eo94⟩ := Kd.R_slice HO_14.out
                     (first | subst eo94 | (injection eo94 with f1_ f2_ f3_; have f4_ := f1_.symm; have f5_ := f3_.symm; clear f1_ f2_ f3_; subst f4_; subst f5_))
                     refine start_ (n := 38) (S := fun w' => True) (ds := []) #[F',F',F',F',F',F',F',F',F',F',F',F',F',F',F',F',F',F',F',F',F',F',F',F',F',F',F',F',F',F',F',F',F',F',F',F',F',F'] (by kernel_rfl) rfl rfl trivial (fun hHeld => ?_); refine with_tabW annuletref28_Hops.tab17 annuletref28_Hops.bits17 (fun HT_ HW_ => ?_)
                     generalize wr.drew = w93 at HO_11 HO_13 HO_14 BK217 BK226 HB hHeld ⊢
                     refine pure_ (i := 0) (N := some 73) (v := ?_) (a' := ?_) #[T',F',F',F',F',F',F',F',F',F',F',F',F',F',F',F',F',F',F',F',F',F',F',F',F',F',F',F',F',F',F',F',F',F',F',F',F',F'] rfl rfl (any_of HT_.out (by kernel_rfl)) (fun _ _ _ h => h) (Or.inl ⟨by rfl, ?_⟩) ?_ ?_
                     rotate_left
                     ·intro w'
                      go_simp
                      with_reducible rfl
                     rotate_left
                     ·simp only [Act.put, la_, lz_, ls_, i64_w, i32_w]
                      rfl
                     refine pure_ (i := 1) (N := some 74) (v := ?_) (a' := ?_) #[T',T',F',F',F',F',F',F',F',F',F',F',F',F',F',F',F',F',F',F',F',F',F',F',F',F',F',F',F',F',F',F',F',F',F',F',F',F'] rfl rfl (any_of HT_.out (by kernel_rfl)) (fun _ _ _ h => h) (Or.inl ⟨by rfl, ?_⟩) ?_ ?_
                     rotate_left
                     ·intro w'
                      go_simp
                      with_reducible rfl
                     rotate_left
                     ·simp only [Act.put, la_, lz_, ls_, i64_w, i32_w]
                      rfl
                     refine pure_ (i := 2) (N := some 75) (v := ?_) (a' := ?_) #[T',T',T',F',F',F',F',F',F',F',F',F',F',F',F',F',F',F',F',F',F',F',F',F',F',F',F',F',F',F',F',F',F',F',F',F',F',F'] rfl rfl (any_of HT_.out (by kernel_rfl)) (fun _ _ _ h => h) (Or.inl ⟨by rfl, ?_⟩) ?_ ?_
                     rotate_left
                     ·intro w'
                      go_simp
                      with_reducible rfl
                     rotate_left
                     ·simp only [Act.put, la_, lz_, ls_, i64_w, i32_w]
                      rfl
                     refine pure_ (i := 3) (N := some 76) (v := ?_) (a' := ?_) #[T',T',T',T',F',F',F',F',F',F',F',F',F',F',F',F',F',F',F',F',F',F',F',F',F',F',F',F',F',F',F',F',F',F',F',F',F',F'] rfl rfl (any_of HT_.out (by kernel_rfl)) (fun _ _ _ h => h) (Or.inl ⟨by rfl, ?_⟩) ?_ ?_
                     rotate_left
                     ·intro w'
                      go_simp
                      with_reducible rfl
                     rotate_left
                     ·simp only [Act.put, la_, lz_, ls_, i64_w, i32_w]
                      rfl
                     refine pure_ (i := 4) (N := some 77) (v := ?_) (a' := ?_) #[T',T',T',T',T',F',F',F',F',F',F',F',F',F',F',F',F',F',F',F',F',F',F',F',F',F',F',F',F',F',F',F',F',F',F',F',F',F'] rfl rfl (any_of HT_.out (by kernel_rfl)) (fun _ _ _ h => h) (Or.inl ⟨by rfl, ?_⟩) ?_ ?_
                     rotate_left
                     ·intro w'
                      go_simp
                      with_reducible rfl
                     rotate_left
                     ·simp only [Act.put, la_, lz_, ls_, i64_w, i32_w]
                      rfl
                     refine pure_ (i := 5) (N := some 78) (v := undef) (a' := ?_) #[T',T',T',T',T',T',F',F',F',F',F',F',F',F',F',F',F',F',F',F',F',F',F',F',F',F',F',F',F',F',F',F',F',F',F',F',F',F'] rfl rfl (any_of HT_.out (by kernel_rfl)) (fun _ _ _ h => h) (Or.inr ⟨by rfl, rfl⟩) ?_ ?_
                     rotate_left
                     ·simp only [Act.put, la_, lz_, ls_, i64_w, i32_w]
                      rfl
                     refine pure_ (i := 6) (N := some 79) (v := undef) (a' := ?_) #[T',T',T',T',T',T',T',F',F',F',F',F',F',F',F',F',F',F',F',F',F',F',F',F',F',F',F',F',F',F',F',F',F',F',F',F',F',F'] rfl rfl (any_of HT_.out (by kernel_rfl)) (fun _ _ _ h => h) (Or.inr ⟨by rfl, rfl⟩) ?_ ?_
                     rotate_left
                     ·simp only [Act.put, la_, lz_, ls_, i64_w, i32_w]
                      rfl
                     refine pure_ (i := 7) (N := some 80) (v := undef) (a' := ?_) #[T',T',T',T',T',T',T',T',F',F',F',F',F',F',F',F',F',F',F',F',F',F',F',F',F',F',F',F',F',F',F',F',F',F',F',F',F',F'] rfl rfl (any_of HT_.out (by kernel_rfl)) (fun _ _ _ h => h) (Or.inr ⟨by rfl, rfl⟩) ?_ ?_
                     rotate_left
                     ·simp only [Act.put, la_, lz_, ls_, i64_w, i32_w]
                      rfl
                     refine pure_ (i := 8) (N := some 81) (v := undef) (a' := ?_) #[T',T',T',T',T',T',T',T',T',F',F',F',F',F',F',F',F',F',F',F',F',F',F',F',F',F',F',F',F',F',F',F',F',F',F',F',F',F'] rfl rfl (any_of HT_.out (by kernel_rfl)) (fun _ _ _ h => h) (Or.inr ⟨by rfl, rfl⟩) ?_ ?_
                     rotate_left
                     ·simp only [Act.put, la_, lz_, ls_, i64_w, i32_w]
                      rfl
                     refine pure_ (i := 9) (N := some 82) (v := undef) (a' := ?_) #[T',T',T',T',T',T',T',T',T',T',F',F',F',F',F',F',F',F',F',F',F',F',F',F',F',F',F',F',F',F',F',F',F',F',F',F',F',F'] rfl rfl (any_of HT_.out (by kernel_rfl)) (fun _ _ _ h => h) (Or.inr ⟨by rfl, rfl⟩) ?_ ?_
                     rotate_left
                     ·simp only [Act.put, la_, lz_, ls_, i64_w, i32_w]
                      rfl
                     refine pure_ (i := 10) (N := some 83) (v := undef) (a' := ?_) #[T',T',T',T',T',T',T',T',T',T',T',F',F',F',F',F',F',F',F',F',F',F',F',F',F',F',F',F',F',F',F',F',F',F',F',F',F',F'] rfl rfl (any_of HT_.out (by kernel_rfl)) (fun _ _ _ h => h) (Or.inr ⟨by rfl, rfl⟩) ?_ ?_
                     rotate_left
                     ·simp only [Act.put, la_, lz_, ls_, i64_w, i32_w]
                      rfl
                     refine pure_ (i := 11) (N := some 84) (v := undef) (a' := ?_) #[T',T',T',T',T',T',T',T',T',T',T',T',F',F',F',F',F',F',F',F',F',F',F',F',F',F',F',F',F',F',F',F',F',F',F',F',F',F'] rfl rfl (any_of HT_.out (by kernel_rfl)) (fun _ _ _ h => h) (Or.inr ⟨by rfl, rfl⟩) ?_ ?_
                     rotate_left
                     ·simp only [Act.put, la_, lz_, ls_, i64_w, i32_w]
                      rfl
                     refine pure_ (i := 12) (N := some 85) (v := undef) (a' := ?_) #[T',T',T',T',T',T',T',T',T',T',T',T',T',F',F',F',F',F',F',F',F',F',F',F',F',F',F',F',F',F',F',F',F',F',F',F',F',F'] rfl rfl (any_of HT_.out (by kernel_rfl)) (fun _ _ _ h => h) (Or.inr ⟨by rfl, rfl⟩) ?_ ?_
                     rotate_left
                     ·simp only [Act.put, la_, lz_, ls_, i64_w, i32_w]
                      rfl
                     refine pure_ (i := 13) (N := some 86) (v := undef) (a' := ?_) #[T',T',T',T',T',T',T',T',T',T',T',T',T',T',F',F',F',F',F',F',F',F',F',F',F',F',F',F',F',F',F',F',F',F',F',F',F',F'] rfl rfl (any_of HT_.out (by kernel_rfl)) (fun _ _ _ h => h) (Or.inr ⟨by rfl, rfl⟩) ?_ ?_
                     rotate_left
                     ·simp only [Act.put, la_, lz_, ls_, i64_w, i32_w]
                      rfl
                     refine pure_ (i := 14) (N := some 87) (v := undef) (a' := ?_) #[T',T',T',T',T',T',T',T',T',T',T',T',T',T',T',F',F',F',F',F',F',F',F',F',F',F',F',F',F',F',F',F',F',F',F',F',F',F'] rfl rfl (any_of HT_.out (by kernel_rfl)) (fun _ _ _ h => h) (Or.inr ⟨by rfl, rfl⟩) ?_ ?_
                     rotate_left
                     ·simp only [Act.put, la_, lz_, ls_, i64_w, i32_w]
                      rfl
                     refine pure_ (i := 15) (N := some 88) (v := undef) (a' := ?_) #[T',T',T',T',T',T',T',T',T',T',T',T',T',T',T',T',F',F',F',F',F',F',F',F',F',F',F',F',F',F',F',F',F',F',F',F',F',F'] rfl rfl (any_of HT_.out (by kernel_rfl)) (fun _ _ _ h => h) (Or.inr ⟨by rfl, rfl⟩) ?_ ?_
                     rotate_left
                     ·simp only [Act.put, la_, lz_, ls_, i64_w, i32_w]
                      rfl
                     refine pure_ (i := 16) (N := some 89) (v := undef) (a' := ?_) #[T',T',T',T',T',T',T',T',T',T',T',T',T',T',T',T',T',F',F',F',F',F',F',F',F',F',F',F',F',F',F',F',F',F',F',F',F',F'] rfl rfl (any_of HT_.out (by kernel_rfl)) (fun _ _ _ h => h) (Or.inr ⟨by rfl, rfl⟩) ?_ ?_
                     rotate_left
                     ·simp only [Act.put, la_, lz_, ls_, i64_w, i32_w]
                      rfl
                     refine pure_ (i := 17) (N := some 90) (v := undef) (a' := ?_) #[T',T',T',T',T',T',T',T',T',T',T',T',T',T',T',T',T',T',F',F',F',F',F',F',F',F',F',F',F',F',F',F',F',F',F',F',F',F'] rfl rfl (any_of HT_.out (by kernel_rfl)) (fun _ _ _ h => h) (Or.inr ⟨by rfl, rfl⟩) ?_ ?_
                     rotate_left
                     ·simp only [Act.put, la_, lz_, ls_, i64_w, i32_w]
                      rfl
                     refine pure_ (i := 18) (N := some 91) (v := undef) (a' := ?_) #[T',T',T',T',T',T',T',T',T',T',T',T',T',T',T',T',T',T',T',F',F',F',F',F',F',F',F',F',F',F',F',F',F',F',F',F',F',F'] rfl rfl (any_of HT_.out (by kernel_rfl)) (fun _ _ _ h => h) (Or.inr ⟨by rfl, rfl⟩) ?_ ?_
                     rotate_left
                     ·simp only [Act.put, la_, lz_, ls_, i64_w, i32_w]
                      rfl
                     refine pure_ (i := 19) (N := some 92) (v := undef) (a' := ?_) #[T',T',T',T',T',T',T',T',T',T',T',T',T',T',T',T',T',T',T',T',F',F',F',F',F',F',F',F',F',F',F',F',F',F',F',F',F',F'] rfl rfl (any_of HT_.out (by kernel_rfl)) (fun _ _ _ h => h) (Or.inr ⟨by rfl, rfl⟩) ?_ ?_
                     rotate_left
                     ·simp only [Act.put, la_, lz_, ls_, i64_w, i32_w]
                      rfl
                     refine pure_ (i := 20) (N := some 93) (v := undef) (a' := ?_) #[T',T',T',T',T',T',T',T',T',T',T',T',T',T',T',T',T',T',T',T',T',F',F',F',F',F',F',F',F',F',F',F',F',F',F',F',F',F'] rfl rfl (any_of HT_.out (by kernel_rfl)) (fun _ _ _ h => h) (Or.inr ⟨by rfl, rfl⟩) ?_ ?_
                     rotate_left
                     ·simp only [Act.put, la_, lz_, ls_, i64_w, i32_w]
                      rfl
                     refine pure_ (i := 21) (N := some 94) (v := undef) (a' := ?_) #[T',T',T',T',T',T',T',T',T',T',T',T',T',T',T',T',T',T',T',T',T',T',F',F',F',F',F',F',F',F',F',F',F',F',F',F',F',F'] rfl rfl (any_of HT_.out (by kernel_rfl)) (fun _ _ _ h => h) (Or.inr ⟨by rfl, rfl⟩) ?_ ?_
                     rotate_left
                     ·simp only [Act.put, la_, lz_, ls_, i64_w, i32_w]
                      rfl
                     refine pure_ (i := 22) (N := some 95) (v := undef) (a' := ?_) #[T',T',T',T',T',T',T',T',T',T',T',T',T',T',T',T',T',T',T',T',T',T',T',F',F',F',F',F',F',F',F',F',F',F',F',F',F',F'] rfl rfl (any_of HT_.out (by kernel_rfl)) (fun _ _ _ h => h) (Or.inr ⟨by rfl, rfl⟩) ?_ ?_
                     rotate_left
                     ·simp only [Act.put, la_, lz_, ls_, i64_w, i32_w]
                      rfl
                     refine pure_ (i := 23) (N := some 96) (v := undef) (a' := ?_) #[T',T',T',T',T',T',T',T',T',T',T',T',T',T',T',T',T',T',T',T',T',T',T',T',F',F',F',F',F',F',F',F',F',F',F',F',F',F'] rfl rfl (any_of HT_.out (by kernel_rfl)) (fun _ _ _ h => h) (Or.inr ⟨by rfl, rfl⟩) ?_ ?_
                     rotate_left
                     ·simp only [Act.put, la_, lz_, ls_, i64_w, i32_w]
                      rfl
                     refine pure_ (i := 24) (N := some 97) (v := undef) (a' := ?_) #[T',T',T',T',T',T',T',T',T',T',T',T',T',T',T',T',T',T',T',T',T',T',T',T',T',F',F',F',F',F',F',F',F',F',F',F',F',F'] rfl rfl (any_of HT_.out (by kernel_rfl)) (fun _ _ _ h => h) (Or.inr ⟨by rfl, rfl⟩) ?_ ?_
                     rotate_left
                     ·simp only [Act.put, la_, lz_, ls_, i64_w, i32_w]
                      rfl
                     refine pure_ (i := 25) (N := some 98) (v := undef) (a' := ?_) #[T',T',T',T',T',T',T',T',T',T',T',T',T',T',T',T',T',T',T',T',T',T',T',T',T',T',F',F',F',F',F',F',F',F',F',F',F',F'] rfl rfl (any_of HT_.out (by kernel_rfl)) (fun _ _ _ h => h) (Or.inr ⟨by rfl, rfl⟩) ?_ ?_
                     rotate_left
                     ·simp only [Act.put, la_, lz_, ls_, i64_w, i32_w]
                      rfl
                     refine pure_ (i := 26) (N := some 99) (v := undef) (a' := ?_) #[T',T',T',T',T',T',T',T',T',T',T',T',T',T',T',T',T',T',T',T',T',T',T',T',T',T',T',F',F',F',F',F',F',F',F',F',F',F'] rfl rfl (any_of HT_.out (by kernel_rfl)) (fun _ _ _ h => h) (Or.inr ⟨by rfl, rfl⟩) ?_ ?_
                     rotate_left
                     ·simp only [Act.put, la_, lz_, ls_, i64_w, i32_w]
                      rfl
                     refine pure_ (i := 27) (N := some 100) (v := undef) (a' := ?_) #[T',T',T',T',T',T',T',T',T',T',T',T',T',T',T',T',T',T',T',T',T',T',T',T',T',T',T',T',F',F',F',F',F',F',F',F',F',F'] rfl rfl (any_of HT_.out (by kernel_rfl)) (fun _ _ _ h => h) (Or.inr ⟨by rfl, rfl⟩) ?_ ?_
                     rotate_left
                     ·simp only [Act.put, la_, lz_, ls_, i64_w, i32_w]
                      rfl
                     refine pure_ (i := 28) (N := some 101) (v := undef) (a' := ?_) #[T',T',T',T',T',T',T',T',T',T',T',T',T',T',T',T',T',T',T',T',T',T',T',T',T',T',T',T',T',F',F',F',F',F',F',F',F',F'] rfl rfl (any_of HT_.out (by kernel_rfl)) (fun _ _ _ h => h) (Or.inr ⟨by rfl, rfl⟩) ?_ ?_
                     rotate_left
                     ·simp only [Act.put, la_, lz_, ls_, i64_w, i32_w]
                      rfl
                     refine pure_ (i := 29) (N := some 102) (v := undef) (a' := ?_) #[T',T',T',T',T',T',T',T',T',T',T',T',T',T',T',T',T',T',T',T',T',T',T',T',T',T',T',T',T',T',F',F',F',F',F',F',F',F'] rfl rfl (any_of HT_.out (by kernel_rfl)) (fun _ _ _ h => h) (Or.inr ⟨by rfl, rfl⟩) ?_ ?_
                     rotate_left
                     ·simp only [Act.put, la_, lz_, ls_, i64_w, i32_w]
                      rfl
                     refine pure_ (i := 30) (N := some 103) (v := undef) (a' := ?_) #[T',T',T',T',T',T',T',T',T',T',T',T',T',T',T',T',T',T',T',T',T',T',T',T',T',T',T',T',T',T',T',F',F',F',F',F',F',F'] rfl rfl (any_of HT_.out (by kernel_rfl)) (fun _ _ _ h => h) (Or.inr ⟨by rfl, rfl⟩) ?_ ?_
                     rotate_left
                     ·simp only [Act.put, la_, lz_, ls_, i64_w, i32_w]
                      rfl
                     refine pure_ (i := 31) (N := some 104) (v := undef) (a' := ?_) #[T',T',T',T',T',T',T',T',T',T',T',T',T',T',T',T',T',T',T',T',T',T',T',T',T',T',T',T',T',T',T',T',F',F',F',F',F',F'] rfl rfl (any_of HT_.out (by kernel_rfl)) (fun _ _ _ h => h) (Or.inr ⟨by rfl, rfl⟩) ?_ ?_
                     rotate_left
                     ·simp only [Act.put, la_, lz_, ls_, i64_w, i32_w]
                      rfl
                     refine pure_ (i := 32) (N := some 105) (v := undef) (a' := ?_) #[T',T',T',T',T',T',T',T',T',T',T',T',T',T',T',T',T',T',T',T',T',T',T',T',T',T',T',T',T',T',T',T',T',F',F',F',F',F'] rfl rfl (any_of HT_.out (by kernel_rfl)) (fun _ _ _ h => h) (Or.inr ⟨by rfl, rfl⟩) ?_ ?_
                     rotate_left
                     ·simp only [Act.put, la_, lz_, ls_, i64_w, i32_w]
                      rfl
                     refine pure_ (i := 33) (N := some 106) (v := undef) (a' := ?_) #[T',T',T',T',T',T',T',T',T',T',T',T',T',T',T',T',T',T',T',T',T',T',T',T',T',T',T',T',T',T',T',T',T',T',F',F',F',F'] rfl rfl (any_of HT_.out (by kernel_rfl)) (fun _ _ _ h => h) (Or.inr ⟨by rfl, rfl⟩) ?_ ?_
                     rotate_left
                     ·simp only [Act.put, la_, lz_, ls_, i64_w, i32_w]
                      rfl
                     refine pure_ (i := 34) (N := some 107) (v := undef) (a' := ?_) #[T',T',T',T',T',T',T',T',T',T',T',T',T',T',T',T',T',T',T',T',T',T',T',T',T',T',T',T',T',T',T',T',T',T',T',F',F',F'] rfl rfl (any_of HT_.out (by kernel_rfl)) (fun _ _ _ h => h) (Or.inr ⟨by rfl, rfl⟩) ?_ ?_
                     rotate_left
                     ·simp only [Act.put, la_, lz_, ls_, i64_w, i32_w]
                      rfl
                     refine pure_ (i := 35) (N := some 108) (v := undef) (a' := ?_) #[T',T',T',T',T',T',T',T',T',T',T',T',T',T',T',T',T',T',T',T',T',T',T',T',T',T',T',T',T',T',T',T',T',T',T',T',F',F'] rfl rfl (any_of HT_.out (by kernel_rfl)) (fun _ _ _ h => h) (Or.inr ⟨by rfl, rfl⟩) ?_ ?_
                     rotate_left
                     ·simp only [Act.put, la_, lz_, ls_, i64_w, i32_w]
                      rfl
                     refine pure_ (i := 36) (N := some 109) (v := undef) (a' := ?_) #[T',T',T',T',T',T',T',T',T',T',T',T',T',T',T',T',T',T',T',T',T',T',T',T',T',T',T',T',T',T',T',T',T',T',T',T',T',F'] rfl rfl (any_of HT_.out (by kernel_rfl)) (fun _ _ _ h => h) (Or.inr ⟨by rfl, rfl⟩) ?_ ?_
                     rotate_left
                     ·simp only [Act.put, la_, lz_, ls_, i64_w, i32_w]
                      rfl
                     refine pure_ (i := 37) (N := some 110) (v := ?_) (a' := ?_) #[T',T',T',T',T',T',T',T',T',T',T',T',T',T',T',T',T',T',T',T',T',T',T',T',T',T',T',T',T',T',T',T',T',T',T',T',T',T'] rfl rfl (any_of HT_.out (by kernel_rfl)) (fun _ _ _ h => h) (Or.inl ⟨by rfl, ?_⟩) ?_ ?_
                     rotate_left
                     ·intro w'
                      go_simp
                      with_reducible rfl
                     rotate_left
                     ·simp only [Act.put, la_, lz_, ls_, i64_w, i32_w]
                      rfl
                     refine done_ (done_of HT_.out (by kernel_rfl)) ?_
                     try go_wp2_with (first | ((with_reducible refine gate_dst (N := 113) rfl ?_); refine Kd.R_lit k26 _ 26 ?hg (N := 113) ?hd (xs := ([] : List (S26))) (inner := []) (ok := fun _ => True) (okp := fun _ => True) ?hr ?hp (fun _ hk => hk) trivial (Below.refl _ _) (Nat.le_refl _) (by simp) ?_; (case hd => rfl); (case hg => rfl); (case hr => first | (go_simp; done) | (go_simp; rfl)); (case hp => exact (Reps.none _ _)); intro v279 w95 ho96 hb hg_ hnew_; clear hg_ hnew_; (first | rw [← Ny278.out] at ho96 | (simp only [Int.reduceToNat] at ho96; rw [← Ny278.out] at ho96)); have n0_ := Aside0.mk (Kd.R_elder' (by (with_reducible repeat (first | apply Kd.R_alloc | apply Kd.R_drewN | apply Kd.R_drew)); exact HO_11.out) (Kd.R_base ho96) hb); have n1_ := Aside0.mk (Kd.R_elder' (by (with_reducible repeat (first | apply Kd.R_alloc | apply Kd.R_drewN | apply Kd.R_drew)); exact HO_13.out) (Kd.R_base ho96) hb); have n2_ := Aside0.mk (Kd.R_elder' (by (with_reducible repeat (first | apply Kd.R_alloc | apply Kd.R_drewN | apply Kd.R_drew)); exact HO_14.out) (Kd.R_base ho96) hb); have n3_ := Aside0.mk (Kd.R_lower (Kd.R_newB (Kd.R_newB (Kd.R_new' (Kd.R_new' (Kd.R_new' ho96 (Kd.R_lt (by (with_reducible repeat (first | apply Kd.R_alloc | apply Kd.R_drewN | apply Kd.R_drew)); exact HO_11.out))) (Kd.R_lt (by (with_reducible repeat (first | apply Kd.R_alloc | apply Kd.R_drewN | apply Kd.R_drew)); exact HO_13.out))) (Kd.R_lt (by (with_reducible repeat (first | apply Kd.R_alloc | apply Kd.R_drewN | apply Kd.R_drew)); exact HO_14.out))) (g := gb217) (o := .cells #[.int .u64 a0_0, .int .u16 a0_1] 26 (0, 0)) (by (with_reducible repeat (first | refine blk_drewN ?_ _ | refine blk_drew ?_ | refine blk_alloc ?_ _)); exact BK217.out)) (g := gb226) (o := .cells #[.int .u64 ((rd_T26 x11_1 x15_2).f0), .int .u16 ((rd_T26 x11_1 x15_2).f1)] 26 (0, 0)) (by (with_reducible repeat (first | refine blk_drewN ?_ _ | refine blk_drew ?_ | refine blk_alloc ?_ _)); exact BK226.out)) (below_size (by repeat (first | (with_reducible first | exact HB.out | apply below_alloc | apply pw_below_drewN | apply below_drew1 | refine below_set ?_ GE217.out | refine below_set ?_ GE226.out) | exact HB.out)))); have n4_ := Aside0.mk (blk_below (g := gb217) (o := .cells #[.int .u64 a0_0, .int .u16 a0_1] 26 (0, 0)) (by (with_reducible repeat (first | refine blk_drewN ?_ _ | refine blk_drew ?_ | refine blk_alloc ?_ _)); exact BK217.out) hb); have n5_ := Aside0.mk (blk_below (g := gb226) (o := .cells #[.int .u64 ((rd_T26 x11_1 x15_2).f0), .int .u16 ((rd_T26 x11_1 x15_2).f1)] 26 (0, 0)) (by (with_reducible repeat (first | refine blk_drewN ?_ _ | refine blk_drew ?_ | refine blk_alloc ?_ _)); exact BK226.out) hb); have n6_ := Aside0.mk (below_step (by repeat (first | (with_reducible first | exact HB.out | apply below_alloc | apply pw_below_drewN | apply below_drew1 | refine below_set ?_ GE217.out | refine below_set ?_ GE226.out) | exact HB.out)) hb); clear HO_11; clear HO_13; clear HO_14; clear BK217; clear BK226; clear HB; have HO_11 := n0_; have HO_13 := n1_; have HO_14 := n2_; have HO280 := n3_; have BK217 := n4_; have BK226 := n5_; have HB := n6_; clear n0_ n1_ n2_ n3_ n4_ n5_ n6_; clear hb ho96; have q97 : (x17_4 : Int) ≤ ((x14_2.length : Int) : Int) := of_decide_eq_true (by first | (with_reducible assumption) | assumption); obtain ⟨i097, hi097, _, hsz97, _⟩ := info_parts info26; have hroom97 : x14_2.length ≤ co94 := (Kd.R_reads' HO_14.out).2.1; have hC97 : Kd.C k26 _ Ao94 x14_2.length x14_2 := (Kd.R_reads' HO_14.out).2.2; have hcut97 := cut_to (P := Try.prog) 36 26 .i64 Try.underlying36 hi097 Ao94 x14_2.length co94 x17_4 (of_decide_eq_true (by first | (with_reducible assumption) | assumption)) q97 hroom97; have hr97 := Kd.C_take (m := (x17_4 : Int).toNat) hC97 (by omega); have hy97 : y281.length = (x17_4 : Int).toNat := (by rw [Ny281.out, List.length_take]; omega); rw [← Ny281.out] at hr97; rw [← hy97] at hcut97; have HR284 := Aside0.mk hr97; have HC284 := Aside0.mk (show y281.length ≤ co94 from by omega); clear hr97 hC97 hroom97 hi097 hsz97; have KY97 := Aside0.mk hy97; clear hy97; have KL97 := Aside0.mk (show (x17_4 : Int).toNat ≤ x14_2.length from by omega); replace q97 := eq_true q97) | ((with_reducible refine gate_builtin (b := .append) (xs := #[.tmp 113, .tmp 116]) rfl ?_); at_builtin; refine Kd.R_append_rows k26 (w0 := w) w.heap.size rfl (.tmp 113) (.tmp 116) 36 26 (.agg #[(.int .u64 0), (.int .u16 0)]) 16 rfl Try.underlying36 info26 rfl (by decide) (by omega) v279 y278 y281 _ _ _ (fun k_ => some k_ ≠ (.slice (some ad225) x11_1.length co16 : Value).ownBlock ∧ some k_ ≠ (v229 : Value).ownBlock ∧ some k_ ≠ (.slice Ao94 x14_2.length co94 : Value).ownBlock ∧ k_ ≠ gb217 ∧ k_ ≠ gb226) (fun _ => False) rfl rfl ?aO ?aR (fun _ _ h => h) (fun _ h => h.elim) ?aF ?aB ?aS ?aL ?_; (case aR => repeat (first | exact (by repeat (first | (with_reducible exact HR284.out) | (with_reducible refine Kd.C_alloc ?_ _) | (with_reducible refine Kd.C_drewN ?_ _) | (with_reducible refine Kd.C_drew ?_) | exact HR284.out)) | (with_reducible refine Kd.C_alloc ?_ _) | (with_reducible refine Kd.C_drewN ?_ _) | (with_reducible refine Kd.C_drew ?_))); (case aB => exact (by repeat (first | (with_reducible first | exact HB.out | apply below_alloc | apply pw_below_drewN | apply below_drew1 | refine below_set ?_ GE217.out | refine below_set ?_ GE226.out) | exact HB.out))); (case aF => exact (fun k_ hk => ⟨Kd.fresh' (Kd.R_lt (by (with_reducible repeat (first | apply Kd.R_alloc | apply Kd.R_drewN | apply Kd.R_drew)); exact HO_11.out)) k_ hk, Kd.fresh' (Kd.R_lt (by (with_reducible repeat (first | apply Kd.R_alloc | apply Kd.R_drewN | apply Kd.R_drew)); exact HO_13.out)) k_ hk, Kd.fresh' (Kd.R_lt (by (with_reducible repeat (first | apply Kd.R_alloc | apply Kd.R_drewN | apply Kd.R_drew)); exact HO_14.out)) k_ hk, Kd.freshB (g := gb217) (o := .cells #[.int .u64 a0_0, .int .u16 a0_1] 26 (0, 0)) (by (with_reducible repeat (first | refine blk_drewN ?_ _ | refine blk_drew ?_ | refine blk_alloc ?_ _)); exact BK217.out) k_ hk, Kd.freshB (g := gb226) (o := .cells #[.int .u64 ((rd_T26 x11_1 x15_2).f0), .int .u16 ((rd_T26 x11_1 x15_2).f1)] 26 (0, 0)) (by (with_reducible repeat (first | refine blk_drewN ?_ _ | refine blk_drew ?_ | refine blk_alloc ?_ _)); exact BK226.out) k_ hk⟩)); (case aO => exact (by (with_reducible repeat (first | apply Kd.R_alloc | apply Kd.R_drewN | apply Kd.R_drew)); exact Kd.R_mono HO280.out (fun _ hk => ⟨hk.1.1.1.1.2, ⟨hk.1.1.1.2, ⟨hk.1.1.2, ⟨hk.1.2, hk.2⟩⟩⟩⟩))); (case aS => exact (below_size (by repeat (first | (with_reducible first | exact HB.out | apply below_alloc | apply pw_below_drewN | apply below_drew1 | refine below_set ?_ GE217.out | refine below_set ?_ GE226.out) | exact HB.out)))); (case aL => have := LMc88.out; omega); intro v286 w98 ho hb hg hat; rw [← Ny285.out] at ho; have n0_ := Aside0.mk (Kd.R_after (ok := (fun k_ => some k_ ≠ (v229 : Value).ownBlock ∧ some k_ ≠ (.slice Ao94 x14_2.length co94 : Value).ownBlock ∧ k_ ≠ gb217 ∧ k_ ≠ gb226)) (by (with_reducible repeat (first | apply Kd.R_alloc | apply Kd.R_drewN | apply Kd.R_drew)); exact HO_11.out) hg hat); have n1_ := Aside0.mk (Kd.R_after (ok := (fun k_ => some k_ ≠ (.slice (some ad225) x11_1.length co16 : Value).ownBlock ∧ some k_ ≠ (.slice Ao94 x14_2.length co94 : Value).ownBlock ∧ k_ ≠ gb217 ∧ k_ ≠ gb226)) (by (with_reducible repeat (first | apply Kd.R_alloc | apply Kd.R_drewN | apply Kd.R_drew)); exact HO_13.out) hg hat); have n2_ := Aside0.mk (Kd.R_after (ok := (fun k_ => some k_ ≠ (.slice (some ad225) x11_1.length co16 : Value).ownBlock ∧ some k_ ≠ (v229 : Value).ownBlock ∧ k_ ≠ gb217 ∧ k_ ≠ gb226)) (by (with_reducible repeat (first | apply Kd.R_alloc | apply Kd.R_drewN | apply Kd.R_drew)); exact HO_14.out) hg hat); have n3_ := Aside0.mk (blk_grown (g := gb217) (o := .cells #[.int .u64 a0_0, .int .u16 a0_1] 26 (0, 0)) (by (with_reducible repeat (first | refine blk_drewN ?_ _ | refine blk_drew ?_ | refine blk_alloc ?_ _)); exact BK217.out) hg (Kd.R_away HO280.out (fun _ hk => hk.1.2))); have n4_ := Aside0.mk (blk_grown (g := gb226) (o := .cells #[.int .u64 ((rd_T26 x11_1 x15_2).f0), .int .u16 ((rd_T26 x11_1 x15_2).f1)] 26 (0, 0)) (by (with_reducible repeat (first | refine blk_drewN ?_ _ | refine blk_drew ?_ | refine blk_alloc ?_ _)); exact BK226.out) hg (Kd.R_away HO280.out (fun _ hk => hk.2))); have n5_ := Aside0.mk (hb); have n6_ := Aside0.mk ((show Kd.C k26 w98 Ao94 y281.length y281 from by rw [Ny281.out]; exact Kd.C_take (m := (x17_4 : Int).toNat) ((Kd.R_reads' (Kd.R_after (ok := (fun k_ => some k_ ≠ (.slice (some ad225) x11_1.length co16 : Value).ownBlock ∧ some k_ ≠ (v229 : Value).ownBlock ∧ k_ ≠ gb217 ∧ k_ ≠ gb226)) (by (with_reducible repeat (first | apply Kd.R_alloc | apply Kd.R_drewN | apply Kd.R_drew)); exact HO_14.out) hg hat)).2.2) KL97.out)); have n7_ := Aside0.mk (ho); clear HO_11; clear HO_13; clear HO_14; clear BK217; clear BK226; clear HB; clear HR284; clear HO280; have HO_11 := n0_; have HO_13 := n1_; have HO_14 := n2_; have BK217 := n3_; have BK226 := n4_; have HB := n5_; have HR284 := n6_; have HO287 := n7_; clear n0_ n1_ n2_ n3_ n4_ n5_ n6_ n7_; clear ho hb hg hat; have hnb99 := NB226_217.out; have hnc99 := NB217_226.out; obtain ⟨hcz100_0, hcz100_1, hfz100_0, hfz100_1⟩ := box2f (w := w98) (g := gb226) BK226.out) | ((with_reducible refine gate_builtin (b := .append) (xs := #[.tmp 118, .tmp 120]) rfl ?_); at_builtin; refine Kd.R_append k26 (w0 := w) w.heap.size rfl (.tmp 118) (.tmp 120) 36 26 (.agg #[(.int .u64 0), (.int .u16 0)]) 16 rfl Try.underlying36 info26 rfl (by decide) (by omega) v286 y285 (⟨((rd_T26 x11_1 x15_2).f0), ((rd_T26 x11_1 x15_2).f1)⟩ : S26) [.int .u64 ((rd_T26 x11_1 x15_2).f0), .int .u16 ((rd_T26 x11_1 x15_2).f1)] (fun k_ => some k_ ≠ (.slice (some ad225) x11_1.length co16 : Value).ownBlock ∧ some k_ ≠ (v229 : Value).ownBlock ∧ some k_ ≠ (.slice Ao94 x14_2.length co94 : Value).ownBlock ∧ k_ ≠ gb217 ∧ k_ ≠ gb226) (fun _ => False) rfl rfl ?aP (fun _ hk => hk.elim) ?aF ?aO ?aB ?aS ?aL ?_; (case aP => exact k26_mkM _ _ _ (⟨((rd_T26 x11_1 x15_2).f0), ((rd_T26 x11_1 x15_2).f1)⟩ : S26)); (case aB => exact (by repeat (first | (with_reducible first | exact HB.out | apply below_alloc | apply pw_below_drewN | apply below_drew1 | refine below_set ?_ GE217.out | refine below_set ?_ GE226.out) | exact HB.out))); (case aF => exact (fun k_ hk => ⟨Kd.fresh' (Kd.R_lt (by (with_reducible repeat (first | apply Kd.R_alloc | apply Kd.R_drewN | apply Kd.R_drew)); exact HO_11.out)) k_ hk, Kd.fresh' (Kd.R_lt (by (with_reducible repeat (first | apply Kd.R_alloc | apply Kd.R_drewN | apply Kd.R_drew)); exact HO_13.out)) k_ hk, Kd.fresh' (Kd.R_lt (by (with_reducible repeat (first | apply Kd.R_alloc | apply Kd.R_drewN | apply Kd.R_drew)); exact HO_14.out)) k_ hk, Kd.freshB (g := gb217) (o := .cells #[.int .u64 a0_0, .int .u16 a0_1] 26 (0, 0)) (by (with_reducible repeat (first | refine blk_drewN ?_ _ | refine blk_drew ?_ | refine blk_alloc ?_ _)); exact BK217.out) k_ hk, Kd.freshB (g := gb226) (o := .cells #[.int .u64 ((rd_T26 x11_1 x15_2).f0), .int .u16 ((rd_T26 x11_1 x15_2).f1)] 26 (0, 0)) (by (with_reducible repeat (first | refine blk_drewN ?_ _ | refine blk_drew ?_ | refine blk_alloc ?_ _)); exact BK226.out) k_ hk⟩)); (case aO => exact (by (with_reducible repeat (first | apply Kd.R_alloc | apply Kd.R_drewN | apply Kd.R_drew)); exact HO287.out)); (case aS => exact (below_size (by repeat (first | (with_reducible first | exact HB.out | apply below_alloc | apply pw_below_drewN | apply below_drew1 | refine below_set ?_ GE217.out | refine below_set ?_ GE226.out) | exact HB.out)))); (case aL => have := LMc89.out; omega); intro v289 w101 ho hb hg hat; rw [← Ny288.out] at ho; have n0_ := Aside0.mk (Kd.R_after (ok := (fun k_ => some k_ ≠ (v229 : Value).ownBlock ∧ some k_ ≠ (.slice Ao94 x14_2.length co94 : Value).ownBlock ∧ k_ ≠ gb217 ∧ k_ ≠ gb226)) (by (with_reducible repeat (first | apply Kd.R_alloc | apply Kd.R_drewN | apply Kd.R_drew)); exact HO_11.out) hg hat); have n1_ := Aside0.mk (Kd.R_after (ok := (fun k_ => some k_ ≠ (.slice (some ad225) x11_1.length co16 : Value).ownBlock ∧ some k_ ≠ (.slice Ao94 x14_2.length co94 : Value).ownBlock ∧ k_ ≠ gb217 ∧ k_ ≠ gb226)) (by (with_reducible repeat (first | apply Kd.R_alloc | apply Kd.R_drewN | apply Kd.R_drew)); exact HO_13.out) hg hat); have n2_ := Aside0.mk (Kd.R_after (ok := (fun k_ => some k_ ≠ (.slice (some ad225) x11_1.length co16 : Value).ownBlock ∧ some k_ ≠ (v229 : Value).ownBlock ∧ k_ ≠ gb217 ∧ k_ ≠ gb226)) (by (with_reducible repeat (first | apply Kd.R_alloc | apply Kd.R_drewN | apply Kd.R_drew)); exact HO_14.out) hg hat); have n3_ := Aside0.mk (blk_grown (g := gb217) (o := .cells #[.int .u64 a0_0, .int .u16 a0_1] 26 (0, 0)) (by (with_reducible repeat (first | refine blk_drewN ?_ _ | refine blk_drew ?_ | refine blk_alloc ?_ _)); exact BK217.out) hg (Kd.R_away HO287.out (fun _ hk => hk.2.2.2.1))); have n4_ := Aside0.mk (blk_grown (g := gb226) (o := .cells #[.int .u64 ((rd_T26 x11_1 x15_2).f0), .int .u16 ((rd_T26 x11_1 x15_2).f1)] 26 (0, 0)) (by (with_reducible repeat (first | refine blk_drewN ?_ _ | refine blk_drew ?_ | refine blk_alloc ?_ _)); exact BK226.out) hg (Kd.R_away HO287.out (fun _ hk => hk.2.2.2.2))); have n5_ := Aside0.mk (hb); have n6_ := Aside0.mk ((show Kd.C k26 w101 Ao94 y281.length y281 from by rw [Ny281.out]; exact Kd.C_take (m := (x17_4 : Int).toNat) ((Kd.R_reads' (Kd.R_after (ok := (fun k_ => some k_ ≠ (.slice (some ad225) x11_1.length co16 : Value).ownBlock ∧ some k_ ≠ (v229 : Value).ownBlock ∧ k_ ≠ gb217 ∧ k_ ≠ gb226)) (by (with_reducible repeat (first | apply Kd.R_alloc | apply Kd.R_drewN | apply Kd.R_drew)); exact HO_14.out) hg hat)).2.2) KL97.out)); have n7_ := Aside0.mk (ho); clear HO_11; clear HO_13; clear HO_14; clear BK217; clear BK226; clear HB; clear HR284; clear HO287; have HO_11 := n0_; have HO_13 := n1_; have HO_14 := n2_; have BK217 := n3_; have BK226 := n4_; have HB := n5_; have HR284 := n6_; have HO290 := n7_; clear n0_ n1_ n2_ n3_ n4_ n5_ n6_ n7_; clear ho hb hg hat; have q102 : (x17_4 : Int) ≤ ((x14_2.length : Int) : Int) := of_decide_eq_true (by first | (with_reducible assumption) | assumption); obtain ⟨i0102, hi0102, _, hsz102, _⟩ := info_parts info26; have hroom102 : x14_2.length ≤ co94 := (Kd.R_reads' HO_14.out).2.1; have hC102 : Kd.C k26 _ Ao94 x14_2.length x14_2 := (Kd.R_reads' HO_14.out).2.2; have q0102 : (0 : Int) ≤ (x17_4 : Int) := of_decide_eq_true (by first | (with_reducible assumption) | assumption); have hcut102 := cut_from (P := Try.prog) 36 26 .i64 Try.underlying36 hi0102 2 hsz102 Ao94 x14_2.length co94 x17_4 q0102 q102; have hr102 := Kd.C_drop (m := (x17_4 : Int).toNat) (c := co94) hC102 (by omega) hroom102; obtain ⟨A102, hA102⟩ : ∃ A1, A1 = (if co94 = (x17_4 : Int).toNat then Ao94 else (Ao94 : Option Addr).map (·.add ((x17_4 : Int).toNat * 2))) := ⟨_, rfl⟩; obtain ⟨c102, hc102⟩ : ∃ c1, c1 = co94 - (x17_4 : Int).toNat := ⟨_, rfl⟩; have hy102 : y291.length = x14_2.length - (x17_4 : Int).toNat := (by rw [Ny291.out, List.length_drop] <;> omega); rw [show (x14_2).drop (x17_4 : Int).toNat = y291 from Ny291.out.symm] at hr102; replace hr102 : Kd.C k26 _ A102 y291.length y291 := (by rw [hA102]; exact hr102); rw [← hy102, ← hA102, ← hc102] at hcut102; have HR294 := Aside0.mk hr102; have HC294 := Aside0.mk (show y291.length ≤ c102 from by rw [hy102, hc102]; exact Nat.sub_le_sub_right hroom102 _); clear hr102 hC102 hroom102 hi0102 hsz102 hc102; have KY102 := Aside0.mk hy102; have KA102 := Aside0.mk hA102; clear hy102 hA102; have KL102 := Aside0.mk (show (x17_4 : Int).toNat ≤ x14_2.length from by omega); replace q102 := eq_true q102) | ((with_reducible refine gate_builtin (b := .append) (xs := #[.tmp 122, .tmp 125]) rfl ?_); at_builtin; refine Kd.R_append_rows k26 (w0 := w) w.heap.size rfl (.tmp 122) (.tmp 125) 36 26 (.agg #[(.int .u64 0), (.int .u16 0)]) 16 rfl Try.underlying36 info26 rfl (by decide) (by omega) v289 y288 y291 _ _ _ (fun k_ => some k_ ≠ (.slice (some ad225) x11_1.length co16 : Value).ownBlock ∧ some k_ ≠ (v229 : Value).ownBlock ∧ some k_ ≠ (.slice Ao94 x14_2.length co94 : Value).ownBlock ∧ k_ ≠ gb217 ∧ k_ ≠ gb226) (fun _ => False) rfl rfl ?aO ?aR (fun _ _ h => h) (fun _ h => h.elim) ?aF ?aB ?aS ?aL ?_; (case aR => repeat (first | exact (by repeat (first | (with_reducible exact HR294.out) | (with_reducible refine Kd.C_alloc ?_ _) | (with_reducible refine Kd.C_drewN ?_ _) | (with_reducible refine Kd.C_drew ?_) | exact HR294.out)) | (with_reducible refine Kd.C_alloc ?_ _) | (with_reducible refine Kd.C_drewN ?_ _) | (with_reducible refine Kd.C_drew ?_))); (case aB => exact (by repeat (first | (with_reducible first | exact HB.out | apply below_alloc | apply pw_below_drewN | apply below_drew1 | refine below_set ?_ GE217.out | refine below_set ?_ GE226.out) | exact HB.out))); (case aF => exact (fun k_ hk => ⟨Kd.fresh' (Kd.R_lt (by (with_reducible repeat (first | apply Kd.R_alloc | apply Kd.R_drewN | apply Kd.R_drew)); exact HO_11.out)) k_ hk, Kd.fresh' (Kd.R_lt (by (with_reducible repeat (first | apply Kd.R_alloc | apply Kd.R_drewN | apply Kd.R_drew)); exact HO_13.out)) k_ hk, Kd.fresh' (Kd.R_lt (by (with_reducible repeat (first | apply Kd.R_alloc | apply Kd.R_drewN | apply Kd.R_drew)); exact HO_14.out)) k_ hk, Kd.freshB (g := gb217) (o := .cells #[.int .u64 a0_0, .int .u16 a0_1] 26 (0, 0)) (by (with_reducible repeat (first | refine blk_drewN ?_ _ | refine blk_drew ?_ | refine blk_alloc ?_ _)); exact BK217.out) k_ hk, Kd.freshB (g := gb226) (o := .cells #[.int .u64 ((rd_T26 x11_1 x15_2).f0), .int .u16 ((rd_T26 x11_1 x15_2).f1)] 26 (0, 0)) (by (with_reducible repeat (first | refine blk_drewN ?_ _ | refine blk_drew ?_ | refine blk_alloc ?_ _)); exact BK226.out) k_ hk⟩)); (case aO => exact (by (with_reducible repeat (first | apply Kd.R_alloc | apply Kd.R_drewN | apply Kd.R_drew)); exact HO290.out)); (case aS => exact (below_size (by repeat (first | (with_reducible first | exact HB.out | apply below_alloc | apply pw_below_drewN | apply below_drew1 | refine below_set ?_ GE217.out | refine below_set ?_ GE226.out) | exact HB.out)))); (case aL => have := LMc92.out; omega); intro v296 w103 ho hb hg hat; rw [← Ny295.out] at ho; have n0_ := Aside0.mk (Kd.R_after (ok := (fun k_ => some k_ ≠ (v229 : Value).ownBlock ∧ some k_ ≠ (.slice Ao94 x14_2.length co94 : Value).ownBlock ∧ k_ ≠ gb217 ∧ k_ ≠ gb226)) (by (with_reducible repeat (first | apply Kd.R_alloc | apply Kd.R_drewN | apply Kd.R_drew)); exact HO_11.out) hg hat); have n1_ := Aside0.mk (Kd.R_after (ok := (fun k_ => some k_ ≠ (.slice (some ad225) x11_1.length co16 : Value).ownBlock ∧ some k_ ≠ (.slice Ao94 x14_2.length co94 : Value).ownBlock ∧ k_ ≠ gb217 ∧ k_ ≠ gb226)) (by (with_reducible repeat (first | apply Kd.R_alloc | apply Kd.R_drewN | apply Kd.R_drew)); exact HO_13.out) hg hat); have n2_ := Aside0.mk (Kd.R_after (ok := (fun k_ => some k_ ≠ (.slice (some ad225) x11_1.length co16 : Value).ownBlock ∧ some k_ ≠ (v229 : Value).ownBlock ∧ k_ ≠ gb217 ∧ k_ ≠ gb226)) (by (with_reducible repeat (first | apply Kd.R_alloc | apply Kd.R_drewN | apply Kd.R_drew)); exact HO_14.out) hg hat); have n3_ := Aside0.mk (blk_grown (g := gb217) (o := .cells #[.int .u64 a0_0, .int .u16 a0_1] 26 (0, 0)) (by (with_reducible repeat (first | refine blk_drewN ?_ _ | refine blk_drew ?_ | refine blk_alloc ?_ _)); exact BK217.out) hg (Kd.R_away HO290.out (fun _ hk => hk.2.2.2.1))); have n4_ := Aside0.mk (blk_grown (g := gb226) (o := .cells #[.int .u64 ((rd_T26 x11_1 x15_2).f0), .int .u16 ((rd_T26 x11_1 x15_2).f1)] 26 (0, 0)) (by (with_reducible repeat (first | refine blk_drewN ?_ _ | refine blk_drew ?_ | refine blk_alloc ?_ _)); exact BK226.out) hg (Kd.R_away HO290.out (fun _ hk => hk.2.2.2.2))); have n5_ := Aside0.mk (hb); have n6_ := Aside0.mk ((show Kd.C k26 w103 Ao94 y281.length y281 from by rw [Ny281.out]; exact Kd.C_take (m := (x17_4 : Int).toNat) ((Kd.R_reads' (Kd.R_after (ok := (fun k_ => some k_ ≠ (.slice (some ad225) x11_1.length co16 : Value).ownBlock ∧ some k_ ≠ (v229 : Value).ownBlock ∧ k_ ≠ gb217 ∧ k_ ≠ gb226)) (by (with_reducible repeat (first | apply Kd.R_alloc | apply Kd.R_drewN | apply Kd.R_drew)); exact HO_14.out) hg hat)).2.2) KL97.out)); have n7_ := Aside0.mk ((show Kd.C k26 w103 A102 y291.length y291 from by rw [Ny291.out, KA102.out]; exact Kd.C_drop (m := (x17_4 : Int).toNat) (c := co94) ((Kd.R_reads' (Kd.R_after (ok := (fun k_ => some k_ ≠ (.slice (some ad225) x11_1.length co16 : Value).ownBlock ∧ some k_ ≠ (v229 : Value).ownBlock ∧ k_ ≠ gb217 ∧ k_ ≠ gb226)) (by (with_reducible repeat (first | apply Kd.R_alloc | apply Kd.R_drewN | apply Kd.R_drew)); exact HO_14.out) hg hat)).2.2) KL102.out ((Kd.R_reads' (Kd.R_after (ok := (fun k_ => some k_ ≠ (.slice (some ad225) x11_1.length co16 : Value).ownBlock ∧ some k_ ≠ (v229 : Value).ownBlock ∧ k_ ≠ gb217 ∧ k_ ≠ gb226)) (by (with_reducible repeat (first | apply Kd.R_alloc | apply Kd.R_drewN | apply Kd.R_drew)); exact HO_14.out) hg hat)).2.1))); have n8_ := Aside0.mk (ho); clear HO_11; clear HO_13; clear HO_14; clear BK217; clear BK226; clear HB; clear HR284; clear HR294; clear HO290; have HO_11 := n0_; have HO_13 := n1_; have HO_14 := n2_; have BK217 := n3_; have BK226 := n4_; have HB := n5_; have HR284 := n6_; have HR294 := n7_; have HO297 := n8_; clear n0_ n1_ n2_ n3_ n4_ n5_ n6_ n7_ n8_; clear ho hb hg hat))
                     go_roundg k4
                     case measure => have := HK1.out; have := HK2.out; have := HJ14.out; have := HK4.out; omega
                     case rel => exact ⟨(y228), (y295), (wrap64 (x15_2 + 1)), (by first | rfl | (simp; done) | (simp [*]; done)), H', ⟨by have := HK1.out; have := HK2.out; have := HJ14.out; have := HK4.out; omega⟩, ⟨by (with_reducible repeat (first | apply Kd.R_alloc | apply Kd.R_drewN | apply Kd.R_drew)); exact Kd.R_mono HO_11.out (fun _ hk => ⟨hk.1.1, ⟨hk.2, hk.1.2.2.1⟩⟩)⟩, ⟨by (with_reducible repeat (first | apply Kd.R_alloc | apply Kd.R_drewN | apply Kd.R_drew)); exact Kd.R_mono HO_13.out (fun _ hk => ⟨hk.1.1, ⟨hk.2, hk.1.2.2.1⟩⟩)⟩, ⟨by (with_reducible repeat (first | apply Kd.R_alloc | apply Kd.R_drewN | apply Kd.R_drew)); exact Kd.R_mono HO297.out (fun _ hk => ⟨hk.1, ⟨hk.2.1, hk.2.2.2.1⟩⟩)⟩, ⟨by (with_reducible repeat (first | refine blk_drewN ?_ _ | refine blk_drew ?_ | refine blk_alloc ?_ _)); exact BK217.out⟩, ⟨by repeat (first | (with_reducible first | exact HB.out | apply below_alloc | apply pw_below_drewN | apply below_drew1 | refine below_set ?_ GE217.out | refine below_set ?_ GE226.out) | exact HB.out)⟩⟩
                    ·rw [if_neg c92] at H
                     exact absurd H (by simp)
                   ·rw [if_neg c89] at H
                    exact absurd H (by simp)
                  ·rw [if_neg c88] at H
                   exact absurd H (by simp)
                 ·rw [if_neg c87] at H
                  exact absurd H (by simp)
                ·rw [if_neg c86] at H
                 exact absurd H (by simp)
            ·replace c32 := Bool.eq_false_iff.mpr c32
             subst c32
             have H1 : (annuletref28_Hops.l1 kj14 a3 a4 x11_1 y228 x14_2 (wrap64 (x15_2 + 1)) a0_0 a0_1) = some r := by rw [if_neg (show ¬ (false = true) by decide)] at H; exact H
             clear H
             have H := H1
             clear H1
             have H' := Aside0.mk H
             clear H
             have hnb104 := NB226_217.out
             have hnc104 := NB217_226.out
             obtain ⟨hcz105_0, hcz105_1, hfz105_0, hfz105_1⟩ := box2f (w := wc) (g := gb226) BK226.out
             go_wp2_with (first | ((with_reducible refine gate_builtin (b := .append) (xs := #[.tmp 57, .tmp 59]) rfl ?_); at_builtin; refine Kd.R_append k26 (w0 := w) w.heap.size rfl (.tmp 57) (.tmp 59) 36 26 (.agg #[(.int .u64 0), (.int .u16 0)]) 16 rfl Try.underlying36 info26 rfl (by decide) (by omega) u13 x13_2 (⟨((rd_T26 x11_1 x15_2).f0), ((rd_T26 x11_1 x15_2).f1)⟩ : S26) [.int .u64 ((rd_T26 x11_1 x15_2).f0), .int .u16 ((rd_T26 x11_1 x15_2).f1)] (fun k_ => some k_ ≠ (.slice (some ad225) x11_1.length co16 : Value).ownBlock ∧ some k_ ≠ (u14 : Value).ownBlock ∧ k_ ≠ gb217 ∧ k_ ≠ gb226) (fun _ => False) rfl rfl ?aP (fun _ hk => hk.elim) ?aF ?aO ?aB ?aS ?aL ?_; (case aP => exact k26_mkM _ _ _ (⟨((rd_T26 x11_1 x15_2).f0), ((rd_T26 x11_1 x15_2).f1)⟩ : S26)); (case aB => exact (by repeat (first | (with_reducible first | exact HB.out | apply below_alloc | apply pw_below_drewN | apply below_drew1 | refine below_set ?_ GE217.out | refine below_set ?_ GE226.out) | exact HB.out))); (case aF => exact (fun k_ hk => ⟨Kd.fresh' (Kd.R_lt (by (with_reducible repeat (first | apply Kd.R_alloc | apply Kd.R_drewN | apply Kd.R_drew)); exact HO_11.out)) k_ hk, Kd.fresh' (Kd.R_lt (by (with_reducible repeat (first | apply Kd.R_alloc | apply Kd.R_drewN | apply Kd.R_drew)); exact HO_14.out)) k_ hk, Kd.freshB (g := gb217) (o := .cells #[.int .u64 a0_0, .int .u16 a0_1] 26 (0, 0)) (by (with_reducible repeat (first | refine blk_drewN ?_ _ | refine blk_drew ?_ | refine blk_alloc ?_ _)); exact BK217.out) k_ hk, Kd.freshB (g := gb226) (o := .cells #[.int .u64 ((rd_T26 x11_1 x15_2).f0), .int .u16 ((rd_T26 x11_1 x15_2).f1)] 26 (0, 0)) (by (with_reducible repeat (first | refine blk_drewN ?_ _ | refine blk_drew ?_ | refine blk_alloc ?_ _)); exact BK226.out) k_ hk⟩)); (case aO => exact (by (with_reducible repeat (first | apply Kd.R_alloc | apply Kd.R_drewN | apply Kd.R_drew)); exact HO_13.out)); (case aS => exact (below_size (by repeat (first | (with_reducible first | exact HB.out | apply below_alloc | apply pw_below_drewN | apply below_drew1 | refine below_set ?_ GE217.out | refine below_set ?_ GE226.out) | exact HB.out)))); (case aL => have := LMc30.out; omega); intro v229 w106 ho hb hg hat; rw [← Ny228.out] at ho; have n0_ := Aside0.mk (Kd.R_after (ok := (fun k_ => some k_ ≠ (u14 : Value).ownBlock ∧ k_ ≠ gb217 ∧ k_ ≠ gb226)) (by (with_reducible repeat (first | apply Kd.R_alloc | apply Kd.R_drewN | apply Kd.R_drew)); exact Kd.R_mono HO_11.out (fun _ hk => ⟨⟨hk.2.1, ⟨hk.2.2.1, hk.2.2.2⟩⟩, hk.1⟩)) hg hat); have n1_ := Aside0.mk (Kd.R_after (ok := (fun k_ => some k_ ≠ (.slice (some ad225) x11_1.length co16 : Value).ownBlock ∧ k_ ≠ gb217 ∧ k_ ≠ gb226)) (by (with_reducible repeat (first | apply Kd.R_alloc | apply Kd.R_drewN | apply Kd.R_drew)); exact Kd.R_mono HO_14.out (fun _ hk => ⟨⟨hk.1, ⟨hk.2.2.1, hk.2.2.2⟩⟩, hk.2.1⟩)) hg hat); have n2_ := Aside0.mk (blk_grown (g := gb217) (o := .cells #[.int .u64 a0_0, .int .u16 a0_1] 26 (0, 0)) (by (with_reducible repeat (first | refine blk_drewN ?_ _ | refine blk_drew ?_ | refine blk_alloc ?_ _)); exact BK217.out) hg (Kd.R_away HO_13.out (fun _ hk => hk.2.2.1))); have n3_ := Aside0.mk (blk_grown (g := gb226) (o := .cells #[.int .u64 ((rd_T26 x11_1 x15_2).f0), .int .u16 ((rd_T26 x11_1 x15_2).f1)] 26 (0, 0)) (by (with_reducible repeat (first | refine blk_drewN ?_ _ | refine blk_drew ?_ | refine blk_alloc ?_ _)); exact BK226.out) hg (Kd.R_away HO_13.out (fun _ hk => hk.2.2.2))); have n4_ := Aside0.mk (hb); have n5_ := Aside0.mk (ho); clear HO_11; clear HO_14; clear BK217; clear BK226; clear HB; clear HO_13; have HO_11 := n0_; have HO_14 := n1_; have BK217 := n2_; have BK226 := n3_; have HB := n4_; have HO230 := n5_; clear n0_ n1_ n2_ n3_ n4_ n5_; clear ho hb hg hat; obtain ⟨hcz107_0, hcz107_1, hfz107_0, hfz107_1⟩ := box2f (w := w106) (g := gb217) BK217.out; obtain ⟨hcz108_0, hcz108_1, hfz108_0, hfz108_1⟩ := box2f (w := w106) (g := gb226) BK226.out) | ((with_reducible refine gate_callee (f := 36) rfl ?_); refine goesL_ (some 66) rfl rfl Try.func36 (by kernel_rfl) rfl #[.int .u64 a0_0, .int .u64 ((rd_T26 x11_1 x15_2).f0), .int .u64 a3] rfl (by (try simp only [List.map_toArray, List.map_cons, List.map_nil]); first | done | rfl | (simp only [List.length_drop, List.length_take]; rfl)) ?_; (with_reducible refine (annuletref03_Between.calls a0_0 ((rd_T26 x11_1 x15_2).f0) a3 false _ A31.out).mono ?_); rintro e w' ⟨rfl, ⟨nd, rfl⟩⟩; refine ⟨_, rfl, ?_⟩))
             go_roundg kj14
             case measure => have := HK1.out; have := HK2.out; have := HJ14.out; omega
             case rel => exact ⟨(y228), (x14_2), (wrap64 (x15_2 + 1)), (by first | rfl | (simp; done) | (simp [*]; done)), H', ⟨by have := HK1.out; have := HK2.out; have := HJ14.out; omega⟩, ⟨by (with_reducible repeat (first | apply Kd.R_alloc | apply Kd.R_drewN | apply Kd.R_drew)); exact Kd.R_mono HO_11.out (fun _ hk => ⟨hk.2, ⟨hk.1.1, hk.1.2.1⟩⟩)⟩, ⟨by (with_reducible repeat (first | apply Kd.R_alloc | apply Kd.R_drewN | apply Kd.R_drew)); exact Kd.R_mono HO230.out (fun _ hk => ⟨hk.1, ⟨hk.2.1, hk.2.2.1⟩⟩)⟩, ⟨by (with_reducible repeat (first | apply Kd.R_alloc | apply Kd.R_drewN | apply Kd.R_drew)); exact Kd.R_mono HO_14.out (fun _ hk => ⟨hk.1.1, ⟨hk.2, hk.1.2.1⟩⟩)⟩, ⟨by (with_reducible repeat (first | refine blk_drewN ?_ _ | refine blk_drew ?_ | refine blk_alloc ?_ _)); exact BK217.out⟩, ⟨by repeat (first | (with_reducible first | exact HB.out | apply below_alloc | apply pw_below_drewN | apply below_drew1 | refine below_set ?_ GE217.out | refine below_set ?_ GE226.out) | exact HB.out)⟩⟩
           ·rw [if_neg c30] at H
            exact absurd H (by simp)
       ·rw [if_neg c14] at H
        exact absurd H (by simp)
      ·rw [if_neg c13] at H
       have c13b0 : decide (x15_2 < (x11_1.length : Int)) = false := decide_eq_false c13
       clear c13
       by_cases c109 : a4 < 0
       ·rw [if_pos c109] at H
        have c109b0 : decide (a4 < 0) = true := decide_eq_true c109
        clear c109
        obtain rfl := Option.some.inj H
        obtain ⟨Ao110, co110, eo110⟩ := Kd.R_slice HO_11.out
        subst eo110
        go_wp2
        go_ret
        exact ⟨_, by first | rfl | (simp [errW_none, errW_some] <;> rfl) | (simp [*, errW_none, errW_some] <;> rfl), by first | exact Kd.R_nil _ _ _ _ _ | exact Kd.N_nil _ _ _ _ _ | exact Kd.V_nil _ _ _ _ _ | exact Kd.Q_nil _ _ _ _ _ | exact Kd.S_nil _ _ _ _ _, by repeat (first | (with_reducible first | exact HB.out | apply below_alloc | apply pw_below_drewN | apply below_drew1 | refine below_set ?_ GE217.out) | exact HB.out)⟩
       ·rw [if_neg c109] at H
        have c109b0 : decide (a4 < 0) = false := decide_eq_false c109
        clear c109
        by_cases c111 : (x14_2.length : Int) > a4
        ·rw [if_pos c111] at H
         have c111b0 : decide (a4 < (x14_2.length : Int)) = true := decide_eq_true c111
         clear c111
         by_cases c112 : 0 ≤ a4
         ·rw [if_pos c112] at H
          have c112b0 := eq_true c112
          have c112b1 : decide (0 ≤ a4) = true := decide_eq_true c112
          clear c112
          by_cases c113 : a4 ≤ (x14_2.length : Int)
          ·rw [if_pos c113] at H
           have c113b0 := eq_true c113
           have c113b1 : decide (a4 ≤ (x14_2.length : Int)) = true := decide_eq_true c113
           clear c113
           obtain ⟨y298, hy298⟩ : ∃ y_ : List (S26), y_ = (x14_2.take (a4 : Int).toNat) := ⟨_, rfl⟩
           replace H : (some y298) = some r := by first | (rw [hy298]; with_reducible exact H) | (have H2_ := (Option.bind_some _ _).symm.trans H; rw [hy298]; with_reducible exact H2_) | (have H2_ := (Option.bind_some _ _).symm.trans H; with_reducible exact H2_) | with_reducible exact H | (rw [hy298]; exact H) | exact H
           have Ny298 := Aside0.mk hy298
           clear hy298
           obtain rfl := Option.some.inj H
           obtain ⟨Ao114, co114, eo114⟩ := Kd.R_slice HO_11.out
           subst eo114
           obtain ⟨Ao115, co115, eo115⟩ := Kd.R_slice HO_14.out
           subst eo115
           have q116 : (a4 : Int) ≤ ((x14_2.length : Int) : Int) := of_decide_eq_true (by first | (with_reducible assumption) | assumption)
           obtain ⟨i0116, hi0116, _, hsz116, _⟩ := info_parts info26
           have hcut116 := cut_to (P := Try.prog) 36 26 .i64 Try.underlying36 hi0116 Ao115 x14_2.length co115 a4 (of_decide_eq_true (by first | (with_reducible assumption) | assumption)) q116 (Kd.R_reads' HO_14.out).2.1
           have hr116 := Kd.R_take (m := (a4 : Int).toNat) HO_14.out (by omega)
           have hy116 : y298.length = (a4 : Int).toNat := (by rw [Ny298.out, List.length_take]; omega)
           rw [← Ny298.out] at hr116
           rw [← hy116] at hr116 hcut116
           clear hy116 hi0116 hsz116 HO_14
           have HO300 := Aside0.mk hr116
           clear hr116
           replace q116 := eq_true q116
           go_wp2
           go_ret
           exact ⟨_, by first | rfl | (simp [errW_none, errW_some] <;> rfl) | (simp [*, errW_none, errW_some] <;> rfl), by (with_reducible repeat (first | apply Kd.R_alloc | apply Kd.R_drewN | apply Kd.R_drew)); exact Kd.R_mono HO300.out (fun _ hk => trivial), by repeat (first | (with_reducible first | exact HB.out | apply below_alloc | apply pw_below_drewN | apply below_drew1 | refine below_set ?_ GE217.out) | exact HB.out)⟩
          ·rw [if_neg c113] at H
           exact absurd H (by simp)
         ·rw [if_neg c112] at H
          exact absurd H (by simp)
        ·rw [if_neg c111] at H
         have c111b0 : decide (a4 < (x14_2.length : Int)) = false := decide_eq_false c111
         clear c111
         obtain rfl := Option.some.inj H
         obtain ⟨Ao117, co117, eo117⟩ := Kd.R_slice HO_11.out
         subst eo117
         obtain ⟨Ao118, co118, eo118⟩ := Kd.R_slice HO_14.out
         subst eo118
         go_wp2
         go_ret
         exact ⟨_, by first | rfl | (simp [errW_none, errW_some] <;> rfl) | (simp [*, errW_none, errW_some] <;> rfl), by (with_reducible repeat (first | apply Kd.R_alloc | apply Kd.R_drewN | apply Kd.R_drew)); exact Kd.R_mono HO_14.out (fun _ hk => trivial), by repeat (first | (with_reducible first | exact HB.out | apply below_alloc | apply pw_below_drewN | apply below_drew1 | refine below_set ?_ GE217.out) | exact HB.out)⟩

end Go.Proofs.Ytnnhmceaoobihaa.P
