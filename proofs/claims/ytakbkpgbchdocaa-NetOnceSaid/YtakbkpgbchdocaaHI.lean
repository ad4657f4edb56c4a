/- Mine. Chapter 39, by hand: the law's example (awake). -/
import Derived.Test.YtakbkpgbchdocaaHH
namespace Go.Proofs.Ytakbkpgbchdocaa.H
open Go Go.Proofs Go.RowKit Go.Lib Go.Proofs.Ytakbkpgbchdocaa.P Go.Proofs.YtakbkpgbchdocaaW.PrintWords Go.Proofs.YtakbkpgbchdocaaW.PrintLast Go.Proofs.YtakbkpgbchdocaaW.PrintMore Go.Proofs.YtakbkpgbchdocaaW.PrintFlat
set_option linter.unusedVariables false
set_option linter.unusedSimpArgs false
def aw : S26 := ⟨0, 3, [1, 2], false⟩
def aws : S26 := ⟨0, 3, [0, 2], true⟩
theorem aw1 : sendF [] aw = ([aw], 0) := by kernel_rfl
theorem aw2 : doubleF [aw] 0 = ([aw, aw], 0) := by kernel_rfl
theorem aw3 : takeF [aw, aw] 1 = ([aw], aw, 0) := by kernel_rfl
theorem aw4 : flipF [aw, aw] 1 0 1 = ([aw, aws], 0) := by kernel_rfl
theorem aw5 : flipF [aw, aws] 1 0 1 = ([aw, aws], 14) := by kernel_rfl
theorem aw6 : doubleF [aw] 1 = ([aw], 1) := by kernel_rfl
theorem fits1 : Fits [aw] := ⟨by decide, by simp [aw]⟩
theorem fits2 : Fits [aw, aw] := ⟨by decide, by simp [aw]⟩
theorem fits3 : Fits [aw, aws] := ⟨by decide, by simp [aw, aws]⟩
theorem own_b {w : World} {base g n c : Nat} {ok : Nat → Prop} {l : List S26} {k : Nat} (h : k26.R 26 w base ok (.slice (some ⟨g, 0, none⟩) n c) l) (hk : k < l.length) (hn : 0 < (rd_T26 l k).f2.length) :
    ∃ q d, w.cell? ⟨g, k * 4 + 3, none⟩ = some (.bool (rd_T26 l k).f3) ∧ w.cell? ⟨g, k * 4 + 2, none⟩ = some (.slice (some ⟨q, 0, none⟩) (rd_T26 l k).f2.length d) ∧ w.cell? ⟨q, 0, none⟩ = some (.int .u8 (rd (rd_T26 l k).f2 ((0 : Nat) : Int))) := by
  obtain ⟨v, x0, x1, x2, x3, hR⟩ := own_at h hk
  obtain ⟨A, d, rfl, _, _⟩ := Kd.R_reads hR
  obtain ⟨q, rfl⟩ := R_some hR hn
  exact ⟨q, d, x3, x2, R_byte hR hn⟩
/-- A call that hands back a row that is made, and an error's number. -/
def Calls2 (f : Nat) (args : Array Value) (ys : List S26) (en : Int) (w : World) : Prop := Calls Try.prog f args w fun e w' => ∃ g c, e = .returned (.tuple #[.slice (some ⟨g, 0, none⟩) ys.length c, .int .i64 en]) ∧ ys.length ≤ c ∧ Kd.R k26 26 w' w.heap.size (fun _ => True) (.slice (some ⟨g, 0, none⟩) ys.length c) ys ∧ Below w.heap.size w w'
theorem calls2_of {f : Nat} {args : Array Value} {l ys : List S26} {en em : Int} {w : World} (h : Calls Try.prog f args w (OutP l em w)) (he : (l, em) = (ys, en)) (hn : 0 < ys.length) : Calls2 f args ys en w := by
  obtain ⟨rfl, rfl⟩ := Prod.mk.inj he
  refine h.mono ?_
  rintro e w' ⟨v, rfl, hR, hb⟩
  obtain ⟨A, c, rfl, hlc, _⟩ := Kd.R_reads hR
  obtain ⟨g, rfl⟩ := R_some hR hn
  exact ⟨g, c, rfl, hlc, hR, hb⟩
set_option maxRecDepth 100000 in
set_option maxHeartbeats 4000000 in
theorem awake_calls (w : World) : Calls Try.prog 7 #[] w fun e w' => e = .returned (.bool true) ∧ Below w.heap.size w w' := by
  have H1 : Aside0 (∀ W : World, Kd.C (Kd.int .u8) W (some ⟨w.heap.size, 0, none⟩) 2 [1, 2] → Calls2 9 #[.slice none 0 0, .agg #[.int .u16 0, .int .u16 3, .slice (some ⟨w.heap.size, 0, none⟩) 2 2, .bool false]] [aw] 0 W) := ⟨fun W h => calls2_of (send_calls none 0 0 [] aw (some ⟨w.heap.size, 0, none⟩) 2 2 W ⟨rfl, by decide, fun h => absurd h (by decide)⟩ (Nat.le_refl _) ⟨by decide, by simp⟩ h (by decide) (by decide)) (by rw [aw1]) (by decide)⟩
  have H2 : Aside0 (∀ (W : World) (A : Option Addr) (c : Nat), Kd.C k26 W A 1 [aw] → 1 ≤ c → Calls2 13 #[.slice A 1 c, .int .i64 0] [aw, aw] 0 W) := ⟨fun W A c h hc => calls2_of (double_calls A 1 c [aw] 0 W h hc fits1) (by rw [aw2]) (by decide)⟩
  have H3 : Aside0 (∀ (W : World) (A : Option Addr) (c : Nat), Kd.C k26 W A 2 [aw, aw] → 2 ≤ c → Calls Try.prog 11 #[.slice A 2 c, .int .i64 1] W fun e w' => ∃ A3 c3 A5 c5, e = .returned (.tuple #[.slice A3 1 c3, .agg #[.int .u16 0, .int .u16 3, .slice A5 2 c5, .bool false], .int .i64 0]) ∧ Below W.heap.size W w') := ⟨fun W A c h hc => by
    have h3 := take_calls A 2 c [aw, aw] 1 W h hc fits2
    rw [aw3] at h3
    refine h3.mono ?_
    rintro e w' ⟨A3, c3, A5, c5, rfl, _, _, _, _, hb⟩
    exact ⟨A3, c3, A5, c5, rfl, hb⟩⟩
  have H4 : Aside0 (∀ (W : World) (A : Option Addr) (c : Nat), Kd.C k26 W A 2 [aw, aw] → 2 ≤ c → Calls2 15 #[.slice A 2 c, .int .i64 1, .int .i64 0, .int .u32 1] [aw, aws] 0 W) := ⟨fun W A c h hc => calls2_of (flip_calls A 2 c [aw, aw] 1 0 1 W h hc fits2) (by rw [aw4]) (by decide)⟩
  have H5 : Aside0 (∀ (W : World) (A : Option Addr) (c : Nat), Kd.C k26 W A 2 [aw, aws] → 2 ≤ c → Calls2 15 #[.slice A 2 c, .int .i64 1, .int .i64 0, .int .u32 1] [aw, aws] 14 W) := ⟨fun W A c h hc => calls2_of (flip_calls A 2 c [aw, aws] 1 0 1 W h hc fits3) (by rw [aw5]) (by decide)⟩
  have H6 : Aside0 (∀ (W : World) (A : Option Addr) (c : Nat), Kd.C k26 W A 1 [aw] → 1 ≤ c → Calls2 13 #[.slice A 1 c, .int .i64 1] [aw] 1 W) := ⟨fun W A c h hc => calls2_of (double_calls A 1 c [aw] 1 W h hc fits1) (by rw [aw6]) (by decide)⟩
  go_enter Try.func7, Try.ntmps7
  go_wp2_with fail
  have HB0 : Aside0 (Below w.heap.size w (w.alloc (.cells #[.int .u8 1, .int .u8 2] 5))) := ⟨below_alloc (Below.refl _ _) _⟩
  refine (H1.out _ ?_).mono ?_
  · refine Kd.C_of_reads (d := (0 : Int)) ⟨rfl, by decide, fun _ => ⟨_, rfl, fun j hj => ?_⟩⟩
    have hbk := heap_alloc_new w (.cells #[.int .u8 1, .int .u8 2] 5)
    rw [addr_z]
    have h01 : j = 0 ∨ j = 1 := by omega
    rcases h01 with rfl | rfl
    · exact (blk_cell hbk 0).trans rfl
    · exact (blk_cell hbk 1).trans rfl
  rintro e w1 ⟨g1, c1, rfl, hc1, hR1, hb1⟩
  have HR1 := Aside0.mk hR1
  have HC1 := Aside0.mk hc1
  have HB1 := Aside0.mk (below_then HB0.out HB0.out.size hb1)
  clear hc1 hR1 hb1
  go_wp2_with fail
  refine (H2.out _ _ _ (Kd.R_reads' HR1.out).2.2 HC1.out).mono ?_
  rintro e w2 ⟨g2, c2, rfl, hc2, hR2, hb2⟩
  have HR2 := Aside0.mk hR2
  have HC2 := Aside0.mk hc2
  have HB2 := Aside0.mk hb2
  clear hc2 hR2 hb2
  go_wp2_with fail
  refine (H3.out _ _ _ (Kd.R_reads' HR2.out).2.2 HC2.out).mono ?_
  rintro e w3 ⟨A3, c3, A5, c5, rfl, hb3⟩
  have HB3 := Aside0.mk hb3
  clear hb3
  have HA3 : Aside0 (Below w2.heap.size w2 (w3.alloc (.cells #[.int .u16 0, .int .u16 3, .slice A5 2 c5, .bool false] 26))) := ⟨below_then HB3.out HB3.out.size (below_alloc (Below.refl _ _) _)⟩
  have HP3 : Aside0 ((w3.alloc (.cells #[.int .u16 0, .int .u16 3, .slice A5 2 c5, .bool false] 26)).cell? ⟨w3.heap.size, 1, none⟩ = some (.int .u16 3)) := ⟨(box4f (heap_alloc_new w3 _)).2.1⟩
  go_wp2_with fail
  obtain ⟨V3, hV3⟩ : ∃ V, w3.alloc (.cells #[.int .u16 0, .int .u16 3, .slice A5 2 c5, .bool false] 26) = V := ⟨_, rfl⟩
  rw [hV3] at HA3 HP3 ⊢
  refine (H4.out V3 _ _ (Kd.C_below (Kd.R_reads' HR2.out).2.2 HA3.out) HC2.out).mono ?_
  rintro e w4 ⟨g4, c4, rfl, hc4, hR4, hb4⟩
  have HR4 := Aside0.mk hR4
  have HC4 := Aside0.mk hc4
  have HB4 := Aside0.mk hb4
  clear hc4 hR4 hb4 hV3
  go_wp2_with fail
  refine (H5.out w4 _ _ (Kd.R_reads' HR4.out).2.2 HC4.out).mono ?_
  rintro e w5 ⟨g5, c5, rfl, hc5, hR5, hb5⟩
  have HB5 := Aside0.mk hb5
  clear hc5 hR5 hb5
  have HB15 : Aside0 (Below w1.heap.size w1 w5) := ⟨below_then (below_then (below_then HB2.out HB2.out.size HA3.out) (Nat.le_trans HB2.out.size HA3.out.size) HB4.out) (Nat.le_trans (Nat.le_trans HB2.out.size HA3.out.size) HB4.out.size) HB5.out⟩
  go_wp2_with fail
  refine (H6.out w5 _ _ (Kd.C_below (Kd.R_reads' HR1.out).2.2 HB15.out) HC1.out).mono ?_
  rintro e w6 ⟨g6, c6, rfl, hc6, hR6, hb6⟩
  have HB6 := Aside0.mk hb6
  clear hc6 hR6 hb6
  have HB36 : Aside0 (Below V3.heap.size V3 w6) := ⟨below_then (below_then HB4.out HB4.out.size HB5.out) (Nat.le_trans HB4.out.size HB5.out.size) HB6.out⟩
  have HB46 : Aside0 (Below w4.heap.size w4 w6) := ⟨below_then HB5.out HB5.out.size HB6.out⟩
  have HB26 : Aside0 (Below w2.heap.size w2 w6) := ⟨below_then HA3.out HA3.out.size HB36.out⟩
  have HB16 : Aside0 (Below w1.heap.size w1 w6) := ⟨below_then HB2.out HB2.out.size HB26.out⟩
  have m0 := pw_cell_below HB36.out HP3.out
  obtain ⟨q4, d4, m1, m2, m3⟩ := own_b (k := 1) HR4.out (by decide) (by decide)
  replace m1 : w6.cell? ⟨g4, 7, none⟩ = some (.bool true) := pw_cell_below HB46.out m1
  replace m2 : w6.cell? ⟨g4, 6, none⟩ = some (.slice (some ⟨q4, 0, none⟩) 2 d4) := pw_cell_below HB46.out m2
  replace m3 : w6.cell? ⟨q4, 0, none⟩ = some (.int .u8 0) := pw_cell_below HB46.out m3
  obtain ⟨q2, d2, m4, m5, m6⟩ := own_b (k := 1) HR2.out (by decide) (by decide)
  replace m5 : w6.cell? ⟨g2, 6, none⟩ = some (.slice (some ⟨q2, 0, none⟩) 2 d2) := pw_cell_below HB26.out m5
  replace m6 : w6.cell? ⟨q2, 0, none⟩ = some (.int .u8 1) := pw_cell_below HB26.out m6
  clear m4
  have HF1 : Aside0 (∀ W : World, Kd.C k26 W (some ⟨g1, 0, none⟩) 1 [aw] → Calls Try.prog 17 #[.slice (some ⟨g1, 0, none⟩) 1 c1, .int .u16 3] W fun e w' => e = .returned (.int .i64 0) ∧ Below W.heap.size W w') := ⟨fun W h => for_calls (some ⟨g1, 0, none⟩) c1 [aw] 3 W h⟩
  have HF2 : Aside0 (∀ W : World, Kd.C k26 W (some ⟨g1, 0, none⟩) 1 [aw] → Calls Try.prog 17 #[.slice (some ⟨g1, 0, none⟩) 1 c1, .int .u16 4] W fun e w' => e = .returned (.int .i64 (-1)) ∧ Below W.heap.size W w') := ⟨fun W h => for_calls (some ⟨g1, 0, none⟩) c1 [aw] 4 W h⟩
  have HC16 : Aside0 (Kd.C k26 w6 (some ⟨g1, 0, none⟩) 1 [aw]) := ⟨Kd.C_below (Kd.R_reads' HR1.out).2.2 HB16.out⟩
  go_wp2_with fail
  refine (HF1.out w6 HC16.out).mono ?_
  rintro e w7 ⟨rfl, hb7⟩
  have HB7 := Aside0.mk hb7
  clear hb7 m0 m1 m2 m3 m5 m6
  go_wp2_with fail
  refine (HF2.out w7 (Kd.C_below HC16.out HB7.out)).mono ?_
  rintro e w8 ⟨rfl, hb8⟩
  have HB8 := Aside0.mk hb8
  clear hb8
  go_wp2_with fail
  go_ret
  refine ⟨rfl, ?_⟩
  have hz := HB1.out.size
  exact below_then (below_then (below_then HB1.out hz HB16.out) (Nat.le_trans hz HB16.out.size) HB7.out) (Nat.le_trans (Nat.le_trans hz HB16.out.size) HB7.out.size) HB8.out
#print axioms awake_calls
end Go.Proofs.Ytakbkpgbchdocaa.H
