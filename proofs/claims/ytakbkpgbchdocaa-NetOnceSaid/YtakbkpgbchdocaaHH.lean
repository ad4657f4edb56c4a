/- Mine. Chapter 39, by hand: net.Flip. -/
import Derived.Test.YtakbkpgbchdocaaHG
namespace Go.Proofs.Ytakbkpgbchdocaa.H
open Go Go.Proofs Go.RowKit Go.Lib Go.Proofs.Ytakbkpgbchdocaa.P Go.Proofs.YtakbkpgbchdocaaW.PrintWords Go.Proofs.YtakbkpgbchdocaaW.PrintLast Go.Proofs.YtakbkpgbchdocaaW.PrintMore Go.Proofs.YtakbkpgbchdocaaW.PrintFlat
set_option linter.unusedVariables false
set_option linter.unusedSimpArgs false
/-- To stop a walk at an operation: (refine gate_ .. rfl ?_; refine hold_ ?_). -/
theorem hold_ {p : Prop} (h : True → p) : p := h trivial
/-- bytes.Equal at two rows of bytes. -/
def eqB (a b : List Int) : Bool := (strOfNums a).toList == (strOfNums b).toList
/-- A packet spoilt at some bits. -/
def flip1 (x : S26) (at_ mask : Int) : S26 := ⟨x.f0, x.f1, crcL x.f2.length at_ mask x.f2 32, !(eqB (crcL x.f2.length at_ mask x.f2 32) x.f2)⟩
def flipF (l : List S26) (i at_ mask : Int) : List S26 × Int :=
  if 0 ≤ i ∧ i < (l.length : Int) then (if (rd_T26 l i).f3 = true then (l, 14) else (l.set i.toNat (flip1 (rd_T26 l i) at_ mask), 0)) else (l, 1)
theorem rd_set (l : List S26) (k : Nat) (x : S26) (h : k < l.length) : rd_T26 (l.set k x) (k : Int) = x := by
  unfold rd_T26
  rw [Int.toNat_natCast, List.getD_eq_getElem?_getD, List.getElem?_set_self h]
  rfl
theorem crcL_len (n : Nat) (at_ mask : Int) (l : List Int) : ∀ k, (crcL n at_ mask l k).length = l.length
  | 0 => rfl
  | k + 1 => (crcF_len n at_ mask k _).trans (crcL_len n at_ mask l k)
theorem cells_at {w : World} {g k : Nat} {a b c d : Value} (h0 : w.cell? ⟨g, k * 4, none⟩ = some a) (h1 : w.cell? ⟨g, k * 4 + 1, none⟩ = some b) (h2 : w.cell? ⟨g, k * 4 + 2, none⟩ = some c) (h3 : w.cell? ⟨g, k * 4 + 3, none⟩ = some d) :
    ∀ j u, [a, b, c, d][j]? = some u → w.cell? ⟨g, (k : Int).toNat * 4 + j, none⟩ = some u := fun j u hj => by
  rw [Int.toNat_natCast]
  rcases j with _ | _ | _ | _ | j
  · cases hj; exact h0
  · cases hj; exact h1
  · cases hj; exact h2
  · cases hj; exact h3
  · simp at hj
set_option maxRecDepth 100000 in
set_option maxHeartbeats 4000000 in
theorem flip_calls (A0 : Option Addr) (n0 c0 : Nat) (l0 : List S26) (i at_ mask : Int) (w : World) (hr0 : Kd.C k26 w A0 n0 l0) (hc0 : n0 ≤ c0) (hf : Fits l0) :
    Calls Try.prog 15 #[.slice A0 n0 c0, .int .i64 i, .int .i64 at_, .int .u32 mask] w (OutP (flipF l0 i at_ mask).1 (flipF l0 i at_ mask).2 w) := by
  obtain rfl : l0.length = n0 := hr0.1
  have HC := Aside0.mk (copied_calls A0 l0.length c0 l0 w hr0 hc0 (by have := hf.1; omega) (fun x hx => by have := hf.2 x hx; omega))
  have HF := Aside0.mk (And.intro hf hc0)
  clear hr0 hf hc0
  unfold flipF
  by_cases hin : 0 ≤ i ∧ i < (l0.length : Int)
  · rw [if_pos hin]
    obtain ⟨k, hk⟩ : ∃ k : Nat, i = k := ⟨i.toNat, by omega⟩
    subst hk
    rw [Int.toNat_natCast]
    have hkl : k < l0.length := by omega
    have HKL := Aside0.mk hkl
    have p0 : (0 ≤ (k : Int)) = True := eq_true (by omega)
    have p1 : ((k : Int) < (l0.length : Int)) = True := eq_true (by omega)
    obtain ⟨x, hx⟩ : ∃ x, rd_T26 l0 (k : Int) = x := ⟨_, rfl⟩
    rw [hx]
    have HX0 := Aside0.mk hx
    have HXL : Aside0 (x.f2.length ≤ 140737488351232) := ⟨HF.out.1.2 _ (by rw [← hx]; exact rd_mem l0 k hin.1 hin.2)⟩
    clear hin hx
    by_cases hsp : x.f3 = true
    · rw [if_pos hsp]
      go_enter Try.func15, Try.ntmps15
      go_wp2_with fail
      refine HC.out.mono ?_
      rintro e w2 ⟨v, rfl, hR, hb2⟩
      obtain ⟨A, c, rfl, hlc, hCC⟩ := Kd.R_reads hR
      obtain ⟨g, hA⟩ := R_some hR (by exact Nat.lt_of_le_of_lt (Nat.zero_le _) HKL.out)
      subst hA
      obtain ⟨v2, x0, x1, x2, x3, hR2⟩ := own_at hR hkl
      rw [show rd_T26 l0 k = x from HX0.out, hsp] at x3
      have HX3 := Aside0.mk x3
      have HR := Aside0.mk hR
      have HB := Aside0.mk hb2
      have HPL := Aside0.mk (place_ok (some ⟨g, 0, none⟩) c l0 k w2 hCC hlc)
      rw [decide_eq_true (show 0 ≤ (k : Int) ∧ (k : Int) < (l0.length : Int) by omega)] at HPL
      clear hR hb2 hlc hCC hR2 x0 x1 x2 x3
      go_wp2_with fail
      refine HPL.out.mono ?_
      rintro e w3 ⟨rfl, hb3⟩
      have HB3 := Aside0.mk hb3
      have x3 := (hb3.cell (World.block_lt_of_cell? _ _ HX3.out)).trans HX3.out
      clear hb3
      go_wp2_with fail
      go_ret2
      exact ⟨_, rfl, Kd.R_below HR.out HB3.out, below_then HB.out HB.out.size HB3.out⟩
    · have hsp' : x.f3 = false := by simpa using hsp
      rw [if_neg hsp]
      clear hsp
      go_enter Try.func15, Try.ntmps15
      go_wp2_with fail
      refine HC.out.mono ?_
      rintro e w2 ⟨v, rfl, hR, hb2⟩
      obtain ⟨A, c, rfl, hlc, hCC⟩ := Kd.R_reads hR
      obtain ⟨g, hA⟩ := R_some hR (by exact Nat.lt_of_le_of_lt (Nat.zero_le _) HKL.out)
      subst hA
      obtain ⟨v2, x0, x1, x2, x3, hR2⟩ := own_at hR hkl
      rw [show rd_T26 l0 k = x from HX0.out] at x0 x1 x3 hR2
      rw [hsp'] at x3
      obtain ⟨A2, c2, rfl, hl2, hC2⟩ := Kd.R_reads hR2
      have HX := Aside0.mk (And.intro x0 (And.intro x1 (And.intro x2 x3)))
      have HR := Aside0.mk hR
      have HR2 := Aside0.mk hR2
      have HY2 := Aside0.mk (And.intro hl2 hC2)
      have HB := Aside0.mk hb2
      have HPL := Aside0.mk (place_ok (some ⟨g, 0, none⟩) c l0 k w2 hCC hlc)
      rw [decide_eq_true (show 0 ≤ (k : Int) ∧ (k : Int) < (l0.length : Int) by omega)] at HPL
      clear hR hb2 hlc hCC hR2 hl2 hC2 x0 x1 x2 x3 hsp'
      go_wp2_with fail
      refine HPL.out.mono ?_
      rintro e w3 ⟨rfl, hb3⟩
      have HB3 := Aside0.mk hb3
      have x2 := (hb3.cell (World.block_lt_of_cell? _ _ HX.out.2.2.1)).trans HX.out.2.2.1
      have x3 := (hb3.cell (World.block_lt_of_cell? _ _ HX.out.2.2.2)).trans HX.out.2.2.2
      clear hb3
      go_wp2_with fail
      refine (crcflip_calls A2 x.f2.length c2 x.f2 at_ mask w3 (Kd.C_below HY2.out.2 HB3.out) HY2.out.1 HXL.out).mono ?_
      rintro e w4 ⟨v4, rfl, hR4, hb4⟩
      obtain ⟨b, hb⟩ : ∃ b, crcL x.f2.length at_ mask x.f2 32 = b := ⟨_, rfl⟩
      rw [hb] at hR4
      have HBB := Aside0.mk hb
      obtain ⟨A4, c4, rfl, hl4, hC4⟩ := Kd.R_reads hR4
      have HR4 := Aside0.mk hR4
      have HB4 := Aside0.mk hb4
      have HY4 := Aside0.mk (And.intro hl4 hC4)
      replace x2 := (hb4.cell (World.block_lt_of_cell? _ _ x2)).trans x2
      replace x3 := (hb4.cell (World.block_lt_of_cell? _ _ x3)).trans x3
      have x0 := (hb4.cell (World.block_lt_of_cell? _ _ ((HB3.out.cell (World.block_lt_of_cell? _ _ HX.out.1)).trans HX.out.1))).trans ((HB3.out.cell (World.block_lt_of_cell? _ _ HX.out.1)).trans HX.out.1)
      have x1 := (hb4.cell (World.block_lt_of_cell? _ _ ((HB3.out.cell (World.block_lt_of_cell? _ _ HX.out.2.1)).trans HX.out.2.1))).trans ((HB3.out.cell (World.block_lt_of_cell? _ _ HX.out.2.1)).trans HX.out.2.1)
      have HXX := Aside0.mk (And.intro x0 (And.intro x1 (And.intro x2 x3)))
      clear hR4 hb4 hl4 hC4 x0 x1 x3 hb
      go_wp2_with fail
      refine (bytes_Equal.calls A4 c4 b A2 c2 x.f2 (eqB b x.f2) w4 HY4.out.2 HY4.out.1 (Kd.C_below (Kd.C_below HY2.out.2 HB3.out) HB4.out) HY2.out.1 rfl).mono ?_
      rintro e w5 ⟨rfl, hd5⟩
      have HB5 := Aside0.mk hd5.below
      have HX5 := Aside0.mk (cells_at (k := k) ((HB5.out.cell (World.block_lt_of_cell? _ _ HXX.out.1)).trans HXX.out.1) ((HB5.out.cell (World.block_lt_of_cell? _ _ HXX.out.2.1)).trans HXX.out.2.1) ((HB5.out.cell (World.block_lt_of_cell? _ _ HXX.out.2.2.1)).trans HXX.out.2.2.1) ((HB5.out.cell (World.block_lt_of_cell? _ _ HXX.out.2.2.2)).trans HXX.out.2.2.2))
      have HB03 := Aside0.mk (below_then HB.out HB.out.size HB3.out)
      have HB04 := Aside0.mk (below_then HB03.out HB03.out.size HB4.out)
      have HB05 := Aside0.mk (below_then HB04.out HB04.out.size HB5.out)
      have HO5 : Aside0 (Kd.R k26 26 w5 w.heap.size (fun _ => True) (.slice (some ⟨g, 0, none⟩) l0.length c) l0) := ⟨Kd.R_below (Kd.R_below (Kd.R_below HR.out HB3.out) HB4.out) HB5.out⟩
      obtain ⟨sp, hsp⟩ : ∃ sp, eqB b x.f2 = sp := ⟨_, rfl⟩
      have HSP := Aside0.mk hsp
      have HM5 : Aside0 (k26.M w5 w.heap.size (fun q => True ∧ q ≠ g) ⟨x.f0, x.f1, x.f2, !sp⟩ [.int .u16 x.f0, .int .u16 x.f1, .slice A2 x.f2.length c2, .bool (!sp)]) := ⟨k26_mkM w5 w.heap.size _ (⟨x.f0, x.f1, x.f2, !sp⟩ : S26) (Kd.R_below (Kd.R_below (Kd.R_below HR2.out HB3.out) HB4.out) HB5.out)⟩
      have hgl : g < w2.heap.size := World.block_lt_of_cell? _ _ HX.out.1
      have HG := Aside0.mk hgl
      have HNE : Aside0 (∀ q, w3.heap.size ≤ q → True ∧ q ≠ g) := ⟨fun q hq => ⟨trivial, by have := HG.out; have := HB3.out.size; omega⟩⟩
      clear hd5 x2 hgl
      rw [hsp]
      clear hsp
      go_wp2_with (refine gate_ (.store 4 (.tmp 46) (.tmp 44)) rfl ?_; refine Kd.R_store k26 (w0 := w) w.heap.size rfl rfl 4 _ _ rfl 26 (k : Int) 3 l0 (⟨x.f0, x.f1, x.f2, !sp⟩ : S26) (.bool (!sp)) [.bool (!sp)] [.int .u16 x.f0, .int .u16 x.f1, .slice A2 x.f2.length c2, .bool false] (fun _ => True) (fun q => True ∧ q ≠ g) rfl rfl rfl rfl (by kernel_rfl) (by simp [Value.oneCell']) HO5.out (Int.natCast_nonneg k) (Int.ofNat_lt.2 HKL.out) rfl HX5.out (show 3 + 1 ≤ 4 by decide) HM5.out (fun q hq => hq) HB05.out ?_; intro w6 hO6 hb6 hg6; have HO6 := Aside0.mk hO6; have HB6 := Aside0.mk hb6; have HG6 := Aside0.mk hg6; clear hO6 hb6 hg6; refine hold_ ?_)
      intro _
      have hM6 : ∀ q, w3.heap.size ≤ q → q < w5.heap.size → w6.heap[q]? = w5.heap[q]? := fun q hq hlt => HG6.out.block q hlt (fun e => (HNE.out q hq).2 (by cases e; rfl))
      obtain ⟨v9, y0, y1, y2, y3, _⟩ := own_at (k := k) HO6.out (by rw [List.length_set]; exact HKL.out)
      rw [Int.toNat_natCast, rd_set l0 k _ HKL.out] at y0 y1 y3
      have HX6 := Aside0.mk (cells_at (k := k) y0 y1 y2 y3)
      clear y0 y1 y2 y3
      have HM6 : Aside0 (k26.M w6 w.heap.size (fun q => w3.heap.size ≤ q) ⟨x.f0, x.f1, b, !sp⟩ [.int .u16 x.f0, .int .u16 x.f1, .slice A4 b.length c4, .bool (!sp)]) := ⟨k26_mkM w6 w.heap.size _ (⟨x.f0, x.f1, b, !sp⟩ : S26) (Kd.R_lower (Kd.R_mono (Kd.R_step (Kd.R_bound (Kd.R_below HR4.out HB5.out)) (fun q hq hlt => hM6 q hq.2.1 hlt)) (fun q hq => hq.2.1)) HB03.out.size)⟩
      clear hM6
      go_wp2_with (refine gate_ (.store 24 (.tmp 51) (.tmp 49)) rfl ?_; refine Kd.R_store k26 (w0 := w) w.heap.size rfl rfl 24 _ _ rfl 26 (k : Int) 2 _ (⟨x.f0, x.f1, b, !sp⟩ : S26) (.slice A4 b.length c4) [.slice A4 b.length c4] [.int .u16 x.f0, .int .u16 x.f1, v9, .bool (!sp)] (fun _ => True) (fun q => w3.heap.size ≤ q) rfl rfl rfl rfl (by kernel_rfl) (by simp [Value.oneCell']) HO6.out (Int.natCast_nonneg k) (Int.ofNat_lt.2 HKL.out) rfl HX6.out (show 2 + 1 ≤ 4 by decide) HM6.out HNE.out HB6.out ?_; intro w7 hO7 hb7 hg7; have HO7 := Aside0.mk hO7; have HB7 := Aside0.mk hb7; clear hO7 hb7 hg7)
      go_ret2
      refine ⟨_, rfl, ?_, HB7.out⟩
      have h := HO7.out
      rw [Int.toNat_natCast, List.set_set] at h
      unfold flip1
      rw [HBB.out, HSP.out]
      exact h
  · rw [if_neg hin]
    go_enter Try.func15, Try.ntmps15
    go_wp2_with fail
    refine HC.out.mono ?_
    rintro e w2 ⟨v, rfl, hR, hb2⟩
    obtain ⟨A, c, rfl, hlc, hCC⟩ := Kd.R_reads hR
    have HR := Aside0.mk hR
    have HB := Aside0.mk hb2
    have HPL := Aside0.mk (place_ok A c l0 i w2 hCC hlc)
    rw [decide_eq_false hin] at HPL
    clear hR hb2 hlc hCC hin
    go_wp2_with fail
    refine HPL.out.mono ?_
    rintro e w3 ⟨rfl, hb3⟩
    have HB3 := Aside0.mk hb3
    clear hb3
    go_wp2_with fail
    go_ret2
    exact ⟨_, rfl, Kd.R_below HR.out HB3.out, below_then HB.out HB.out.size HB3.out⟩
#print axioms flip_calls
end Go.Proofs.Ytakbkpgbchdocaa.H
