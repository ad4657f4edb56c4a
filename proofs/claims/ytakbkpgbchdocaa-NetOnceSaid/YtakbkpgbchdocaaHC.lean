/- Mine. Chapter 39, by hand: net.Send, net.Double. -/
import Derived.Test.YtakbkpgbchdocaaHB
namespace Go.Proofs.Ytakbkpgbchdocaa.H
open Go Go.Proofs Go.RowKit Go.Lib Go.Proofs.Ytakbkpgbchdocaa.P Go.Proofs.YtakbkpgbchdocaaW.PrintWords Go.Proofs.YtakbkpgbchdocaaW.PrintLast Go.Proofs.YtakbkpgbchdocaaW.PrintMore Go.Proofs.YtakbkpgbchdocaaW.PrintFlat
set_option linter.unusedVariables false
set_option linter.unusedSimpArgs false
def sendF (l : List S26) (p : S26) : List S26 × Int := if (p.f2.length : Int) > 65507 then (l, 5) else if (l.length : Int) ≥ 1024 then (l, 10) else (l ++ [p], 0)
/-- A row of packets that is made, and an error's number. -/
def OutP (ys : List S26) (en : Int) (w : World) (e : Ending) (w' : World) : Prop := ∃ v : Value, e = .returned (.tuple #[v, .int .i64 en]) ∧ Kd.R k26 26 w' w.heap.size (fun _ => True) v ys ∧ Below w.heap.size w w'
/-- Rows that are not too long for the machine. -/
def Fits (l : List S26) : Prop := l.length * 40 ≤ 140737488351232 ∧ ∀ x ∈ l, x.f2.length ≤ 140737488351232
set_option maxRecDepth 100000 in
set_option maxHeartbeats 4000000 in
theorem send_calls (A0 : Option Addr) (n0 c0 : Nat) (l0 : List S26) (p : S26) (A1 : Option Addr) (n1 c1 : Nat) (w : World) (hr0 : Kd.C k26 w A0 n0 l0) (hc0 : n0 ≤ c0) (hf : Fits l0) (hr1 : Kd.C (Kd.int .u8) w A1 n1 p.f2) (hc1 : n1 ≤ c1) (hf1 : p.f2.length ≤ 140737488351232) :
    Calls Try.prog 9 #[.slice A0 n0 c0, .agg #[.int .u16 p.f0, .int .u16 p.f1, .slice A1 n1 c1, .bool p.f3]] w (OutP (sendF l0 p).1 (sendF l0 p).2 w) := by
  obtain rfl : l0.length = n0 := hr0.1
  obtain rfl : p.f2.length = n1 := hr1.1
  obtain ⟨W, hW⟩ : ∃ W, w.alloc (.cells #[.int .u16 p.f0, .int .u16 p.f1, .slice A1 p.f2.length c1, .bool p.f3] 26) = W := ⟨_, rfl⟩
  have hbW : Below w.heap.size w W := by rw [← hW]; exact below_alloc (Below.refl _ _) _
  have hgW : W.heap[w.heap.size]? = some (.cells #[.int .u16 p.f0, .int .u16 p.f1, .slice A1 p.f2.length c1, .bool p.f3] 26 (0, 0)) := by rw [← hW]; exact heap_alloc_new w _
  have hsW : W.heap.size = w.heap.size + 1 := by rw [← hW]; simp
  obtain ⟨g, hg⟩ : ∃ g, w.heap.size = g := ⟨_, rfl⟩
  rw [hg] at hgW hsW
  have HGG := Aside0.mk hg
  have HC := Aside0.mk (copied_calls A0 l0.length c0 l0 W (Kd.C_below hr0 hbW) hc0 (by have := hf.1; omega) (fun x hx => by have := hf.2 x hx; omega))
  have HR1 := Aside0.mk hr1
  have HF := Aside0.mk (And.intro hf (And.intro hc1 hf1))
  have HBW := Aside0.mk hbW
  have HGW := Aside0.mk hgW
  have HSW := Aside0.mk hsW
  have HW := Aside0.mk hW
  clear hr0 hr1 hf hf1 hc1 hbW hgW hsW
  unfold sendF
  by_cases hlong : (p.f2.length : Int) > 65507
  · rw [if_pos hlong]
    go_enter Try.func9, Try.ntmps9
    go_wp2_with fail
    refine HC.out.mono ?_
    rintro e w2 ⟨v, rfl, hR, hb⟩
    have HR := Aside0.mk hR
    have HB := Aside0.mk hb
    obtain ⟨x0, x1, x2, x3, y0, y1, y2, y3⟩ := box4f ((hb.block g (by have := HSW.out; omega)).trans HGW.out)
    clear hR hb hW x0 x1 x3 y0 y1 y2 y3
    go_wp2_with fail
    go_ret2
    exact ⟨v, rfl, Kd.R_lower HR.out (by have := HSW.out; have := HGG.out; omega), HBW.out.trans (HB.out.mono (by have := HSW.out; have := HGG.out; omega))⟩
  · rw [if_neg hlong]
    by_cases hfull : (l0.length : Int) ≥ 1024
    · rw [if_pos hfull]
      go_enter Try.func9, Try.ntmps9
      go_wp2_with fail
      refine HC.out.mono ?_
      rintro e w2 ⟨v, rfl, hR, hb⟩
      have HR := Aside0.mk hR
      have HB := Aside0.mk hb
      obtain ⟨x0, x1, x2, x3, y0, y1, y2, y3⟩ := box4f ((hb.block g (by have := HSW.out; omega)).trans HGW.out)
      obtain ⟨A, c, rfl, _, _⟩ := Kd.R_reads hR
      clear hR hb hW x0 x1 x3 y0 y1 y2 y3
      go_wp2_with fail
      go_ret2
      exact ⟨_, rfl, Kd.R_lower HR.out (by have := HSW.out; have := HGG.out; omega), HBW.out.trans (HB.out.mono (by have := HSW.out; have := HGG.out; omega))⟩
    · rw [if_neg hfull]
      go_enter Try.func9, Try.ntmps9
      go_wp2_with fail
      refine HC.out.mono ?_
      rintro e w2 ⟨v, rfl, hR, hb⟩
      have HR := Aside0.mk hR
      have HB := Aside0.mk hb
      have hgb := (hb.block g (by have := HSW.out; omega)).trans HGW.out
      have HGB := Aside0.mk hgb
      obtain ⟨x0, x1, x2, x3, y0, y1, y2, y3⟩ := box4f hgb
      obtain ⟨A, c, rfl, _, _⟩ := Kd.R_reads hR
      clear hR hb hW x0 x1 x3 y0 y1 y2 y3 hgb
      go_wp2_with fail
      refine (bclone_calls A1 p.f2.length c1 p.f2 w2 (Kd.C_below (Kd.C_below HR1.out HBW.out) HB.out) HF.out.2.1 (by have := HF.out.2.2; omega)).mono ?_
      rintro e w3 ⟨v1, rfl, hR1, hb1⟩
      obtain ⟨B1, d1, rfl, hd1, _⟩ := Kd.R_reads hR1
      have HR1' := Aside0.mk hR1
      have HB1 := Aside0.mk hb1
      have hgb := (hb1.block g (blk_lt HGB.out)).trans HGB.out
      obtain ⟨x0, x1, x2', x3, y0, y1, y2, y3⟩ := box4f hgb
      have hgb2 := blk_put hgb 2 (.slice B1 p.f2.length d1) (cs' := #[.int .u16 p.f0, .int .u16 p.f1, .slice B1 p.f2.length d1, .bool p.f3]) rfl
      obtain ⟨z0, z1, z2, z3, _, _, _, _⟩ := box4f hgb2
      have HGB2 := Aside0.mk hgb2
      clear hR1 hb1 hgb hgb2 x0 x1 x3 y0 y1 y3
      obtain ⟨V, hV⟩ : ∃ V, w3.setCell ⟨g, 2, none⟩ (.slice B1 p.f2.length d1) = V := ⟨_, rfl⟩
      have hgs := HSW.out
      have hw2 : W.heap.size ≤ w2.heap.size := HB.out.size
      have hV3 : V.heap.size = w3.heap.size := by rw [← hV]; simp [World.setCell]
      have hVm : ∀ k, W.heap.size ≤ k → V.heap[k]? = w3.heap[k]? := fun k hk => by rw [← hV]; exact Below.heap_setCell _ _ _ _ (by show k ≠ g; omega)
      have HO : Aside0 (Kd.R k26 26 V W.heap.size (fun _ => True) (.slice A l0.length c) l0) := ⟨Kd.R_mono (Kd.R_step (Kd.R_bound (Kd.R_below HR.out HB1.out)) (fun k hk _ => hVm k hk.2.1)) (fun _ _ => trivial)⟩
      have HP : Aside0 (k26.M V W.heap.size (fun k => w2.heap.size ≤ k) p [.int .u16 p.f0, .int .u16 p.f1, .slice B1 p.f2.length d1, .bool p.f3]) := ⟨k26_mkM V W.heap.size _ p (Kd.R_lower (Kd.R_mono (Kd.R_step (Kd.R_bound HR1'.out) (fun k hk _ => hVm k (Nat.le_trans hw2 hk.2.1))) (fun k hk => hk.2.1)) hw2)⟩
      have HNE : Aside0 (∀ k, w2.heap.size ≤ k → True ∧ some k ≠ (Value.slice A l0.length c).ownBlock) := ⟨fun k hk => ⟨trivial, fun e => by
        obtain ⟨_, inner, hown, _⟩ := HR.out
        have := (hown.lt k e.symm).2
        omega⟩⟩
      have HVB : Aside0 (Below w.heap.size w V) := ⟨by
        rw [← hV]
        exact ((HBW.out.trans (HB.out.mono (by have := HGG.out; omega))).trans (HB1.out.mono (by have := HGG.out; omega))).setCell (by show w.heap.size ≤ g; rw [HGG.out]; exact Nat.le_refl _) _⟩
      have HSZ : Aside0 (W.heap.size ≤ V.heap.size) := ⟨by rw [hV3]; exact Nat.le_trans hw2 HB1.out.size⟩
      have hvs : (w3.setCell ⟨g, 2, none⟩ (.slice B1 p.f2.length d1)).heap.size = w3.heap.size := by simp [World.setCell]
      rw [hV] at z0 z1 z2 z3
      have HV3 := Aside0.mk hV3
      clear hVm hw2 hgs hvs hV3
      go_wp2_with (at_builtin; (refine Kd.R_append k26 (w0 := V) W.heap.size rfl _ _ 22 26 _ 40 rfl Try.underlying22 i26 rfl (by decide) (by decide) (.slice A l0.length c) l0 p [.int .u16 p.f0, .int .u16 p.f1, .slice B1 p.f2.length d1, .bool p.f3] (fun _ => True) (fun k => w2.heap.size ≤ k) rfl ?hx HP.out HNE.out (fun _ _ => trivial) HO.out (Below.refl _ _) HSZ.out ?hl ?_; (case hx => first | rfl | exact congrArg (fun n => Value.slice (some ⟨n, 0, none⟩) 1 1) HV3.out.symm); (case hl => have := HF.out.1.1; omega); intro v4 w4 hO4 hb4 hg4 hat4; obtain ⟨A4, c4, rfl, _, _⟩ := Kd.R_reads hO4; rw [show (l0 ++ [p]).length = l0.length + 1 from by simp] at hO4 ⊢; have HO4 := Aside0.mk hO4; have HB4 := Aside0.mk hb4; clear hO4 hb4 hg4 hat4))
      go_ret2
      have hle : w.heap.size ≤ W.heap.size := HBW.out.size
      refine ⟨_, rfl, ?_, ?_⟩
      · exact Kd.R_lower (base' := w.heap.size) HO4.out hle
      · exact HVB.out.trans (HB4.out.mono hle)
theorem place_ok (A0 : Option Addr) (c0 : Nat) (l0 : List S26) (i : Int) (w : World) (hr0 : Kd.C k26 w A0 l0.length l0) (hc0 : l0.length ≤ c0) :
    Calls Try.prog 21 #[.slice A0 l0.length c0, .int .i64 i] w fun e w' => e = .returned (.bool (decide (0 ≤ i ∧ i < (l0.length : Int)))) ∧ Below w.heap.size w w' := by
  refine (net_place.calls A0 c0 l0 i (decide (0 ≤ i ∧ i < (l0.length : Int))) w hr0 hc0 ?_).mono ?_
  · unfold net_place.f
    by_cases h : i ≥ 0
    · rw [if_pos h]
      congr 1
      by_cases h2 : i < (l0.length : Int)
      · simp [h2]; omega
      · simp [h2]
    · rw [if_neg h]
      congr 1
      simp; omega
  · rintro e w' ⟨rfl, ⟨n, rfl⟩⟩
    exact ⟨rfl, pw_below_drewN (Below.refl _ _) n⟩
def doubleF (l : List S26) (i : Int) : List S26 × Int := if 0 ≤ i ∧ i < (l.length : Int) then sendF l (rd_T26 l i) else (l, 1)
theorem rd_mem (l : List S26) (i : Int) (h0 : 0 ≤ i) (h1 : i < (l.length : Int)) : rd_T26 l i ∈ l := by
  unfold rd_T26
  rw [List.getD_eq_getElem?_getD, List.getElem?_eq_getElem (by omega)]
  exact List.getElem_mem _
set_option maxRecDepth 100000 in
set_option maxHeartbeats 4000000 in
theorem double_calls (A0 : Option Addr) (n0 c0 : Nat) (l0 : List S26) (i : Int) (w : World) (hr0 : Kd.C k26 w A0 n0 l0) (hc0 : n0 ≤ c0) (hf : Fits l0) :
    Calls Try.prog 13 #[.slice A0 n0 c0, .int .i64 i] w (OutP (doubleF l0 i).1 (doubleF l0 i).2 w) := by
  obtain rfl : l0.length = n0 := hr0.1
  have HP := Aside0.mk (place_ok A0 c0 l0 i w hr0 hc0)
  have HR0 := Aside0.mk hr0
  have HF := Aside0.mk (And.intro hf hc0)
  clear hf hc0
  unfold doubleF
  by_cases hin : 0 ≤ i ∧ i < (l0.length : Int)
  · rw [if_pos hin]
    rw [decide_eq_true hin] at HP
    obtain ⟨ad, A2, c2, rfl, x0, x1, x2, x3, hl2, hC2⟩ := at_T26 hr0 i hin.1 hin.2
    have hm := HF.out.1.2 _ (rd_mem l0 i hin.1 hin.2)
    obtain ⟨x, hx⟩ : ∃ x, rd_T26 l0 i = x := ⟨_, rfl⟩
    rw [hx] at x0 x1 x2 x3 hl2 hC2 hm ⊢
    have HX := Aside0.mk (And.intro x0 (And.intro x1 (And.intro x2 x3)))
    have HY := Aside0.mk (And.intro hl2 (And.intro hC2 hm))
    obtain ⟨hi0, hi1⟩ := hin
    have p0 : (0 ≤ i) = True := eq_true hi0
    have p1 : (i < (l0.length : Int)) = True := eq_true hi1
    clear hr0 x0 x1 x2 x3 hl2 hC2 hm hx
    go_enter Try.func13, Try.ntmps13
    go_wp2_with fail
    refine HP.out.mono ?_
    rintro e w1 ⟨rfl, hb1⟩
    have HB1 := Aside0.mk hb1
    have x0 := (hb1.cell (World.block_lt_of_cell? _ _ HX.out.1)).trans HX.out.1
    have x1 := (hb1.cell (World.block_lt_of_cell? _ _ HX.out.2.1)).trans HX.out.2.1
    have x2 := (hb1.cell (World.block_lt_of_cell? _ _ HX.out.2.2.1)).trans HX.out.2.2.1
    have x3 := (hb1.cell (World.block_lt_of_cell? _ _ HX.out.2.2.2)).trans HX.out.2.2.2
    clear hb1
    go_wp2_with fail
    refine (send_calls (some ad) l0.length c0 l0 x A2 x.f2.length c2 w1 (Kd.C_below HR0.out HB1.out) HF.out.2 HF.out.1 (Kd.C_below HY.out.2.1 HB1.out) HY.out.1 HY.out.2.2).mono ?_
    rintro e w2 ⟨v, rfl, hR, hb⟩
    have HR := Aside0.mk hR
    have HB := Aside0.mk hb
    obtain ⟨A, c, rfl, _, _⟩ := Kd.R_reads hR
    obtain ⟨en, hen⟩ : ∃ en, (sendF l0 x).2 = en := ⟨_, rfl⟩
    obtain ⟨yn, hyn⟩ : ∃ yn, (sendF l0 x).1.length = yn := ⟨_, rfl⟩
    rw [hyn] at HR ⊢
    rw [hen]
    clear hR hb x0 x1 x2 x3
    go_wp2_with fail
    go_ret2
    exact ⟨_, (by rw [hen]; rfl), Kd.R_lower (base' := w.heap.size) HR.out HB1.out.size, below_then HB1.out HB1.out.size HB.out⟩
  · rw [if_neg hin]
    rw [decide_eq_false hin] at HP
    clear hin
    go_enter Try.func13, Try.ntmps13
    go_wp2_with fail
    refine HP.out.mono ?_
    rintro e w1 ⟨rfl, hb1⟩
    have HB1 := Aside0.mk hb1
    clear hb1 hr0
    go_wp2_with fail
    refine (copied_calls A0 l0.length c0 l0 w1 (Kd.C_below HR0.out HB1.out) HF.out.2 (by have := HF.out.1.1; omega) (fun x hx => by have := HF.out.1.2 x hx; omega)).mono ?_
    rintro e w2 ⟨v, rfl, hR, hb⟩
    have HR := Aside0.mk hR
    have HB := Aside0.mk hb
    obtain ⟨A, c, rfl, _, _⟩ := Kd.R_reads hR
    clear hR hb
    go_wp2_with fail
    go_ret2
    exact ⟨_, rfl, Kd.R_lower (base' := w.heap.size) HR.out HB1.out.size, below_then HB1.out HB1.out.size HB.out⟩
#print axioms send_calls
#print axioms double_calls
end Go.Proofs.Ytakbkpgbchdocaa.H
