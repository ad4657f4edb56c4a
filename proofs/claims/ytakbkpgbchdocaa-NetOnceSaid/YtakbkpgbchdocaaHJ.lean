/- Mine. Chapter 39, by hand: the law NetOnce. -/
import Derived.Test.YtakbkpgbchdocaaHI
import Derived.StillTailTactics
namespace Go.Proofs.Ytakbkpgbchdocaa.H
open Go Go.Proofs Go.RowKit Go.Lib Go.Proofs.Ytakbkpgbchdocaa.P Go.Proofs.YtakbkpgbchdocaaW.PrintWords Go.Proofs.YtakbkpgbchdocaaW.PrintLast Go.Proofs.YtakbkpgbchdocaaW.PrintMore Go.Proofs.YtakbkpgbchdocaaW.PrintFlat
set_option linter.unusedVariables false
set_option linter.unusedSimpArgs false
theorem eqB_refl (a : List Int) : eqB a a = true := by unfold eqB; exact beq_self_eq_true _
theorem flip_facts (l : List S26) (i at_ mask : Int) (h0 : 0 ≤ i) (h1 : i < (l.length : Int)) :
    (flipF l i at_ mask).1.length = l.length ∧ ((flipF l i at_ mask).2 = if (rd_T26 l i).f3 = true then 14 else 0) ∧ (∀ k : Nat, (k : Int) ≠ i → rd_T26 (flipF l i at_ mask).1 k = rd_T26 l k) ∧
      (((rd_T26 (flipF l i at_ mask).1 i).f3 = true ∧ eqB (rd_T26 (flipF l i at_ mask).1 i).f2 (rd_T26 l i).f2 = (rd_T26 l i).f3) ∨ ((rd_T26 (flipF l i at_ mask).1 i).f3 = false ∧ (rd_T26 l i).f3 = false ∧ eqB (rd_T26 (flipF l i at_ mask).1 i).f2 (rd_T26 l i).f2 = true)) ∧
      (∀ x ∈ (flipF l i at_ mask).1, ∃ y ∈ l, x.f2.length = y.f2.length) := by
  obtain ⟨n, rfl⟩ : ∃ n : Nat, i = n := ⟨i.toNat, by omega⟩
  have hn : n < l.length := by omega
  unfold flipF
  rw [if_pos ⟨h0, h1⟩]
  by_cases hs : (rd_T26 l n).f3 = true
  · rw [if_pos hs]
    refine ⟨rfl, by simp [hs], fun k hk => rfl, .inl ⟨hs, by rw [hs]; exact eqB_refl _⟩, fun x hx => ⟨x, hx, rfl⟩⟩
  · rw [if_neg hs]
    have hs' : (rd_T26 l n).f3 = false := by simpa using hs
    refine ⟨by simp, by simp [hs'], fun k hk => ?_, ?_, fun x hx => ?_⟩
    · show rd_T26 (l.set (n : Int).toNat _) k = _
      rw [Int.toNat_natCast]
      unfold rd_T26
      simp only [Int.toNat_natCast, List.getD_eq_getElem?_getD]
      rw [List.getElem?_set_ne (by omega)]
    · show _ ∨ _
      rw [Int.toNat_natCast, rd_set l n _ hn]
      rw [show (flip1 (rd_T26 l n) at_ mask).f3 = !(eqB (flip1 (rd_T26 l n) at_ mask).f2 (rd_T26 l n).f2) from rfl, hs']
      generalize eqB (flip1 (rd_T26 l n) at_ mask).f2 (rd_T26 l n).f2 = b
      cases b <;> simp
    · rcases List.mem_or_eq_of_mem_set hx with h | h
      · exact ⟨x, h, rfl⟩
      · exact ⟨_, rd_mem l n h0 h1, by rw [h]; exact crcL_len _ _ _ _ _⟩
theorem still_tail_ {P : Program} {id : Nat} {Q : Exit → Act → World → Prop} {a : Act} {w : World} {l : List Oper} (n : Nat) (hm : P.follows .mixedOrders = true) (hB : Region.lexTailB .any l.toArray n = true)
    (h : ∀ w1, w1 = w.drew → wpStill P l.toArray w1 (fun a' => wpList P l.toArray Q (l.drop n) a' w1) (l.take n) a) : (Code.region id l.toArray true).wp P Q a w :=
  wp_region_still_tail n hm hB (h _ rfl)
theorem cv24 {w : World} {A : Option Addr} {n c : Nat} {xs : List Int} (h : Kd.C (Kd.int .u8) w A n xs) : (Go.convert 24 9 (.slice A n c)).run Try.prog w = .ok (.string (strOfNums xs)) w := Kd.C_string (P := Try.prog) (A := A) (c := c) Try.underlying24 Try.underlying5 Try.underlying9 h
set_option maxRecDepth 100000 in
set_option maxHeartbeats 8000000 in
theorem once_calls (k : Nat) (A0 : Option Addr) (c0 : Nat) (l0 : List S26) (i at_ mask : Int) (lg : Bool) (w : World) (hr0 : Kd.C k26 w A0 l0.length l0) (hc0 : l0.length ≤ c0) (hf : Fits l0) (hlg : annuletlaw39_large.f k l0 = some lg) :
    Calls Try.prog 5 #[.slice A0 l0.length c0, .int .i64 i, .int .i64 at_, .int .u32 mask] w fun e w' => e = .returned (.bool true) ∧ Below w.heap.size w w' := by
  have HLG := Aside0.mk (annuletlaw39_large.calls k A0 c0 l0 lg w hr0 hc0 hlg)
  have HR0 := Aside0.mk hr0
  have HC0 := Aside0.mk hc0
  have HF := Aside0.mk hf
  clear hr0 hc0 hlg
  have HAW : Aside0 (∀ V, Below w.heap.size w V → Calls Try.prog 7 #[] V fun e w' => e = .returned (.bool true) ∧ Below w.heap.size w w') := ⟨fun V hV => (awake_calls V).mono (fun e w' h => ⟨h.1, below_then hV hV.size h.2⟩)⟩
  by_cases hgo : lg = false ∧ 0 ≤ i ∧ i < (l0.length : Int)
  · obtain ⟨rfl, h0, h1⟩ := hgo
    obtain ⟨hL, hE, hO, hS, hB⟩ := flip_facts l0 i at_ mask h0 h1
    have HFL : Aside0 (∀ V, Below w.heap.size w V → Calls Try.prog 15 #[.slice A0 l0.length c0, .int .i64 i, .int .i64 at_, .int .u32 mask] V (OutP (flipF l0 i at_ mask).1 (flipF l0 i at_ mask).2 V)) := ⟨fun V hV => flip_calls A0 l0.length c0 l0 i at_ mask V (Kd.C_below HR0.out hV) HC0.out HF.out⟩
    obtain ⟨aY, haY⟩ : ∃ aY, (flipF l0 i at_ mask).1 = aY := ⟨_, rfl⟩
    obtain ⟨en, hen⟩ : ∃ en, (flipF l0 i at_ mask).2 = en := ⟨_, rfl⟩
    rw [haY, hen] at HFL
    rw [haY] at hL hO hS hB
    rw [hen] at hE
    obtain ⟨ad, A2, c2, hA, x0, x1, x2, x3, hl2, hC2⟩ := at_T26 HR0.out i h0 h1
    subst hA
    obtain ⟨hL2, hE2, _, _, _⟩ := flip_facts aY i at_ mask h0 (by rw [hL]; exact h1)
    have hfa : Fits aY := ⟨by rw [hL]; exact HF.out.1, fun z hz => by obtain ⟨z', hz', e⟩ := hB z hz; rw [e]; exact HF.out.2 z' hz'⟩
    have HFL2 : Aside0 (∀ V A c, Kd.C k26 V A l0.length aY → l0.length ≤ c → Calls Try.prog 15 #[.slice A l0.length c, .int .i64 i, .int .i64 at_, .int .u32 mask] V (OutP (flipF aY i at_ mask).1 (flipF aY i at_ mask).2 V)) := ⟨fun V A c hV hc => flip_calls A l0.length c aY i at_ mask V hV hc hfa⟩
    obtain ⟨bY, hbY⟩ : ∃ bY, (flipF aY i at_ mask).1 = bY := ⟨_, rfl⟩
    obtain ⟨en2, hen2⟩ : ∃ en2, (flipF aY i at_ mask).2 = en2 := ⟨_, rfl⟩
    rw [hbY, hen2] at HFL2
    rw [hen2] at hE2
    obtain ⟨y, hy⟩ : ∃ y, rd_T26 aY i = y := ⟨_, rfl⟩
    rw [hy] at hE2 hS
    have HYY := Aside0.mk hy
    have HE2 := Aside0.mk hE2
    clear hL2 hE2 hfa hbY hen2 hy
    obtain ⟨x, hx⟩ : ∃ x, rd_T26 l0 i = x := ⟨_, rfl⟩
    rw [hx] at x0 x1 x2 x3 hl2 hC2 hE hS
    have HX2 := Aside0.mk x2
    have HX3 := Aside0.mk x3
    have HY := Aside0.mk (And.intro hl2 hC2)
    have HO := Aside0.mk hO
    have HS := Aside0.mk hS
    have HLB := Aside0.mk (And.intro hL hB)
    have HI := Aside0.mk (And.intro h0 h1)
    have HXX := Aside0.mk hx
    have HEE := Aside0.mk hE
    have hln : l0.length ≤ 3518437208883 := by have := HF.out.1; omega
    have p0 : (i < 0) = False := eq_false (by omega)
    have p1 : ((l0.length : Int) ≤ i) = False := eq_false (by omega)
    have p2 : (0 ≤ i) = True := eq_true h0
    have p3 : (i < (l0.length : Int)) = True := eq_true h1
    clear haY hen hO hS hB hL x0 x1 x2 x3 hl2 hC2 h0 h1 hx hE hf
    obtain ⟨xs, hxs⟩ : ∃ xs, x.f3 = xs := ⟨_, rfl⟩
    rw [hxs] at HX3 HEE
    have HXS := Aside0.mk hxs
    clear hxs
    cases xs
    all_goals
      first
        | obtain rfl : en = 14 := HEE.out
        | obtain rfl : en = 0 := HEE.out
      go_enter Try.func5, Try.ntmps5
      go_wp2_with fail
      refine HLG.out.mono ?_
      rintro e w1 ⟨rfl, hb1⟩
      have HB1 := Aside0.mk hb1
      clear hb1
      go_wp2_with fail
      refine (HFL.out w1 HB1.out).mono ?_
      rintro e w2 ⟨v, rfl, hR, hb2⟩
      obtain ⟨A, c, rfl, hlc, hCC⟩ := Kd.R_reads hR
      rw [HLB.out.1] at hR hlc hCC ⊢
      have HR := Aside0.mk hCC
      have HLC := Aside0.mk hlc
      have HB2 := Aside0.mk hb2
      have HB02 := Aside0.mk (below_then HB1.out HB1.out.size hb2)
      have x3 := (HB02.out.cell (World.block_lt_of_cell? _ _ HX3.out)).trans HX3.out
      clear hR hlc hCC hb2
      go_wp2_with fail
      clear x3
      go_loopg [11] l0.length (fun gg s11 wr => ∃ kk : Nat, kk ≤ l0.length ∧ l0.length - kk ≤ gg ∧ s11 = .int .i64 kk ∧ Aside0 (Below w2.heap.size w2 wr))
      case atStart => exact ⟨0, Nat.zero_le _, by omega, rfl, ⟨Below.refl _ w2⟩⟩
      case round =>
        obtain ⟨kk, hkk, hgg, rfl, HBk⟩ := hrel
        by_cases hlt : kk < l0.length
        · have q0 : (0 ≤ (kk : Int)) = True := eq_true (by omega)
          have q1 : ((kk : Int) < (l0.length : Int)) = True := eq_true (by omega)
          have HKK := Aside0.mk hlt
          by_cases hki : (kk : Int) = i
          · have hki' : ((kk : Int) != i) = false := by simp [hki]
            replace hki := eq_true hki
            go_wp2_with fail
            go_quiet (fail)
            go_wp2_with fail
            go_roundg (l0.length - (kk + 1))
            case measure => omega
            case rel => exact ⟨kk + 1, HKK.out, Nat.le_refl _, by go_num, ⟨pw_below_drewN HBk.out _⟩⟩
          · have hne : ((kk : Int) != i) = true := by simp [hki]
            have HNK := Aside0.mk (HO.out kk hki)
            obtain ⟨ad', A3, c3, hA, y0, y1, y2, y3, hl3, hC3⟩ := at_T26 HR.out kk (Int.natCast_nonneg kk) (Int.ofNat_lt.2 hlt)
            subst hA
            obtain ⟨ad2, A4, c4, hA, z0, z1, z2, z3, hl4, hC4⟩ := at_T26 HR0.out kk (Int.natCast_nonneg kk) (Int.ofNat_lt.2 hlt)
            obtain rfl := Option.some.inj hA
            rw [HNK.out] at y2 y3 hC3
            obtain ⟨y, hy⟩ : ∃ y, rd_T26 l0 (kk : Int) = y := ⟨_, rfl⟩
            rw [hy] at y2 y3 z2 z3 hC3 hC4
            have HB0k := Aside0.mk (below_then HB02.out HB02.out.size HBk.out)
            replace y2 := pw_cell_below HBk.out y2
            replace y3 := pw_cell_below HBk.out y3
            replace z2 := pw_cell_below HB0k.out z2
            replace z3 := pw_cell_below HB0k.out z3
            simp only [Int.toNat_natCast] at y2 y3 z2 z3
            have v1 : ∀ n, (Go.convert 24 9 (.slice A3 y.f2.length c3)).run Try.prog (wr.drewN n) = .ok (.string (strOfNums y.f2)) (wr.drewN n) := fun n => cv24 (Kd.C_below hC3 (pw_below_drewN HBk.out n))
            have v2 : ∀ n, (Go.convert 24 9 (.slice A4 y.f2.length c4)).run Try.prog (wr.drewN n) = .ok (.string (strOfNums y.f2)) (wr.drewN n) := fun n => cv24 (Kd.C_below hC4 (pw_below_drewN HB0k.out n))
            clear y0 y1 z0 z1 hl3 hl4 hC3 hC4 hy hki
            go_wp2_with fail
            go_quiet (fail)
            go_wp2_with fail
            go_roundg (l0.length - (kk + 1))
            case measure => omega
            case rel => exact ⟨kk + 1, HKK.out, Nat.le_refl _, by go_num, ⟨pw_below_drewN HBk.out _⟩⟩
        · have hkl : kk = l0.length := by omega
          subst hkl
          have q1 : ((l0.length : Int) < (l0.length : Int)) = False := eq_false (by omega)
          have HB0k := Aside0.mk (below_then HB02.out HB02.out.size HBk.out)
          go_wp2_with fail
          refine (HFL2.out wr A c (Kd.C_below HR.out HBk.out) HLC.out).mono ?_
          rintro e w4 ⟨v4, rfl, _, hb4⟩
          have HB04 := Aside0.mk (below_then HB0k.out HB0k.out.size hb4)
          have HB24 := Aside0.mk (below_then HBk.out HBk.out.size hb4)
          obtain ⟨ad', A3, c3, hA, y0, y1, y2, y3, hl3, hC3⟩ := at_T26 HR.out i HI.out.1 HI.out.2
          subst hA
          rw [HYY.out] at y2 y3 hC3
          replace y2 := pw_cell_below HB24.out y2
          replace y3 := pw_cell_below HB24.out y3
          have x2 := pw_cell_below HB04.out HX2.out
          have x3 := pw_cell_below HB04.out HX3.out
          have v1 : ∀ n, (Go.convert 24 9 (.slice A3 y.f2.length c3)).run Try.prog (w4.drewN n) = .ok (.string (strOfNums y.f2)) (w4.drewN n) := fun n => cv24 (Kd.C_below hC3 (pw_below_drewN HB24.out n))
          have v2 : ∀ n, (Go.convert 24 9 (.slice A2 x.f2.length c2)).run Try.prog (w4.drewN n) = .ok (.string (strOfNums x.f2)) (w4.drewN n) := fun n => cv24 (Kd.C_below HY.out.2 (pw_below_drewN HB04.out n))
          have hbb : ∃ ys eb, y.f3 = ys ∧ eqB y.f2 x.f2 = eb ∧ en2 = (if ys = true then 14 else 0) ∧ ((ys = true ∧ eb = x.f3) ∨ (ys = false ∧ x.f3 = false ∧ eb = true)) := ⟨_, _, rfl, rfl, HE2.out, HS.out⟩
          rw [HXS.out] at hbb
          have HBB := Aside0.mk hbb
          clear y0 y1 hl3 hC3 hb4 hbb q1
          have hw2 : ∀ {P : World → Prop}, P (w4.drewN 1) → P w4.drew := fun h => h
          go_wp2_with fail
          obtain ⟨ys, eb, hys, heb, hen2, hcc⟩ := HBB.out
          rw [hys] at y3
          have heq : ((strOfNums y.f2).toList == (strOfNums x.f2).toList) = eb := heb
          clear hys heb HBB
          rcases hcc with ⟨rfl, hcc⟩ | ⟨rfl, hc2, hcc⟩
          · subst hcc
            obtain rfl : en2 = 14 := hen2
            have HB5 : Aside0 (Below w.heap.size w w4.drew) := ⟨HB04.out.drew⟩
            have x2' : w4.drew.cell? _ = _ := x2
            have x3' : w4.drew.cell? _ = _ := x3
            have y2' : w4.drew.cell? _ = _ := y2
            have y3' : w4.drew.cell? _ = _ := y3
            have v1' := v1 1
            have v2' := v2 1
            rw [show w4.drewN 1 = w4.drew from rfl] at v1' v2'
            clear x2 x3 y2 y3 v1 v2 hw2
            refine still_tail_ 36 (by kernel_rfl) (by kernel_rfl) (fun w5 hw5 => ?_)
            rw [← hw5] at HB5 x2' x3' y2' y3' v1' v2'
            clear hw5
            simp only [List.take_succ_cons, List.take_zero, List.drop_succ_cons, List.drop_zero]
            repeat still_step
            refine wpStill_nil ?_
            go_wp2_with fail
            refine (HAW.out w5 HB5.out).mono ?_
            rintro e w6 ⟨rfl, hb6⟩
            have HB6 := Aside0.mk hb6
            clear hb6 x2' x3' y2' y3' v1' v2'
            go_wp2_with fail
            go_ret
            exact ⟨rfl, HB6.out⟩
          · first | (exact absurd hc2 (by decide)) | skip
            all_goals
              subst hcc
              obtain rfl : en2 = 0 := hen2
              have HB5 : Aside0 (Below w.heap.size w w4.drew) := ⟨HB04.out.drew⟩
              have x2' : w4.drew.cell? _ = _ := x2
              have x3' : w4.drew.cell? _ = _ := x3
              have y2' : w4.drew.cell? _ = _ := y2
              have y3' : w4.drew.cell? _ = _ := y3
              have v1' := v1 1
              have v2' := v2 1
              rw [show w4.drewN 1 = w4.drew from rfl] at v1' v2'
              clear x2 x3 y2 y3 v1 v2 hw2
              refine still_tail_ 36 (by kernel_rfl) (by kernel_rfl) (fun w5 hw5 => ?_)
              rw [← hw5] at HB5 x2' x3' y2' y3' v1' v2'
              clear hw5
              simp only [List.take_succ_cons, List.take_zero, List.drop_succ_cons, List.drop_zero]
              repeat still_step
              refine wpStill_nil ?_
              go_wp2_with fail
              refine (HAW.out w5 HB5.out).mono ?_
              rintro e w6 ⟨rfl, hb6⟩
              have HB6 := Aside0.mk hb6
              clear hb6 x2' x3' y2' y3' v1' v2'
              go_wp2_with fail
              go_ret
              exact ⟨rfl, HB6.out⟩
  · have hcs : lg = true ∨ (lg = false ∧ i < 0) ∨ (lg = false ∧ 0 ≤ i ∧ (l0.length : Int) ≤ i) := by
      cases lg
      · refine .inr ?_
        have h2 : ¬(0 ≤ i ∧ i < (l0.length : Int)) := fun h => hgo ⟨rfl, h⟩
        rcases Int.lt_or_le i 0 with h | h
        · exact .inl ⟨rfl, h⟩
        · exact .inr ⟨rfl, h, by omega⟩
      · exact .inl rfl
    clear hgo hf
    rcases hcs with rfl | ⟨rfl, h⟩ | ⟨rfl, h, h2⟩
    all_goals
      try replace h := eq_true h
      try replace h2 := eq_true h2
      try have h3 : (i < 0) = False := eq_false (by have := of_eq_true h; omega)
      go_enter Try.func5, Try.ntmps5
      go_wp2_with fail
      refine HLG.out.mono ?_
      rintro e w1 ⟨rfl, hb1⟩
      have HB1 := Aside0.mk hb1
      clear hb1
      go_wp2_with fail
      refine (HAW.out _ HB1.out).mono ?_
      rintro e w2 ⟨rfl, hb2⟩
      have HB2 := Aside0.mk hb2
      clear hb2
      go_wp2_with fail
      go_ret
      exact ⟨rfl, HB2.out⟩
#print axioms once_calls
end Go.Proofs.Ytakbkpgbchdocaa.H
