/- Mine. Chapter 39, by hand: slices.IndexFunc at packets, net.For. -/
import Derived.Test.YtakbkpgbchdocaaHF
import Derived.Test.YtakbkpgbchdocaaWIdx
namespace Go.Proofs.Ytakbkpgbchdocaa.H
open Go Go.Proofs Go.RowKit Go.Lib Go.Proofs.Ytakbkpgbchdocaa.P Go.Proofs.YtakbkpgbchdocaaW.PrintWords Go.Proofs.YtakbkpgbchdocaaW.PrintLast Go.Proofs.YtakbkpgbchdocaaW.PrintMore Go.Proofs.YtakbkpgbchdocaaW.PrintFlat Go.Proofs.YtakbkpgbchdocaaW.PrintIdx
set_option linter.unusedVariables false
set_option linter.unusedSimpArgs false
theorem enters_of {f : Nat} {fn : Func} (hf : Try.prog.funcs[f]? = some fn) (hname : (fn.name == "runtime.NumGoroutine") = false) (hb : fn.body.isSome = true) : ∀ args w, (callFunc f args).run Try.prog w = .ok (.enter f args) w := fun args w => enters_ hf hname hb args w
set_option maxHeartbeats 2000000 in
set_option maxRecDepth 100000 in
theorem idx26 (p : S26 → Bool) (g : Nat) (lb : Array Value) (eg : ∀ args w, (callFunc g args).run Try.prog w = .ok (.enter g args) w) (A0 : Option Addr) (c0 : Nat) (l0 : List S26) (w : World) (hr0 : Kd.C k26 w A0 l0.length l0)
    (hp : ∀ (W : World) (x : S26) (A : Option Addr) (c : Nat), Below w.heap.size w W → Calls Try.prog g (#[.agg #[.int .u16 x.f0, .int .u16 x.f1, .slice A x.f2.length c, .bool x.f3]] ++ lb) W fun e w' => e = .returned (.bool (p x)) ∧ Below W.heap.size W w') :
    Calls Try.prog 26 #[.slice A0 l0.length c0, .func (.func g) #[] lb] w fun e w' => e = .returned (.int .i64 (Go.Proofs.YtakbkpgbchdocaaW.PrintIdx.firstIdx p l0)) ∧ Below w.heap.size w w' := by
  have hu := Try.underlying26
  have HR := Aside0.mk hr0
  have HP := Aside0.mk hp
  have HN : l0.length ≤ 9223372036854775807 := hr0.2.1
  clear hr0 hp
  go_enter Try.func26, Try.ntmps26
  go_wp2
  go_loopg [5, 8] l0.length (fun gg _ s8 wr => ∃ kk : Nat, kk ≤ l0.length ∧ l0.length - kk ≤ gg ∧ s8 = .int .i64 kk ∧ Aside0 (Below w.heap.size w wr) ∧ Aside0 (∀ j, j < kk → p (rd_T26 l0 j) = false))
  case atStart => exact ⟨0, Nat.zero_le _, by omega, rfl, ⟨Below.refl _ w⟩, ⟨fun j hj => absurd hj (Nat.not_lt_zero _)⟩⟩
  case round =>
    obtain ⟨kk, hkk, hg, rfl, HB, HO⟩ := hrel
    by_cases hlt : kk < l0.length
    · have p1 : 0 ≤ ((kk : Nat) : Int) := by omega
      have q1 : ((kk : Nat) : Int) < (l0.length : Int) := by omega
      obtain ⟨ad, A2, c2, e1, hx0, hx1, hx2, hx3, hl2, hC2⟩ := at_T26 HR.out kk p1 q1
      cases e1
      replace hx0 := (HB.out.cell (World.block_lt_of_cell? w _ hx0)).trans hx0
      replace hx1 := (HB.out.cell (World.block_lt_of_cell? w _ hx1)).trans hx1
      replace hx2 := (HB.out.cell (World.block_lt_of_cell? w _ hx2)).trans hx2
      replace hx3 := (HB.out.cell (World.block_lt_of_cell? w _ hx3)).trans hx3
      simp only [Int.toNat_natCast] at hx0 hx1 hx2 hx3
      have hcall := HP.out wr (rd_T26 l0 kk) A2 c2 HB.out
      obtain ⟨y, hy⟩ : ∃ y, rd_T26 l0 kk = y := ⟨_, rfl⟩
      rw [hy] at hcall hx0 hx1 hx2 hx3
      have HY := Aside0.mk hy
      clear hy hl2 hC2
      obtain ⟨b, hb0⟩ : ∃ b, p y = b := ⟨_, rfl⟩
      rw [hb0] at hcall
      have HPY := Aside0.mk hb0
      clear hb0
      have HC := Aside0.mk hcall
      clear hcall
      go_wp2_with fail
      refine HC.out.mono ?_
      rintro e w1 ⟨rfl, hb⟩
      have HB2 := Aside0.mk (below_then HB.out HB.out.size hb)
      clear hb HC HP hx0 hx1 hx2 hx3 eg
      cases b with
      | true =>
        go_wp2
        go_ret
        refine ⟨?_, HB2.out⟩
        have h := Go.Proofs.YtakbkpgbchdocaaW.PrintIdx.firstIdx_hit p l0 z26 kk hlt (by have h := HPY.out; rw [← HY.out] at h; simpa [rd_T26] using h) (fun j hj => by have := HO.out j hj; simpa [rd_T26] using this)
        rw [h]
        rfl
      | false =>
        go_wp2
        go_roundg (l0.length - (kk + 1))
        case measure => omega
        case rel =>
          refine ⟨kk + 1, by omega, by omega, by go_num, HB2, ⟨fun j hj => ?_⟩⟩
          rcases Nat.lt_or_ge j kk with h | h
          · exact HO.out j h
          · obtain rfl : j = kk := by omega
            rw [HY.out]; exact HPY.out
    · have : kk = l0.length := by omega
      have hn : ¬ ((kk : Nat) : Int) < (l0.length : Int) := by omega
      go_wp2
      go_ret
      refine ⟨?_, HB.out⟩
      rw [Go.Proofs.YtakbkpgbchdocaaW.PrintIdx.firstIdx_miss p l0 z26 (fun j hj => by have := HO.out j (by omega); simpa [rd_T26] using this)]
      rfl
set_option maxRecDepth 100000 in
theorem for_clo (x : S26) (A : Option Addr) (c : Nat) (a1 : Int) (B0 : Nat) (W : World) (hb0 : W.cell? ⟨B0, 0, none⟩ = some (.int .u16 a1)) :
    Calls Try.prog 27 #[.agg #[.int .u16 x.f0, .int .u16 x.f1, .slice A x.f2.length c, .bool x.f3], .pointer (some ⟨B0, 0, none⟩)] W fun e w' => e = .returned (.bool (x.f1 == a1)) ∧ Below W.heap.size W w' := by
  have hu := Try.underlying26
  have hp0 : (W.alloc (.cells #[.int .u16 x.f0, .int .u16 x.f1, .slice A x.f2.length c, .bool x.f3] 26)).cell? ⟨B0, 0, none⟩ = some (.int .u16 a1) := pw_cell_below (below_alloc (Below.refl _ _) _) hb0
  go_enter Try.func27, Try.ntmps27
  go_wp2
  all_goals go_ret
  all_goals exact ⟨by first | rfl | simp_all, below_alloc (Below.refl _ _) _⟩
set_option maxHeartbeats 1000000 in
set_option maxRecDepth 100000 in
theorem for_calls (A0 : Option Addr) (c0 : Nat) (l0 : List S26) (a1 : Int) (w : World) (hr0 : Kd.C k26 w A0 l0.length l0) :
    Calls Try.prog 17 #[.slice A0 l0.length c0, .int .u16 a1] w fun e w' => e = .returned (.int .i64 (Go.Proofs.YtakbkpgbchdocaaW.PrintIdx.firstIdx (fun x => x.f1 == a1) l0)) ∧ Below w.heap.size w w' := by
  have hB : Below w.heap.size w (w.alloc (.cells #[.int .u16 a1] 23)) := (Below.refl w.heap.size w).alloc (by simp) _
  have hc := idx26 (fun x => x.f1 == a1) 27 #[.pointer (some ⟨w.heap.size, 0, none⟩)] (enters_of Try.func27 (by kernel_rfl) rfl) A0 c0 l0 (w.alloc (.cells #[.int .u16 a1] 23)) (Kd.C_below hr0 hB) (fun W x A c hb => for_clo x A c a1 w.heap.size W ((hb.cell (p := ⟨w.heap.size, 0, none⟩) (by simp)).trans (by simp)))
  have HC := Aside0.mk hc
  have HB := Aside0.mk hB
  clear hc hB hr0
  go_enter Try.func17, Try.ntmps17
  go_wp2_with fail
  refine HC.out.mono ?_
  rintro e w1 ⟨rfl, hb⟩
  go_wp2
  go_ret
  exact ⟨rfl, below_then HB.out HB.out.size hb⟩
#print axioms for_calls
end Go.Proofs.Ytakbkpgbchdocaa.H
