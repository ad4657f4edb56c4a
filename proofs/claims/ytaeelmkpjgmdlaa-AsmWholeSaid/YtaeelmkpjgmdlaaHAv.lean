/- Mine. Chapter 23, by hand: the chapter's example. -/
import Derived.Test.YtaeelmkpjgmdlaaHAt
import Derived.Lib.SlBytesConst
namespace Go.Proofs.Ytaeelmkpjgmdlaa.H
open Go Go.Proofs Go.RowKit Go.Lib Go.Proofs.Ytaeelmkpjgmdlaa.P Go.Proofs.YtaeelmkpjgmdlaaW.PrintWords Go.Proofs.YtaeelmkpjgmdlaaW.PrintLast Go.Proofs.YtaeelmkpjgmdlaaW.PrintMore Go.Proofs.YtaeelmkpjgmdlaaW.PrintFlat Go.Proofs.Ytaeelmkpjgmdlaa.Seen
set_option linter.unusedVariables false
set_option linter.unusedSimpArgs false
def L1 : Room.Lim := ⟨2, 100, 2⟩
theorem lim1 : LimOk L1 := ⟨by decide, by decide, by decide, by decide, by decide, by decide⟩
theorem bdM0 (i : Int) : SBd ((fun _ => s0 : Int → SS) i) := s0_bd
theorem bdM1 (i : Int) : SBd (upM (fun _ => s0) 5 (true, 1, 3, 1) i) := by
  unfold upM
  split
  · exact ⟨by decide, by decide, by decide⟩
  · exact s0_bd
theorem lit_of {U : World} {z : Nat} {x : Int} {q : Nat × Nat} (h1 : U.heap[z]? = some (.cells #[.int .u8 x] 5 q)) : Kd.C (Kd.int .u8) U (some ⟨z, 0, none⟩) 1 [x] := by
  refine ⟨rfl, by simp, fun _ => ⟨_, rfl, fun j p hj => ?_⟩⟩
  rcases j with _ | j
  · simp only [List.getElem?_cons_zero, Option.some.injEq] at hj
    subst hj
    refine ⟨[.int .u8 x], rfl, rfl, fun i u hi => ?_⟩
    rcases i with _ | i
    · simp only [List.getElem?_cons_zero, Option.some.injEq] at hi
      subst hi
      unfold World.cell? Addr.add
      simp [h1]
    · simp at hi
  · simp at hj
theorem alloc4' {w W : World} {a b c d : Obj} (h : (((w.alloc a).alloc b).alloc c).alloc d = W) : Below w.heap.size w W ∧ W.heap.size = w.heap.size + 4 ∧ W.heap[w.heap.size]? = some a ∧ W.heap[w.heap.size + 1]? = some b ∧ W.heap[w.heap.size + 2]? = some c ∧ W.heap[w.heap.size + 3]? = some d := by
  obtain ⟨V, hV⟩ : ∃ V, (w.alloc a).alloc b = V := ⟨_, rfl⟩
  rw [hV] at h
  obtain ⟨h1, h2, h3, h4⟩ := alloc2 hV
  obtain ⟨k1, k2, k3, k4⟩ := alloc2 h
  rw [h2] at k3 k4
  refine ⟨below_then h1 h1.size k1, by omega, (k1.block _ (by omega)).trans h3, (k1.block _ (by omega)).trans h4, k3, k4⟩
set_option maxHeartbeats 8000000 in
set_option maxRecDepth 100000 in
theorem aawake_calls (W : World) : Calls Try.prog 18 #[] W fun e w' => e = .returned (.bool true) ∧ Below W.heap.size W w' := by
  have HN := Aside0.mk (anew_calls L1 W)
  go_enter Try.func18, Try.ntmps18
  go_wp2_with fail
  refine HN.out.mono ?_
  rintro e0 w1 ⟨hb1, (⟨_, a, rfl, hA0⟩ | ⟨h, _⟩)⟩
  case inr => exact absurd h (by decide)
  obtain ⟨z, hz⟩ : ∃ z, w1.heap.size = z := ⟨_, rfl⟩
  have hk1 : (Go.convert 36 36 (.slice (some ⟨w1.heap.size, 0, none⟩) 1 1)).run Try.prog (w1.alloc (.cells #[.int .u8 97] 5)) = .ok (.slice (some ⟨w1.heap.size, 0, none⟩) 1 1) (w1.alloc (.cells #[.int .u8 97] 5 (1, 2))) := Lib.run_convert_bytes_const w1 36 5 #[.int .u8 97] 1 1 Try.underlying36 Try.underlying5
  obtain ⟨V1, hV1⟩ : ∃ V1, (w1.alloc (.cells #[.int .u8 97] 5 (1, 2))).alloc (.cells #[.int .u8 1, .int .u8 0, .int .u32 1, .int .u32 3, .int .u16 0, .int .u16 2, .slice (some ⟨z, 0, none⟩) 1 1] 38) = V1 := ⟨_, rfl⟩
  have hz1 : V1.heap.size = z + 2 := by rw [← hV1, ← hz]; simp
  have hk2 : (Go.convert 36 36 (.slice (some ⟨z + 2, 0, none⟩) 1 1)).run Try.prog (V1.alloc (.cells #[.int .u8 98] 5)) = .ok (.slice (some ⟨z + 2, 0, none⟩) 1 1) (V1.alloc (.cells #[.int .u8 98] 5 (1, 2))) := by rw [← hz1]; exact Lib.run_convert_bytes_const V1 36 5 #[.int .u8 98] 1 1 Try.underlying36 Try.underlying5
  obtain ⟨V, hV⟩ : ∃ V, (V1.alloc (.cells #[.int .u8 98] 5 (1, 2))).alloc (.cells #[.int .u8 1, .int .u8 0, .int .u32 1, .int .u32 3, .int .u16 1, .int .u16 2, .slice (some ⟨z + 2, 0, none⟩) 1 1] 38) = V := ⟨_, rfl⟩
  have h4 : (((w1.alloc (.cells #[.int .u8 97] 5 (1, 2))).alloc (.cells #[.int .u8 1, .int .u8 0, .int .u32 1, .int .u32 3, .int .u16 0, .int .u16 2, .slice (some ⟨z, 0, none⟩) 1 1] 38)).alloc (.cells #[.int .u8 98] 5 (1, 2))).alloc (.cells #[.int .u8 1, .int .u8 0, .int .u32 1, .int .u32 3, .int .u16 1, .int .u16 2, .slice (some ⟨z + 2, 0, none⟩) 1 1] 38) = V := by rw [hV1]; exact hV
  obtain ⟨hbV, hsV, c0, c1, c2, c3⟩ := alloc4' h4
  rw [hz] at hbV hsV c0 c1 c2 c3
  have HA0 := Aside0.mk (hA0.below (by rw [hz]; exact hbV))
  have HF0 := Aside0.mk (below_then hb1 hb1.size (by rw [hz]; exact hbV))
  have HE0 : Aside0 (aOf [] = []) := ⟨rfl⟩
  have HI0 : Aside0 (RInv L1 (aOf [])) := ⟨RInv.nil lim1⟩
  have HN0 : Aside0 (0 ≤ 0) := ⟨Nat.le_refl _⟩
  have HO0 : Aside0 (∀ q, (W.heap.size ≤ q ∧ q < w1.heap.size) → W.heap.size ≤ q ∧ (q < z ∨ z + 4 ≤ q)) := ⟨fun q h => ⟨h.1, .inl (by omega)⟩⟩
  have HZx0 := Aside0.mk c0
  have HBx0 := Aside0.mk c1
  have HZy0 := Aside0.mk c2
  have HBy0 := Aside0.mk c3
  rw [hz] at hk1
  clear hb1 hA0 HN hbV hsV c0 c1 c2 c3 h4
  have ht1 := take_calls HA0.out lim1 HI0.out (fun i => bdM0 i) (by have := HN0.out; omega) 5 1 (by decide) ⟨0, 1, 3, 1, 2, [98]⟩ (by unfold Gm; simp) (by decide) (by decide) (some ⟨z + 2, 0, none⟩) 1 (by decide) (fun U hU => lit_of ((hU.block _ (blk_lt HZy0.out) (fun e => by have := HO0.out _ e; omega)).trans HZy0.out))
  rw [HE0.out, show takeR L1 [] (fun _ => s0) 5 1 ⟨0, 1, 3, 1, 2, [98]⟩ = (([⟨5, 1, 3, 2, 0, 0, [(1, [98])]⟩], (fun _ => s0)), [], false, 0) from rfl] at ht1
  have HT1 := Aside0.mk ht1
  obtain ⟨v0, v1, v2, v3, v4, v5, v6⟩ := box7c HBy0.out
  clear ht1
  go_wp2_with fail
  refine HT1.out.mono ?_
  rintro e1 u1 ⟨hf1, own1, os1, n1, v_1, hA1, hn1, ho1, ha1, rfl, B1, d1, rfl, hl1, hC1⟩
  have HA1 := Aside0.mk hA1
  have HE1 := Aside0.mk ha1
  have HQ1 := Aside0.mk ho1
  have HR1 := Aside0.mk hf1
  have HN1 : Aside0 (n1 ≤ 1) := ⟨by have := HN0.out; omega⟩
  have HC1 := Aside0.mk hC1
  have HF1 : Aside0 (Below W.heap.size W u1) := ⟨HF0.out.trans (hf1.below HF0.out.size (fun q hq => (HO0.out q hq).1))⟩
  have HO1 : Aside0 (∀ q, own1 q → W.heap.size ≤ q ∧ (q < z ∨ z + 4 ≤ q)) := ⟨fun q hq => by
    rcases ho1 q hq with h | h
    · exact HO0.out q h
    · have h1 := HF0.out.size
      have h2 := blk_lt HBy0.out
      omega⟩
  have HZx1 := Aside0.mk ((hf1.block _ (blk_lt HZx0.out) (fun e => by have := HO0.out _ e; omega)).trans HZx0.out)
  have HZy1 := Aside0.mk ((hf1.block _ (blk_lt HZy0.out) (fun e => by have := HO0.out _ e; omega)).trans HZy0.out)
  have HBx1 := Aside0.mk ((hf1.block _ (blk_lt HBx0.out) (fun e => by have := HO0.out _ e; omega)).trans HBx0.out)
  have HBy1 := Aside0.mk ((hf1.block _ (blk_lt HBy0.out) (fun e => by have := HO0.out _ e; omega)).trans HBy0.out)
  have HI1 : Aside0 (RInv L1 (aOf os1)) := ⟨by rw [ha1]; have h := put_inv lim1 (RInv.nil lim1) 5 ⟨0, 1, 3, 1, 2, [98]⟩ (by unfold Gm; simp); exact h⟩
  clear hA1 ha1 hn1 ho1 hl1 hC1 hf1 v0 v1 v2 v3 v4 v5 v6
  have ht2 := take_calls HA1.out lim1 HI1.out (fun i => bdM0 i) (by have := HN1.out; omega) 5 1 (by decide) ⟨0, 1, 3, 1, 2, [98]⟩ (by unfold Gm; simp) (by decide) (by decide) (some ⟨z + 2, 0, none⟩) 1 (by decide) (fun U hU => lit_of ((hU.block _ (blk_lt HZy1.out) (fun e => by have := HO1.out _ e; omega)).trans HZy1.out))
  rw [HE1.out, show takeR L1 [⟨5, 1, 3, 2, 0, 0, [(1, [98])]⟩] (fun _ => s0) 5 1 ⟨0, 1, 3, 1, 2, [98]⟩ = (([⟨5, 1, 3, 2, 0, 0, [(1, [98])]⟩], (fun _ => s0)), [], false, 12) from rfl] at ht2
  have HT2 := Aside0.mk ht2
  obtain ⟨v0, v1, v2, v3, v4, v5, v6⟩ := box7c HBy1.out
  clear ht2
  go_wp2_with fail
  refine HT2.out.mono ?_
  rintro e2 u2 ⟨hf2, own2, os2, n2, v_2, hA2, hn2, ho2, ha2, rfl, B2, d2, rfl, hl2, hC2⟩
  have HA2 := Aside0.mk hA2
  have HE2 := Aside0.mk ha2
  have HQ2 := Aside0.mk ho2
  have HR2 := Aside0.mk hf2
  have HN2 : Aside0 (n2 ≤ 2) := ⟨by have := HN1.out; omega⟩
  have HC2 := Aside0.mk hC2
  have HF2 : Aside0 (Below W.heap.size W u2) := ⟨HF1.out.trans (hf2.below HF1.out.size (fun q hq => (HO1.out q hq).1))⟩
  have HO2 : Aside0 (∀ q, own2 q → W.heap.size ≤ q ∧ (q < z ∨ z + 4 ≤ q)) := ⟨fun q hq => by
    rcases ho2 q hq with h | h
    · exact HO1.out q h
    · have h1 := HF1.out.size
      have h2 := blk_lt HBy1.out
      omega⟩
  have HZx2 := Aside0.mk ((hf2.block _ (blk_lt HZx1.out) (fun e => by have := HO1.out _ e; omega)).trans HZx1.out)
  have HZy2 := Aside0.mk ((hf2.block _ (blk_lt HZy1.out) (fun e => by have := HO1.out _ e; omega)).trans HZy1.out)
  have HBx2 := Aside0.mk ((hf2.block _ (blk_lt HBx1.out) (fun e => by have := HO1.out _ e; omega)).trans HBx1.out)
  have HBy2 := Aside0.mk ((hf2.block _ (blk_lt HBy1.out) (fun e => by have := HO1.out _ e; omega)).trans HBy1.out)
  have HI2 : Aside0 (RInv L1 (aOf os2)) := ⟨by rw [ha2]; have h := put_inv lim1 (RInv.nil lim1) 5 ⟨0, 1, 3, 1, 2, [98]⟩ (by unfold Gm; simp); exact h⟩
  clear hA2 ha2 hn2 ho2 hl2 hC2 hf2 v0 v1 v2 v3 v4 v5 v6
  have ht3 := take_calls HA2.out lim1 HI2.out (fun i => bdM0 i) (by have := HN2.out; omega) 5 1 (by decide) ⟨0, 1, 3, 0, 2, [97]⟩ (by unfold Gm; simp) (by decide) (by decide) (some ⟨z, 0, none⟩) 1 (by decide) (fun U hU => lit_of ((hU.block _ (blk_lt HZx2.out) (fun e => by have := HO2.out _ e; omega)).trans HZx2.out))
  rw [HE2.out, show takeR L1 [⟨5, 1, 3, 2, 0, 0, [(1, [98])]⟩] (fun _ => s0) 5 1 ⟨0, 1, 3, 0, 2, [97]⟩ = (([], (upM (fun _ => s0) 5 (true, 1, 3, 1))), [97, 98], true, 0) from rfl] at ht3
  have HT3 := Aside0.mk ht3
  obtain ⟨v0, v1, v2, v3, v4, v5, v6⟩ := box7c HBx2.out
  clear ht3
  go_wp2_with fail
  refine HT3.out.mono ?_
  rintro e3 u3 ⟨hf3, own3, os3, n3, v_3, hA3, hn3, ho3, ha3, rfl, B3, d3, rfl, hl3, hC3⟩
  have HA3 := Aside0.mk hA3
  have HE3 := Aside0.mk ha3
  have HQ3 := Aside0.mk ho3
  have HR3 := Aside0.mk hf3
  have HN3 : Aside0 (n3 ≤ 3) := ⟨by have := HN2.out; omega⟩
  have HC3 := Aside0.mk hC3
  have HF3 : Aside0 (Below W.heap.size W u3) := ⟨HF2.out.trans (hf3.below HF2.out.size (fun q hq => (HO2.out q hq).1))⟩
  have HO3 : Aside0 (∀ q, own3 q → W.heap.size ≤ q ∧ (q < z ∨ z + 4 ≤ q)) := ⟨fun q hq => by
    rcases ho3 q hq with h | h
    · exact HO2.out q h
    · have h1 := HF2.out.size
      have h2 := blk_lt HBy2.out
      omega⟩
  have HZx3 := Aside0.mk ((hf3.block _ (blk_lt HZx2.out) (fun e => by have := HO2.out _ e; omega)).trans HZx2.out)
  have HZy3 := Aside0.mk ((hf3.block _ (blk_lt HZy2.out) (fun e => by have := HO2.out _ e; omega)).trans HZy2.out)
  have HBx3 := Aside0.mk ((hf3.block _ (blk_lt HBx2.out) (fun e => by have := HO2.out _ e; omega)).trans HBx2.out)
  have HBy3 := Aside0.mk ((hf3.block _ (blk_lt HBy2.out) (fun e => by have := HO2.out _ e; omega)).trans HBy2.out)
  have HI3 : Aside0 (RInv L1 (aOf os3)) := ⟨by rw [ha3]; exact RInv.nil lim1⟩
  clear hA3 ha3 hn3 ho3 hl3 hC3 hf3 v0 v1 v2 v3 v4 v5 v6
  have ht4 := take_calls HA3.out lim1 HI3.out (fun i => bdM1 i) (by have := HN3.out; omega) 5 1 (by decide) ⟨0, 1, 3, 0, 2, [97]⟩ (by unfold Gm; simp) (by decide) (by decide) (some ⟨z, 0, none⟩) 1 (by decide) (fun U hU => lit_of ((hU.block _ (blk_lt HZx3.out) (fun e => by have := HO3.out _ e; omega)).trans HZx3.out))
  rw [HE3.out, show takeR L1 [] (upM (fun _ => s0) 5 (true, 1, 3, 1)) 5 1 ⟨0, 1, 3, 0, 2, [97]⟩ = (([], (upM (fun _ => s0) 5 (true, 1, 3, 1))), [], false, 12) from rfl] at ht4
  have HT4 := Aside0.mk ht4
  obtain ⟨v0, v1, v2, v3, v4, v5, v6⟩ := box7c HBx3.out
  clear ht4
  go_wp2_with fail
  refine HT4.out.mono ?_
  rintro e4 u4 ⟨hf4, own4, os4, n4, v_4, hA4, hn4, ho4, ha4, rfl, B4, d4, rfl, hl4, hC4⟩
  have HA4 := Aside0.mk hA4
  have HE4 := Aside0.mk ha4
  have HQ4 := Aside0.mk ho4
  have HR4 := Aside0.mk hf4
  have HN4 : Aside0 (n4 ≤ 4) := ⟨by have := HN3.out; omega⟩
  have HC4 := Aside0.mk hC4
  have HF4 : Aside0 (Below W.heap.size W u4) := ⟨HF3.out.trans (hf4.below HF3.out.size (fun q hq => (HO3.out q hq).1))⟩
  have HO4 : Aside0 (∀ q, own4 q → W.heap.size ≤ q ∧ (q < z ∨ z + 4 ≤ q)) := ⟨fun q hq => by
    rcases ho4 q hq with h | h
    · exact HO3.out q h
    · have h1 := HF3.out.size
      have h2 := blk_lt HBy3.out
      omega⟩
  have HZx4 := Aside0.mk ((hf4.block _ (blk_lt HZx3.out) (fun e => by have := HO3.out _ e; omega)).trans HZx3.out)
  have HZy4 := Aside0.mk ((hf4.block _ (blk_lt HZy3.out) (fun e => by have := HO3.out _ e; omega)).trans HZy3.out)
  have HBx4 := Aside0.mk ((hf4.block _ (blk_lt HBx3.out) (fun e => by have := HO3.out _ e; omega)).trans HBx3.out)
  have HBy4 := Aside0.mk ((hf4.block _ (blk_lt HBy3.out) (fun e => by have := HO3.out _ e; omega)).trans HBy3.out)
  have HI4 : Aside0 (RInv L1 (aOf os4)) := ⟨by rw [ha4]; exact RInv.nil lim1⟩
  clear hA4 ha4 hn4 ho4 hl4 hC4 hf4 v0 v1 v2 v3 v4 v5 v6
  have HT5 := Aside0.mk (take_calls HA4.out lim1 HI4.out (fun i => bdM1 i) (by have := HN4.out; omega) 5 2 (by decide) ⟨0, 0, 0, 0, 1, []⟩ (by unfold Gm; simp) (by decide) (by decide) none 0 (Nat.le_refl _) (fun U hU => ⟨rfl, Nat.zero_le _, fun h => absurd h (Nat.lt_irrefl _)⟩))
  go_wp2_with fail
  refine HT5.out.mono ?_
  rintro e5 u5 ⟨hf5, own5, os5, n5, v_5, hA5, hn5, ho5, ha5, rfl, B5, d5, rfl, hl5, hC5⟩
  have HA5 := Aside0.mk hA5
  have HF5 : Aside0 (Below W.heap.size W u5) := ⟨HF4.out.trans (hf5.below HF4.out.size (fun q hq => (HO4.out q hq).1))⟩
  have hF35 : Fr own3 u3 u5 := HR4.out.then_ hf5 (fun q hq h => (HQ4.out q h).resolve_right (by omega))
  have hcv : (Go.convert 36 9 (.slice B3 2 d3)).run Try.prog u5 = .ok (.string (strOfNums [97, 98])) u5 := Kd.C_string (P := Try.prog) (A := B3) (c := d3) Try.underlying36 Try.underlying5 Try.underlying9 (HC3.out own3 u5 hF35 (fun q h => .inl h))
  have hss : strOfNums [97, 98] = ⟨#[97, 98]⟩ := rfl
  rw [hss] at hcv
  have hfd0 : ∀ v0 v1 v2 v3 V, (Instr.field 94 (.agg #[v0, v1, v2, v3]) 0).run Try.prog V = .ok v0 V := fun _ _ _ _ _ => by kernel_rfl
  have hm5 := amem_calls hA5 5 (by decide)
  rw [show (takeR L1 (aOf os4) (upM (fun _ => s0) 5 (true, 1, 3, 1)) 5 2 ⟨0, 0, 0, 0, 1, []⟩).1.2 5 = (true, 1, 3, 1) from rfl] at hm5
  have HM5 := Aside0.mk hm5
  clear hA5 hn5 ho5 ha5 hl5 hC5 hf5 hm5 hss
  go_wp2_with fail
  refine HM5.out.mono ?_
  rintro e6 u6 ⟨rfl, hb6⟩
  have hm6 := amem_calls (HA5.out.below hb6) 6 (by decide)
  rw [show (takeR L1 (aOf os4) (upM (fun _ => s0) 5 (true, 1, 3, 1)) 5 2 ⟨0, 0, 0, 0, 1, []⟩).1.2 6 = (false, 0, 0, 0) from rfl] at hm6
  have HM6 := Aside0.mk hm6
  have HB6 := Aside0.mk (below_then HF5.out HF5.out.size hb6)
  unfold encS
  clear hb6 hm6
  go_wp2_with fail
  refine HM6.out.mono ?_
  rintro e7 u7 ⟨rfl, hb7⟩
  have HB7 := Aside0.mk (below_then HB6.out HB6.out.size hb7)
  have HHN := Aside0.mk (aheld_nil u7)
  unfold encS
  clear hb7
  go_wp2_with fail
  refine HHN.out.mono ?_
  rintro e8 u8 ⟨rfl, hb8⟩
  have HB8 := Aside0.mk (below_then HB7.out HB7.out.size hb8)
  clear hb8
  go_wp2_with fail
  go_ret
  exact ⟨rfl, HB8.out⟩
#print axioms aawake_calls
end Go.Proofs.Ytaeelmkpjgmdlaa.H
