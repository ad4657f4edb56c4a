/- Mine. Chapter 22, by hand: the chapter's example. -/
import Derived.Test.YtaeelmkpjgmdlaaHN
import Derived.Lib.SlBytesConst
namespace Go.Proofs.Ytaeelmkpjgmdlaa.H
open Go Go.Proofs Go.RowKit Go.Lib Go.Proofs.Ytaeelmkpjgmdlaa.P Go.Proofs.YtaeelmkpjgmdlaaW.PrintWords Go.Proofs.YtaeelmkpjgmdlaaW.PrintLast Go.Proofs.YtaeelmkpjgmdlaaW.PrintMore Go.Proofs.YtaeelmkpjgmdlaaW.PrintFlat
set_option linter.unusedVariables false
set_option linter.unusedSimpArgs false
theorem lit_reads {own : Nat → Prop} {W : World} (x : Int) (hb : 0 ≤ x ∧ x ≤ 255) (hs : ∀ k, own k → k < W.heap.size) : ∀ V, Fr own (W.alloc (.cells #[.int .u8 x] 5 (1, 2))) V → Kd.C (Kd.int .u8) V (some ⟨W.heap.size, 0, none⟩) [x].length [x] := by
  intro V hV
  have h1 := hV.block W.heap.size (by simp) (fun ho => by have := hs _ ho; omega)
  rw [heap_alloc_new] at h1
  refine ⟨rfl, by simp, fun _ => ⟨_, rfl, fun j p hj => ?_⟩⟩
  rcases j with _ | j
  · simp only [List.getElem?_cons_zero, Option.some.injEq] at hj
    subst hj
    refine ⟨[.int .u8 x], rfl, rfl, fun i u hi => ?_⟩
    rcases i with _ | i
    · simp only [List.getElem?_cons_zero, Option.some.injEq] at hi
      subst hi
      unfold World.cell? Addr.add
      simp [h1]
    · simp at hi
  · simp at hj
theorem put_lit {own : Nat → Prop} {t : Nat} {L : Room.Lim} {os : List OB} {W : World} (h : TS own t L os W) (hl : LimOk L) (hi : RInv L (aOf os)) (f kd : Int) (g : Room.GA) (hg : Gm g) (x : Int) (hx : 0 ≤ x ∧ x ≤ 255) (hb : g.body = [x]) :
    Calls Try.prog 13 #[.pointer (some ⟨t, 0, none⟩), .int .u16 f, .agg #[.int .u8 kd, .int .u8 g.ver, .int .u32 g.ep, .int .u32 g.id, .int .u16 g.ix, .int .u16 g.cnt, .slice (some ⟨W.heap.size, 0, none⟩) 1 1]] (W.alloc (.cells #[.int .u8 x] 5 (1, 2)))
      (PutP own t L (Room.put L (aOf os) f g) (W.alloc (.cells #[.int .u8 x] 5 (1, 2)))) := by
  have e : g.body.length = 1 := by rw [hb]; rfl
  have h1 := put_calls (h.below (below_alloc (Below.refl _ _) (.cells #[.int .u8 x] 5 (1, 2)))) hl hi f kd g hg (some ⟨W.heap.size, 0, none⟩) 1 (by omega) (by rw [hb]; exact lit_reads x hx h.lt)
  rw [e] at h1
  exact h1
theorem open_nil (W : World) : Calls Try.prog 15 #[.pointer none] W fun e w' => e = .returned (.int .i64 0) ∧ Below W.heap.size W w' := by
  have HB := Aside0.mk (Below.refl W.heap.size W)
  go_enter Try.func15, Try.ntmps15
  go_wp2
  go_ret
  exact ⟨rfl, HB.out⟩
def L0 : Room.Lim := ⟨1, 100, 2⟩
theorem lim0 : LimOk L0 := ⟨by decide, by decide, by decide, by decide, by decide, by decide⟩
set_option maxHeartbeats 4000000 in
set_option maxRecDepth 100000 in
theorem awake_calls (W : World) : Calls Try.prog 8 #[] W fun e w' => e = .returned (.bool true) ∧ Below W.heap.size W w' := by
  have HN := Aside0.mk (tnew_calls L0 W)
  go_enter Try.func8, Try.ntmps8
  go_wp2_with fail
  refine HN.out.mono ?_
  rintro e0 w1 ⟨hb1, (⟨_, t, rfl, hT0⟩ | ⟨h, _⟩)⟩
  case inr => exact absurd h (by decide)
  have HT0 := Aside0.mk hT0
  have HF0 := Aside0.mk hb1
  have HA0 : Aside0 (aOf [] = []) := ⟨rfl⟩
  have HI0 : Aside0 (RInv L0 []) := ⟨RInv.nil lim0⟩
  have HO0 : Aside0 (∀ q, (W.heap.size ≤ q ∧ q < w1.heap.size) → W.heap.size ≤ q) := ⟨fun q h => h.1⟩
  clear hb1 hT0 HN
  have hk1 : (Go.convert 36 36 (.slice (some ⟨w1.heap.size, 0, none⟩) 1 1)).run Try.prog (w1.alloc (.cells #[.int .u8 97] 5)) = .ok (.slice (some ⟨w1.heap.size, 0, none⟩) 1 1) (w1.alloc (.cells #[.int .u8 97] 5 (1, 2))) := Lib.run_convert_bytes_const w1 36 5 #[.int .u8 97] 1 1 Try.underlying36 Try.underlying5
  have hp1 := put_lit HT0.out lim0 (by rw [HA0.out]; exact HI0.out) 1 0 ⟨0, 0, 1, 0, 2, [97]⟩ (by unfold Gm; simp) 97 (by decide) rfl
  rw [HA0.out, show Room.put L0 [] 1 ⟨0, 0, 1, 0, 2, [97]⟩ = ([⟨1, 0, 1, 2, 0, 0, [(0, [97])]⟩], [], false, 0) from rfl] at hp1
  have HP1 := Aside0.mk hp1
  clear hp1
  go_wp2_with fail
  refine HP1.out.mono ?_
  rintro e1 w2 ⟨hf1, own1, os1, v1, hT1, ho1, ha1, rfl, B1, d1, rfl, hl1, hC1⟩
  have HT1 := Aside0.mk hT1
  have HA1 := Aside0.mk ha1
  have HO1 : Aside0 (∀ q, own1 q → W.heap.size ≤ q) := ⟨fun q hq => by
    rcases ho1 q hq with h | h
    · exact HO0.out q h
    · have h1 := HF0.out.size
      have h2 : (w1.alloc (.cells #[.int .u8 97] 5 (1, 2))).heap.size = w1.heap.size + 1 := by simp
      omega⟩
  have HF1 : Aside0 (Below W.heap.size W w2) := ⟨((Fr.of_below (own := fun q => W.heap.size ≤ q) (below_then HF0.out HF0.out.size (below_alloc (Below.refl _ _) _))).then_ hf1 (fun q _ h => HO0.out q h)).below (Nat.le_refl _) (fun q h => h)⟩
  have HI1 : Aside0 (RInv L0 [⟨1, 0, 1, 2, 0, 0, [(0, [97])]⟩]) := ⟨by have h := put_inv lim0 HI0.out 1 ⟨0, 0, 1, 0, 2, [97]⟩ (by unfold Gm; simp); exact h⟩
  have HC1 := Aside0.mk hC1
  clear hf1 hT1 ho1 ha1 hC1 hk1
  have hk2 : (Go.convert 36 36 (.slice (some ⟨w2.heap.size, 0, none⟩) 1 1)).run Try.prog (w2.alloc (.cells #[.int .u8 99] 5)) = .ok (.slice (some ⟨w2.heap.size, 0, none⟩) 1 1) (w2.alloc (.cells #[.int .u8 99] 5 (1, 2))) := Lib.run_convert_bytes_const w2 36 5 #[.int .u8 99] 1 1 Try.underlying36 Try.underlying5
  have hp2 := put_lit HT1.out lim0 (by rw [HA1.out]; exact HI1.out) 1 0 ⟨0, 0, 2, 0, 2, [99]⟩ (by unfold Gm; simp) 99 (by decide) rfl
  rw [HA1.out, show Room.put L0 [⟨1, 0, 1, 2, 0, 0, [(0, [97])]⟩] 1 ⟨0, 0, 2, 0, 2, [99]⟩ = ([⟨1, 0, 2, 2, 0, 0, [(0, [99])]⟩], [], false, 0) from rfl] at hp2
  have HP2 := Aside0.mk hp2
  clear hp2
  go_wp2_with fail
  refine HP2.out.mono ?_
  rintro e2 w3 ⟨hf2, own2, os2, v2, hT2, ho2, ha2, rfl, B2, d2, rfl, hl2, hC2⟩
  have HT2 := Aside0.mk hT2
  have HA2 := Aside0.mk ha2
  have HO2 : Aside0 (∀ q, own2 q → W.heap.size ≤ q) := ⟨fun q hq => by
    rcases ho2 q hq with h | h
    · exact HO1.out q h
    · have h1 := HF1.out.size
      have h2 : (w2.alloc (.cells #[.int .u8 99] 5 (1, 2))).heap.size = w2.heap.size + 1 := by simp
      omega⟩
  have HF2 : Aside0 (Below W.heap.size W w3) := ⟨((Fr.of_below (own := fun q => W.heap.size ≤ q) (below_then HF1.out HF1.out.size (below_alloc (Below.refl _ _) _))).then_ hf2 (fun q _ h => HO1.out q h)).below (Nat.le_refl _) (fun q h => h)⟩
  have HI2 : Aside0 (RInv L0 [⟨1, 0, 2, 2, 0, 0, [(0, [99])]⟩]) := ⟨by have h := put_inv lim0 HI1.out 1 ⟨0, 0, 2, 0, 2, [99]⟩ (by unfold Gm; simp); exact h⟩
  have HC2 := Aside0.mk hC2
  clear hf2 hT2 ho2 ha2 hC2 hk2
  have hk3 : (Go.convert 36 36 (.slice (some ⟨w3.heap.size, 0, none⟩) 1 1)).run Try.prog (w3.alloc (.cells #[.int .u8 98] 5)) = .ok (.slice (some ⟨w3.heap.size, 0, none⟩) 1 1) (w3.alloc (.cells #[.int .u8 98] 5 (1, 2))) := Lib.run_convert_bytes_const w3 36 5 #[.int .u8 98] 1 1 Try.underlying36 Try.underlying5
  have hp3 := put_lit HT2.out lim0 (by rw [HA2.out]; exact HI2.out) 1 0 ⟨0, 0, 1, 1, 2, [98]⟩ (by unfold Gm; simp) 98 (by decide) rfl
  rw [HA2.out, show Room.put L0 [⟨1, 0, 2, 2, 0, 0, [(0, [99])]⟩] 1 ⟨0, 0, 1, 1, 2, [98]⟩ = ([⟨1, 0, 1, 2, 0, 0, [(1, [98])]⟩], [], false, 0) from rfl] at hp3
  have HP3 := Aside0.mk hp3
  clear hp3
  go_wp2_with fail
  refine HP3.out.mono ?_
  rintro e3 w4 ⟨hf3, own3, os3, v3, hT3, ho3, ha3, rfl, B3, d3, rfl, hl3, hC3⟩
  have HT3 := Aside0.mk hT3
  have HA3 := Aside0.mk ha3
  have HO3 : Aside0 (∀ q, own3 q → W.heap.size ≤ q) := ⟨fun q hq => by
    rcases ho3 q hq with h | h
    · exact HO2.out q h
    · have h1 := HF2.out.size
      have h2 : (w3.alloc (.cells #[.int .u8 98] 5 (1, 2))).heap.size = w3.heap.size + 1 := by simp
      omega⟩
  have HF3 : Aside0 (Below W.heap.size W w4) := ⟨((Fr.of_below (own := fun q => W.heap.size ≤ q) (below_then HF2.out HF2.out.size (below_alloc (Below.refl _ _) _))).then_ hf3 (fun q _ h => HO2.out q h)).below (Nat.le_refl _) (fun q h => h)⟩
  have HI3 : Aside0 (RInv L0 [⟨1, 0, 1, 2, 0, 0, [(1, [98])]⟩]) := ⟨by have h := put_inv lim0 HI2.out 1 ⟨0, 0, 1, 1, 2, [98]⟩ (by unfold Gm; simp); exact h⟩
  have HC3 := Aside0.mk hC3
  clear hf3 hT3 ho3 ha3 hC3 hk3
  have hk4 : (Go.convert 36 36 (.slice (some ⟨w4.heap.size, 0, none⟩) 1 1)).run Try.prog (w4.alloc (.cells #[.int .u8 97] 5)) = .ok (.slice (some ⟨w4.heap.size, 0, none⟩) 1 1) (w4.alloc (.cells #[.int .u8 97] 5 (1, 2))) := Lib.run_convert_bytes_const w4 36 5 #[.int .u8 97] 1 1 Try.underlying36 Try.underlying5
  have hp4 := put_lit HT3.out lim0 (by rw [HA3.out]; exact HI3.out) 1 0 ⟨0, 0, 1, 0, 2, [97]⟩ (by unfold Gm; simp) 97 (by decide) rfl
  rw [HA3.out, show Room.put L0 [⟨1, 0, 1, 2, 0, 0, [(1, [98])]⟩] 1 ⟨0, 0, 1, 0, 2, [97]⟩ = ([], [97, 98], true, 0) from rfl] at hp4
  have HP4 := Aside0.mk hp4
  clear hp4
  go_wp2_with fail
  refine HP4.out.mono ?_
  rintro e4 w5 ⟨hf4, own4, os4, v4, hT4, ho4, ha4, rfl, B4, d4, rfl, hl4, hC4⟩
  have HT4 := Aside0.mk hT4
  have HA4 := Aside0.mk ha4
  have HO4 : Aside0 (∀ q, own4 q → W.heap.size ≤ q) := ⟨fun q hq => by
    rcases ho4 q hq with h | h
    · exact HO3.out q h
    · have h1 := HF3.out.size
      have h2 : (w4.alloc (.cells #[.int .u8 97] 5 (1, 2))).heap.size = w4.heap.size + 1 := by simp
      omega⟩
  have HF4 : Aside0 (Below W.heap.size W w5) := ⟨((Fr.of_below (own := fun q => W.heap.size ≤ q) (below_then HF3.out HF3.out.size (below_alloc (Below.refl _ _) _))).then_ hf4 (fun q _ h => HO3.out q h)).below (Nat.le_refl _) (fun q h => h)⟩
  have HI4 : Aside0 (RInv L0 []) := ⟨by have h := put_inv lim0 HI3.out 1 ⟨0, 0, 1, 0, 2, [97]⟩ (by unfold Gm; simp); exact h⟩
  have HC4 := Aside0.mk hC4
  clear hf4 hT4 ho4 ha4 hC4 hk4
  have HN2 := Aside0.mk (tnew_calls ⟨0, 0, 0⟩ w5)
  go_wp2_with fail
  refine HN2.out.mono ?_
  rintro e5 w6 ⟨hb6, (⟨h, _⟩ | ⟨_, rfl⟩)⟩
  case inl => exact absurd h (by decide)
  have HB6 := Aside0.mk hb6
  have HT6 := Aside0.mk (HT4.out.below hb6)
  have hcv : (Go.convert 36 9 (.slice B4 2 d4)).run Try.prog w6 = .ok (.string (strOfNums [97, 98])) w6 := Kd.C_string (P := Try.prog) (A := B4) (c := d4) Try.underlying36 Try.underlying5 Try.underlying9 (Kd.C_below HC4.out hb6)
  have hss : strOfNums [97, 98] = ⟨#[97, 98]⟩ := rfl
  rw [hss] at hcv
  have hl6 : os4.length = 0 := by have h := congrArg List.length HA4.out; rw [aOf_len] at h; exact h
  obtain rfl : os4 = [] := List.eq_nil_of_length_eq_zero hl6
  have HOP := Aside0.mk (open_calls HT6.out)
  clear hb6 hl6 hss
  go_wp2_with fail
  refine HOP.out.mono ?_
  rintro e7 w7 ⟨rfl, hb7⟩
  have HB7 := Aside0.mk hb7
  have HHE := Aside0.mk (held_calls (HT6.out.below hb7) (by show (0 : Int) ≤ _; omega) (by show 0 ≤ _; omega))
  clear hb7
  go_wp2_with fail
  refine HHE.out.mono ?_
  rintro e8 w8 ⟨rfl, hb8⟩
  have HB8 := Aside0.mk hb8
  have hh0 : Room.held (aOf []) = 0 := rfl
  rw [hh0]
  have HON := Aside0.mk (open_nil w8)
  clear hb8 hh0
  go_wp2_with fail
  refine HON.out.mono ?_
  rintro e9 w9 ⟨rfl, hb9⟩
  have HB9 := Aside0.mk hb9
  clear hb9
  go_wp2_with fail
  go_ret
  exact ⟨rfl, below_then (below_then (below_then (below_then HF4.out HF4.out.size HB6.out) (Nat.le_trans HF4.out.size HB6.out.size) HB7.out) (Nat.le_trans (Nat.le_trans HF4.out.size HB6.out.size) HB7.out.size) HB8.out) (Nat.le_trans (Nat.le_trans (Nat.le_trans HF4.out.size HB6.out.size) HB7.out.size) HB8.out.size) HB9.out⟩
#print axioms awake_calls
end Go.Proofs.Ytaeelmkpjgmdlaa.H
