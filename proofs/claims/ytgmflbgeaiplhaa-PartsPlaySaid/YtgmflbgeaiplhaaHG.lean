/- Mine. Chapter 21, by hand: the law's example. -/
import Derived.Test.YtgmflbgeaiplhaaHF
import Derived.Lib.SlBytesConst
namespace Go.Proofs.Ytgmflbgeaiplhaa.H
open Go Go.Proofs Go.RowKit Go.Lib Go.Proofs.Ytgmflbgeaiplhaa.P Go.Proofs.YtgmflbgeaiplhaaW.PrintWords Go.Proofs.YtgmflbgeaiplhaaW.PrintLast Go.Proofs.YtgmflbgeaiplhaaW.PrintMore Go.Proofs.YtgmflbgeaiplhaaW.PrintFlat
set_option linter.unusedVariables false
set_option linter.unusedSimpArgs false
set_option maxRecDepth 100000 in
set_option maxHeartbeats 1000000 in
theorem add_nil (W : World) (i : Int) (A : Option Addr) (n c : Nat) : Calls Try.prog 9 #[.pointer none, .int .i64 i, .slice A n c] W fun e w' => e = .returned (.int .i64 14) ∧ Below W.heap.size W w' := by
  have HB := Aside0.mk (Below.refl W.heap.size W)
  go_enter Try.func9, Try.ntmps9
  go_wp2
  go_ret
  exact ⟨rfl, HB.out⟩
set_option maxRecDepth 100000 in
set_option maxHeartbeats 1000000 in
theorem missing_nil (W : World) : Calls Try.prog 11 #[.pointer none] W fun e w' => e = .returned (.int .i64 0) ∧ Below W.heap.size W w' := by
  have HB := Aside0.mk (Below.refl W.heap.size W)
  go_enter Try.func11, Try.ntmps11
  go_wp2
  go_ret
  exact ⟨rfl, HB.out⟩
/-- A fresh literal of bytes. -/
theorem lit_reads {own : Nat → Prop} {W : World} (x : Int) (hb : 0 ≤ x ∧ x ≤ 255) (hs : ∀ k, own k → k < W.heap.size) : ∀ V, Fr own (W.alloc (.cells #[.int .u8 x] 5 (1, 2))) V → Kd.C (Kd.int .u8) V (some ⟨W.heap.size, 0, none⟩) [x].length [x] := by
  intro V hV
  have h1 := hV.block W.heap.size (by simp) (fun ho => by have := hs _ ho; omega)
  rw [heap_alloc_new] at h1
  refine ⟨rfl, by simp, fun _ => ⟨_, rfl, fun j p hj => ?_⟩⟩
  rcases j with _ | j
  · simp only [List.getElem?_cons_zero, Option.some.injEq] at hj
    subst hj
    refine ⟨[.int .u8 x], rfl, rfl, fun i u hi => ?_⟩
    rcases i with _ | i
    · simp only [List.getElem?_cons_zero, Option.some.injEq] at hi
      subst hi
      unfold World.cell? Addr.add
      simp [h1]
    · simp at hi
  · simp at hj
theorem new_ok (c : Int) (W : World) (h0 : 1 ≤ c) (h1 : c ≤ 65535) : Calls Try.prog 7 #[.int .i64 c] W fun e w' => ∃ p b, e = .returned (.tuple #[.pointer (some ⟨p, 0, none⟩), .int .i64 0]) ∧ Below W.heap.size W w' ∧ W.heap.size ≤ p ∧ W.heap.size ≤ b ∧ CS (fun k => k = p ∨ k = b) p b c [] w' := by
  refine (new_calls c W).mono ?_
  rintro e w1 ⟨hb1, (⟨_, _, p, b, rfl, hp, hbl, hCS⟩ | ⟨h, _⟩)⟩
  · exact ⟨p, b, rfl, hb1, hp, hbl, hCS⟩
  · omega
theorem new_bad (c : Int) (W : World) (h0 : c < 1 ∨ 65535 < c) : Calls Try.prog 7 #[.int .i64 c] W fun e w' => e = .returned (.tuple #[.pointer none, .int .i64 1]) ∧ Below W.heap.size W w' := by
  refine (new_calls c W).mono ?_
  rintro e w1 ⟨hb1, (⟨_, _, p, b, rfl, hp, hbl, hCS⟩ | ⟨h, rfl⟩)⟩
  · omega
  · exact ⟨rfl, hb1⟩
def Grew (own : Nat → Prop) (W w' : World) (k : Nat) : Prop := own k ∨ W.heap.size ≤ k ∧ k < w'.heap.size
theorem add_ok {own : Nat → Prop} {p b : Nat} {c : Int} {qs : List Q} {W : World} (h : CS own p b c qs W) (i : Int) (hi : (Lit.int .i64 i).wf = true) (A : Option Addr) (cp : Nat) (l : List Int) (hcp : l.length ≤ cp)
    (hbody : ∀ V, Fr own W V → Kd.C (Kd.int .u8) V A l.length l) (hl : l.length ≤ 140737488355328) (ht0 : 0 ≤ tot qs) (ht : tot qs ≤ 4611686018427387904) (hq : qs.length ≤ 65535) (h0 : 0 ≤ i) (h1 : i < c) (ha : (qs.any fun x => x.i == i) = false) :
    Calls Try.prog 9 #[.pointer (some ⟨p, 0, none⟩), .int .i64 i, .slice A l.length cp] W fun e w' => e = .returned (.int .i64 0) ∧ Fr own W w' ∧ ∃ v, CS (Grew own W w') p b c (qs ++ [⟨i, v, l⟩]) w' := by
  refine (add_calls h i hi A cp l hcp hbody hl ht0 ht hq).mono ?_
  rintro e w1 ⟨hf, (⟨h2, _⟩ | ⟨_, h2, _⟩ | ⟨_, _, rfl, v, h3⟩)⟩
  · omega
  · rw [ha] at h2; simp at h2
  · exact ⟨rfl, hf, v, h3⟩
theorem add_dup {own : Nat → Prop} {p b : Nat} {c : Int} {qs : List Q} {W : World} (h : CS own p b c qs W) (i : Int) (hi : (Lit.int .i64 i).wf = true) (A : Option Addr) (cp : Nat) (l : List Int) (hcp : l.length ≤ cp)
    (hbody : ∀ V, Fr own W V → Kd.C (Kd.int .u8) V A l.length l) (hl : l.length ≤ 140737488355328) (ht0 : 0 ≤ tot qs) (ht : tot qs ≤ 4611686018427387904) (hq : qs.length ≤ 65535) (h0 : 0 ≤ i) (h1 : i < c) (ha : (qs.any fun x => x.i == i) = true) :
    Calls Try.prog 9 #[.pointer (some ⟨p, 0, none⟩), .int .i64 i, .slice A l.length cp] W fun e w' => e = .returned (.int .i64 12) ∧ Fr own W w' ∧ CS own p b c qs w' := by
  refine (add_calls h i hi A cp l hcp hbody hl ht0 ht hq).mono ?_
  rintro e w1 ⟨hf, (⟨h2, _⟩ | ⟨_, h2, rfl, h3⟩ | ⟨_, h2, rfl, v, h3⟩)⟩
  · omega
  · exact ⟨rfl, hf, h3⟩
  · rw [ha] at h2; simp at h2
theorem CS.alloc {own : Nat → Prop} {p b : Nat} {c : Int} {qs : List Q} {W : World} (h : CS own p b c qs W) (o : Obj) : CS own p b c qs (W.alloc o) := h.frame (S := fun _ => False) (Fr.of_below (below_alloc (Below.refl _ _) _)) (fun _ _ h => h)
theorem CS.below {own : Nat → Prop} {p b : Nat} {c : Int} {qs : List Q} {W V : World} (h : CS own p b c qs W) (hb : Below W.heap.size W V) : CS own p b c qs V := h.frame (S := fun _ => False) (Fr.of_below hb) (fun _ _ h => h)
set_option maxRecDepth 100000 in
set_option maxHeartbeats 4000000 in
theorem awake_calls (W : World) : Calls Try.prog 6 #[] W fun e w' => e = .returned (.bool true) ∧ Below W.heap.size W w' := by
  have HN := Aside0.mk (new_ok 2 W (by decide) (by decide))
  go_enter Try.func6, Try.ntmps6
  go_wp2_with fail
  refine HN.out.mono ?_
  rintro e w1 ⟨p, b, rfl, hb1, hp, hbl, hCS⟩
  have HB1 := Aside0.mk hb1
  have HCS := Aside0.mk hCS
  have HO0 := Aside0.mk (And.intro hp hbl)
  have HA1 := Aside0.mk (add_ok (hCS.alloc (.cells #[.int .u8 98] 5 (1, 2))) 1 (by decide) (some ⟨w1.heap.size, 0, none⟩) 1 [98] (by decide) (lit_reads 98 (by decide) hCS.lt) (by decide) (by decide) (by decide) (by decide) (by decide) (by decide) rfl)
  have hk1 : (Go.convert 33 33 (.slice (some ⟨w1.heap.size, 0, none⟩) 1 1)).run Try.prog (w1.alloc (.cells #[.int .u8 98] 5)) = .ok (.slice (some ⟨w1.heap.size, 0, none⟩) 1 1) (w1.alloc (.cells #[.int .u8 98] 5 (1, 2))) := Lib.run_convert_bytes_const w1 33 5 #[.int .u8 98] 1 1 Try.underlying33 Try.underlying5
  clear hb1 hCS HN hp hbl
  go_wp2_with fail
  refine HA1.out.mono ?_
  rintro e w2 ⟨rfl, hf2, v1, hCS2⟩
  have HF2 := Aside0.mk hf2
  have HCS2 := Aside0.mk hCS2
  have HA2 := Aside0.mk (add_dup (hCS2.alloc (.cells #[.int .u8 99] 5 (1, 2))) 1 (by decide) (some ⟨w2.heap.size, 0, none⟩) 1 [99] (by decide) (lit_reads 99 (by decide) hCS2.lt) (by decide) (by simp [tot]) (by simp [tot]) (by simp) (by decide) (by decide) rfl)
  have hk2 : (Go.convert 33 33 (.slice (some ⟨w2.heap.size, 0, none⟩) 1 1)).run Try.prog (w2.alloc (.cells #[.int .u8 99] 5)) = .ok (.slice (some ⟨w2.heap.size, 0, none⟩) 1 1) (w2.alloc (.cells #[.int .u8 99] 5 (1, 2))) := Lib.run_convert_bytes_const w2 33 5 #[.int .u8 99] 1 1 Try.underlying33 Try.underlying5
  clear hf2 hCS2
  go_wp2_with fail
  refine HA2.out.mono ?_
  rintro e w3 ⟨rfl, hf3, hCS3⟩
  have HF3 := Aside0.mk hf3
  have HCS3 := Aside0.mk hCS3
  have HW1 := Aside0.mk (whole_calls hCS3 (by decide) (by decide) (by simp) (by simp [tot]) (by simp [tot]))
  clear hf3 hCS3
  go_wp2_with fail
  refine HW1.out.mono ?_
  rintro e w4 ⟨hb4, (⟨_, rfl⟩ | ⟨h, _⟩)⟩
  case inr => exact absurd h (by simp)
  have HB4 := Aside0.mk hb4
  have hCS4 := HCS3.out.below hb4
  have HCS4 := Aside0.mk hCS4
  have HA3 := Aside0.mk (add_ok (hCS4.alloc (.cells #[.int .u8 97] 5 (1, 2))) 0 (by decide) (some ⟨w4.heap.size, 0, none⟩) 1 [97] (by decide) (lit_reads 97 (by decide) hCS4.lt) (by decide) (by simp [tot]) (by simp [tot]) (by simp) (by decide) (by decide) rfl)
  have hk4 : (Go.convert 33 33 (.slice (some ⟨w4.heap.size, 0, none⟩) 1 1)).run Try.prog (w4.alloc (.cells #[.int .u8 97] 5)) = .ok (.slice (some ⟨w4.heap.size, 0, none⟩) 1 1) (w4.alloc (.cells #[.int .u8 97] 5 (1, 2))) := Lib.run_convert_bytes_const w4 33 5 #[.int .u8 97] 1 1 Try.underlying33 Try.underlying5
  clear hb4 hCS4
  go_wp2_with fail
  refine HA3.out.mono ?_
  rintro e w5 ⟨rfl, hf5, v5, hCS5⟩
  have HF5 := Aside0.mk hf5
  have HCS5 := Aside0.mk hCS5
  have HW2 := Aside0.mk (whole_calls hCS5 (by decide) (by decide) (by simp) (by simp [tot]) (by simp [tot]))
  clear hf5 hCS5
  go_wp2_with fail
  refine HW2.out.mono ?_
  rintro e w6 ⟨hb6, (⟨h, _⟩ | ⟨_, v6, rfl, hR6⟩)⟩
  case inl => exact absurd h (by simp)
  have HB6 := Aside0.mk hb6
  have hwh : whole ([] ++ [⟨1, v1, [98]⟩] ++ [⟨0, v5, [97]⟩]) (2 : Int).toNat = [97, 98] := rfl
  rw [hwh] at hR6
  obtain ⟨A6, c6, rfl, hc6, hC6⟩ := Kd.R_reads hR6
  have HC6 := Aside0.mk hC6
  have HN0 := Aside0.mk (new_bad 0 w6 (by decide))
  clear hb6 hR6 hC6
  go_wp2_with fail
  refine HN0.out.mono ?_
  rintro e w7 ⟨rfl, hb7⟩
  have HB7 := Aside0.mk hb7
  have hcv : (Go.convert 33 9 (.slice A6 2 c6)).run Try.prog w7 = .ok (.string ⟨#[97, 98]⟩) w7 := Kd.C_string (P := Try.prog) (A := A6) (c := c6) Try.underlying33 Try.underlying5 Try.underlying9 (Kd.C_below HC6.out hb7)
  have HAN := Aside0.mk (add_nil w7 0 none 0 0)
  clear hb7
  go_wp2_with fail
  refine HAN.out.mono ?_
  rintro e w8 ⟨rfl, hb8⟩
  have HB8 := Aside0.mk hb8
  have HMN := Aside0.mk (missing_nil w8)
  clear hb8
  go_wp2_with fail
  refine HMN.out.mono ?_
  rintro e w9 ⟨rfl, hb9⟩
  have HB9 := Aside0.mk hb9
  clear hb9
  go_wp2_with fail
  go_ret
  refine ⟨rfl, ?_⟩
  have f1 : Fr (fun k => k = p ∨ k = b) w1 w2 := (Fr.of_below (below_alloc (Below.refl _ _) _)).then_ HF2.out (fun _ _ h => h)
  have hs1 : w1.heap.size ≤ w2.heap.size := f1.size
  have f2 : Below W.heap.size w1 w2 := f1.below HB1.out.size (fun k hk => by have := HO0.out; omega)
  have g2 : Fr (Grew (fun k => k = p ∨ k = b) (w1.alloc (.cells #[.int .u8 98] 5 (1, 2))) w2) w2 w3 := (Fr.of_below (below_alloc (Below.refl _ _) _)).then_ HF3.out (fun _ _ h => h)
  have f3 : Below W.heap.size w2 w3 := g2.below (Nat.le_trans HB1.out.size hs1) (fun k hk => by
    rcases hk with hk | hk
    · have := HO0.out; omega
    · have h1 := hk.1
      have h2 := HB1.out.size
      simp at h1
      omega)
  have g5 : Fr (Grew (fun k => k = p ∨ k = b) (w1.alloc (.cells #[.int .u8 98] 5 (1, 2))) w2) w4 w5 := (Fr.of_below (below_alloc (Below.refl _ _) _)).then_ HF5.out (fun _ _ h => h)
  have hs4 : W.heap.size ≤ w4.heap.size := Nat.le_trans (Nat.le_trans HB1.out.size hs1) (Nat.le_trans f3.size HB4.out.size)
  have f5 : Below W.heap.size w4 w5 := g5.below hs4 (fun k hk => by
    rcases hk with hk | hk
    · have := HO0.out; omega
    · have h1 := hk.1
      have h2 := HB1.out.size
      simp at h1
      omega)
  have k4 := (((HB1.out.trans f2).trans f3).trans (HB4.out.mono (Nat.le_trans (Nat.le_trans HB1.out.size hs1) f3.size))).trans f5
  have hs5 : W.heap.size ≤ w5.heap.size := k4.size
  have k6 := k4.trans (HB6.out.mono hs5)
  have k7 := k6.trans (HB7.out.mono k6.size)
  have k8 := k7.trans (HB8.out.mono k7.size)
  exact k8.trans (HB9.out.mono k8.size)
#print axioms awake_calls
end Go.Proofs.Ytgmflbgeaiplhaa.H
