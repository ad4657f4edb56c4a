/- Mine. Chapter 21, by hand: the law PartsPlay, walked. -/
import Derived.Test.YtgmflbgeaiplhaaHH
namespace Go.Proofs.Ytgmflbgeaiplhaa.H
open Go Go.Proofs Go.RowKit Go.Lib Go.Proofs.Ytgmflbgeaiplhaa.P Go.Proofs.YtgmflbgeaiplhaaW.PrintWords Go.Proofs.YtgmflbgeaiplhaaW.PrintLast Go.Proofs.YtgmflbgeaiplhaaW.PrintMore Go.Proofs.YtgmflbgeaiplhaaW.PrintFlat
set_option linter.unusedVariables false
set_option linter.unusedSimpArgs false
theorem rnew_ok (c : Int) (W : World) (h0 : 1 ≤ c) (h1 : c ≤ 65535) : Calls Try.prog 8 #[.int .i64 c] W fun e w' => ∃ g, e = .returned (.tuple #[.pointer (some ⟨g, 0, none⟩), .int .i64 0]) ∧ Below W.heap.size W w' ∧ W.heap.size ≤ g ∧ RS (fun k => k = g) g c [] [] w' := by
  refine (rnew_calls c W).mono ?_
  rintro e w1 ⟨hb1, (⟨_, _, g, rfl, hg, hRS⟩ | ⟨h, _⟩)⟩
  · exact ⟨g, rfl, hb1, hg, hRS⟩
  · omega
theorem rnew_bad (c : Int) (W : World) (h0 : c < 1 ∨ 65535 < c) : Calls Try.prog 8 #[.int .i64 c] W fun e w' => e = .returned (.tuple #[.pointer none, .int .i64 1]) ∧ Below W.heap.size W w' := by
  refine (rnew_calls c W).mono ?_
  rintro e w1 ⟨hb1, (⟨_, _, g, rfl, hg, hRS⟩ | ⟨h, rfl⟩)⟩
  · omega
  · exact ⟨rfl, hb1⟩
theorem stepQ_len (c : Int) (qs : List Q) (i : Int) (v : Value) (l : List Int) : (stepQ c qs i v l).length ≤ qs.length + 1 ∧ tot (stepQ c qs i v l) ≤ tot qs + l.length := by
  unfold stepQ
  split
  · rw [tot_app]; simp
  · have := tot_nn qs; omega
def PlayS (w : World) (ad : Addr) (ji i0 : Int) (A0 : Option Addr) (n0 c0 : Nat) (st : ByteArray) (V : World) : Prop :=
  Below w.heap.size w V ∧ V.cell? (ad.add (ji.toNat * 2)) = some (.int .i64 i0) ∧ V.cell? ⟨(ad.add (ji.toNat * 2)).block, (ad.add (ji.toNat * 2)).off + 1, none⟩ = some (.slice A0 n0 c0) ∧ (Go.convert 33 9 (.slice A0 n0 c0)).run Try.prog V = .ok (.string st) V
set_option maxRecDepth 100000 in
set_option maxHeartbeats 8000000 in
theorem play_calls (k : Nat) (a0 : Int) (A1 : Option Addr) (c1 : Nat) (l1 : List S35) (lg : Bool) (w : World) (hr1 : Kd.C k35 w A1 l1.length l1) (hc1 : l1.length ≤ c1) (hlg : annuletlaw21_large.f k l1 = some lg) (hwf : ∀ x ∈ l1, (Lit.int .i64 x.f0).wf = true) :
    Calls Try.prog 3 #[.int .i64 a0, .slice A1 l1.length c1] w fun e w' => e = .returned (.bool true) ∧ Below w.heap.size w w' := by
  have HLG := Aside0.mk (annuletlaw21_large.calls k A1 c1 l1 lg w hr1 hc1 hlg)
  have HR1 := Aside0.mk hr1
  have HC1 := Aside0.mk hc1
  have HWF := Aside0.mk hwf
  have HLF := Aside0.mk hlg
  clear hr1 hc1 hlg hwf
  have HAW : Aside0 (∀ V, Below w.heap.size w V → Calls Try.prog 6 #[] V fun e w' => e = .returned (.bool true) ∧ Below w.heap.size w w') := ⟨fun V hV => (awake_calls V).mono (fun e w' h => ⟨h.1, below_then hV hV.size h.2⟩)⟩
  cases lg with
  | true =>
    go_enter Try.func3, Try.ntmps3
    go_wp2_with fail
    refine HLG.out.mono ?_
    rintro e w1 ⟨rfl, hb1⟩
    have HB1 := Aside0.mk hb1
    clear hb1
    go_wp2_with fail
    refine (HAW.out _ HB1.out).mono ?_
    rintro e w2 ⟨rfl, hb2⟩
    have HB2 := Aside0.mk hb2
    clear hb2
    go_wp2_with fail
    go_ret
    exact ⟨rfl, HB2.out⟩
  | false =>
    have HLL := Aside0.mk (large_false l1 k 0 0 (by decide) (by decide) (by decide) (by decide) HLF.out)
    by_cases hbad : a0 < 1 ∨ 65535 < a0
    · have HBAD := Aside0.mk hbad
      clear hbad
      go_enter Try.func3, Try.ntmps3
      go_wp2_with fail
      refine HLG.out.mono ?_
      rintro e w1 ⟨rfl, hb1⟩
      have HB1 := Aside0.mk hb1
      clear hb1
      go_wp2_with fail
      refine (new_bad a0 w1 HBAD.out).mono ?_
      rintro e w2 ⟨rfl, hb2⟩
      have HB2 := Aside0.mk (below_then HB1.out HB1.out.size hb2)
      clear hb2
      go_wp2_with fail
      refine (rnew_bad a0 w2 HBAD.out).mono ?_
      rintro e w3 ⟨rfl, hb3⟩
      have HB3 := Aside0.mk (below_then HB2.out HB2.out.size hb3)
      clear hb3
      go_wp2_with fail
      go_loopg [9] 0 (fun gg s9 wr => s9 = .int .i64 0 ∧ wr = w3)
      case atStart => exact ⟨rfl, rfl⟩
      case round =>
        obtain ⟨rfl, rfl⟩ := hrel
        go_wp2_with fail
        all_goals
          refine (HAW.out _ HB3.out).mono ?_
          rintro e w4 ⟨rfl, hb4⟩
          have HB4 := Aside0.mk hb4
          clear hb4
          go_wp2_with fail
          go_ret
          exact ⟨rfl, HB4.out⟩
    · have hok : 1 ≤ a0 ∧ a0 ≤ 65535 := by omega
      have HOK := Aside0.mk hok
      clear hbad hok
      go_enter Try.func3, Try.ntmps3
      go_wp2_with fail
      refine HLG.out.mono ?_
      rintro e w1 ⟨rfl, hb1⟩
      have HB1 := Aside0.mk hb1
      clear hb1
      go_wp2_with fail
      refine (new_ok a0 w1 HOK.out.1 HOK.out.2).mono ?_
      rintro e w2 ⟨p, b, rfl, hb2, hp, hb, hCS⟩
      have HB2 := Aside0.mk (below_then HB1.out HB1.out.size hb2)
      have HCS := Aside0.mk hCS
      have HPB := Aside0.mk (And.intro hp hb)
      have HS12 := Aside0.mk hb2.size
      clear hb2 hCS hp hb
      go_wp2_with fail
      refine (rnew_ok a0 w2 HOK.out.1 HOK.out.2).mono ?_
      rintro e w3 ⟨g, rfl, hb3, hg, hRS⟩
      have HPS0 : Aside0 (PS w p b g a0 [] [] w3) := ⟨⟨below_then HB2.out HB2.out.size hb3, _, _, HCS.out.below hb3, hRS, fun k hk hk2 => by
        have h1 := HCS.out.lt k hk
        omega, fun k hk => by
        have h1 := HB1.out.size
        have h2 := HPB.out
        omega, fun k hk => by
        have h1 := HB2.out.size
        omega⟩⟩
      clear hb3 hg hRS
      go_wp2_with fail
      go_loopg [9, 10, 11, 12, 13] l1.length (fun gg s9 s10 s11 s12 s13 wr => ∃ (ji : Int) (qs : List Q), 0 ≤ ji ∧ ji ≤ l1.length ∧ l1.length - ji.toNat ≤ gg ∧ s9 = .int .i64 ji ∧ Aside0 ((qs.length : Int) ≤ ji ∧ tot qs ≤ 8000 * ji) ∧ Aside0 (PS w p b g a0 qs qs wr))
      case atStart => exact ⟨0, [], by omega, by omega, by simp, rfl, ⟨by simp [tot]⟩, HPS0⟩
      case round =>
        obtain ⟨ji, qs, hj0, hj1, hgg, rfl, HQL, HPSr⟩ := hrel
        by_cases hlt : ji < (l1.length : Int)
        · obtain ⟨ad, A0, c0, rfl, hx0, hx1, hcl, hC0⟩ := at_T35 HR1.out ji hj0 hlt
          have hwfi : (Lit.int .i64 (rd_T35 l1 ji).f0).wf = true := HWF.out _ (by
            unfold rd_T35
            rw [List.getD_eq_getElem?_getD, List.getElem?_eq_getElem (by omega)]
            exact List.getElem_mem _)
          have hlen : (rd_T35 l1 ji).f1.length ≤ 8000 := by
            have := HLL.out.2.2 ji.toNat (by omega) (by omega)
            rwa [Int.toNat_of_nonneg hj0] at this
          have hl200 := HLL.out.1
          obtain ⟨i0, hi0⟩ : ∃ i0, (rd_T35 l1 ji).f0 = i0 := ⟨_, rfl⟩
          obtain ⟨xs, hxs⟩ : ∃ xs, (rd_T35 l1 ji).f1 = xs := ⟨_, rfl⟩
          rw [hi0] at hx0 hwfi
          rw [hxs] at hx1 hcl hC0 hlen
          obtain ⟨n0, hn0⟩ : ∃ n0, xs.length = n0 := ⟨_, rfl⟩
          obtain ⟨st, hst⟩ : ∃ st, strOfNums xs = st := ⟨_, rfl⟩
          obtain ⟨r0, hr0⟩ : ∃ r0, stepR a0 qs i0 = r0 := ⟨_, rfl⟩
          have hjw : (Lit.int .i64 ji).wf = true := by simp [Lit.wf, IntKind.min, IntKind.max, IntKind.bits, IntKind.signed]; omega
          have hc65 := HOK.out
          have htq := HQL.out
          have HS : Aside0 (∀ V, Below w.heap.size w V → PlayS w ad ji i0 A0 n0 c0 st V) := ⟨fun V hV => ⟨hV, (hV.cell (World.block_lt_of_cell? _ _ hx0)).trans hx0, by rw [← hn0]; exact (hV.cell (World.block_lt_of_cell? _ _ hx1)).trans hx1, by rw [← hn0, ← hst]; exact Kd.C_string (P := Try.prog) (A := A0) (c := c0) Try.underlying33 Try.underlying5 Try.underlying9 (Kd.C_below hC0 hV)⟩⟩
          have HQ : ∀ v, Aside0 (((stepQ a0 qs i0 v xs).length : Int) ≤ ji + 1 ∧ tot (stepQ a0 qs i0 v xs) ≤ 8000 * (ji + 1)) := fun v => ⟨by have h1 := stepQ_len a0 qs i0 v xs; omega⟩
          have HE9 : Aside0 (∀ V, PS w p b g a0 qs qs V → Calls Try.prog 9 #[.pointer (some ⟨p, 0, none⟩), .int .i64 i0, .slice A0 n0 c0] V fun e w' => ∃ v, e = .returned (.int .i64 r0) ∧ PS w p b g a0 (stepQ a0 qs i0 v xs) qs w') := ⟨fun V hV => by
            rw [← hn0, ← hr0]
            exact padd hV i0 hwfi A0 c0 xs hcl hC0 (by omega) (tot_nn qs) (by omega) (by omega)⟩
          have HE10 : Aside0 (∀ v V, PS w p b g a0 (stepQ a0 qs i0 v xs) qs V → Calls Try.prog 10 #[.pointer (some ⟨g, 0, none⟩), .int .i64 i0, .string st] V fun e w' => e = .returned (.int .i64 r0) ∧ PS w p b g a0 (stepQ a0 qs i0 v xs) (stepQ a0 qs i0 v xs) w') := ⟨fun v V hV => by
            rw [← hst, ← hr0]
            exact radd hV i0 v xs (by omega)⟩
          have HE11 : Aside0 (∀ q2, ((q2.length : Int) ≤ ji + 1 ∧ tot q2 ≤ 8000 * (ji + 1)) → ∀ V, PS w p b g a0 q2 q2 V → Calls Try.prog 11 #[.pointer (some ⟨p, 0, none⟩)] V fun e w' => e = .returned (.int .i64 (a0 - q2.length)) ∧ PS w p b g a0 q2 q2 w') := ⟨fun q2 h2 V hV => pmissing hV hc65.2 (by omega) (by omega)⟩
          have HE12 : Aside0 (∀ q2, ((q2.length : Int) ≤ ji + 1 ∧ tot q2 ≤ 8000 * (ji + 1)) → ∀ V, PS w p b g a0 q2 q2 V → Calls Try.prog 12 #[.pointer (some ⟨g, 0, none⟩)] V fun e w' => e = .returned (.int .i64 (a0 - q2.length)) ∧ PS w p b g a0 q2 q2 w') := ⟨fun q2 h2 V hV => rmissing hV hc65.2 (by omega) (by omega)⟩
          have HE13 : Aside0 (∀ q2, ((q2.length : Int) ≤ ji + 1 ∧ tot q2 ≤ 8000 * (ji + 1)) → ∀ V, PS w p b g a0 q2 q2 V → Calls Try.prog 13 #[.pointer (some ⟨p, 0, none⟩)] V fun e w' => e = .returned (.int .i64 (tot q2)) ∧ PS w p b g a0 q2 q2 w') := ⟨fun q2 h2 V hV => psize hV⟩
          have HE14 : Aside0 (∀ q2, ((q2.length : Int) ≤ ji + 1 ∧ tot q2 ≤ 8000 * (ji + 1)) → ∀ V, PS w p b g a0 q2 q2 V → Calls Try.prog 14 #[.pointer (some ⟨g, 0, none⟩)] V fun e w' => e = .returned (.int .i64 (tot q2)) ∧ PS w p b g a0 q2 q2 w') := ⟨fun q2 h2 V hV => rsize hV (by omega) (by omega)⟩
          have HE15 : Aside0 (∀ q2, ((q2.length : Int) ≤ ji + 1 ∧ tot q2 ≤ 8000 * (ji + 1)) → ∀ V, PS w p b g a0 q2 q2 V → Calls Try.prog 15 #[.pointer (some ⟨p, 0, none⟩), .int .i64 ji] V fun e w' => e = .returned (.bool (q2.any fun x => x.i == ji)) ∧ PS w p b g a0 q2 q2 w') := ⟨fun q2 h2 V hV => phas hV ji hjw⟩
          have HE16 : Aside0 (∀ q2, ((q2.length : Int) ≤ ji + 1 ∧ tot q2 ≤ 8000 * (ji + 1)) → ∀ V, PS w p b g a0 q2 q2 V → Calls Try.prog 16 #[.pointer (some ⟨g, 0, none⟩), .int .i64 ji] V fun e w' => e = .returned (.bool (q2.any fun x => x.i == ji)) ∧ PS w p b g a0 q2 q2 w') := ⟨fun q2 h2 V hV => rhas hV ji (by omega)⟩
          have HE17 : Aside0 (∀ q2, ((q2.length : Int) ≤ ji + 1 ∧ tot q2 ≤ 8000 * (ji + 1)) → ∀ V, PS w p b g a0 q2 q2 V → Calls Try.prog 17 #[.pointer (some ⟨p, 0, none⟩)] V fun e w' => ∃ A c2, e = .returned (.tuple #[.slice A (wl a0 q2).length c2, .bool (decide (a0 ≤ q2.length))]) ∧ Kd.C (Kd.int .u8) w' A (wl a0 q2).length (wl a0 q2) ∧ PS w p b g a0 q2 q2 w') := ⟨fun q2 h2 V hV => pwhole hV hc65.2 (by omega) (by omega) (by omega)⟩
          have HE18 : Aside0 (∀ q2, ((q2.length : Int) ≤ ji + 1 ∧ tot q2 ≤ 8000 * (ji + 1)) → ∀ V, PS w p b g a0 q2 q2 V → Calls Try.prog 18 #[.pointer (some ⟨g, 0, none⟩)] V fun e w' => e = .returned (.tuple #[.string (strOfNums (wl a0 q2)), .bool (decide (a0 ≤ q2.length))]) ∧ Below V.heap.size V w' ∧ PS w p b g a0 q2 q2 w') := ⟨fun q2 h2 V hV => rwhole hV hc65.2 (by omega) (by omega) (by omega)⟩
          have HPS0 := Aside0.mk (HPSr.out.below (Below.drew (Below.refl _ _)))
          have p0 : (0 ≤ ji) = True := eq_true hj0
          have p1 : (ji < (l1.length : Int)) = True := eq_true hlt
          have HJ := Aside0.mk (And.intro hj0 (And.intro hj1 (And.intro hlt (And.intro hgg hl200))))


          clear hx0 hx1 hcl hC0 hlen hi0 hxs hn0 hst hr0 hc65 htq hjw hwfi hj1 hgg hl200
          go_wp2_with fail
          refine start_ (n := 49) (S := PlayS w ad ji i0 A0 n0 c0 st) (ds := []) #[false, false, false, false, false, false, false, false, false, false, false, false, false, false, false, false, false, false, false, false, false, false, false, false, false, false, false, false, false, false, false, false, false, false, false, false, false, false, false, false, false, false, false, false, false, false, false, false, false] (by kernel_rfl) rfl rfl (HS.out _ HPS0.out.1) (fun hHeld0 => ?_)
          refine pure_ (i := 0) (N := some 47) (v := ?_) (a' := ?_) #[true, false, false, false, false, false, false, false, false, false, false, false, false, false, false, false, false, false, false, false, false, false, false, false, false, false, false, false, false, false, false, false, false, false, false, false, false, false, false, false, false, false, false, false, false, false, false, false, false] rfl rfl (by kernel_rfl) (fun _ _ _ h => h) (Or.inl ⟨by rfl, ?_⟩) ?_ ?_
          rotate_left
          · intro w'
            go_simp
            with_reducible rfl
          rotate_left
          · simp only [Act.put, List.setIfInBounds_toArray, List.set_cons_zero, List.set_cons_succ, i64_w, i32_w]
            rfl
          refine pure_ (i := 1) (N := some 48) (v := ?_) (a' := ?_) #[true, true, false, false, false, false, false, false, false, false, false, false, false, false, false, false, false, false, false, false, false, false, false, false, false, false, false, false, false, false, false, false, false, false, false, false, false, false, false, false, false, false, false, false, false, false, false, false, false] rfl rfl (by kernel_rfl) (fun _ _ _ h => h) (Or.inl ⟨by rfl, ?_⟩) ?_ ?_
          rotate_left
          · intro w'
            go_simp
            with_reducible rfl
          rotate_left
          · simp only [Act.put, List.setIfInBounds_toArray, List.set_cons_zero, List.set_cons_succ, i64_w, i32_w]
            rfl
          refine pure_ (i := 2) (N := some 49) (v := ?_) (a' := ?_) #[true, true, true, false, false, false, false, false, false, false, false, false, false, false, false, false, false, false, false, false, false, false, false, false, false, false, false, false, false, false, false, false, false, false, false, false, false, false, false, false, false, false, false, false, false, false, false, false, false] rfl rfl (by kernel_rfl) (fun _ _ _ h => h) (Or.inl ⟨by rfl, ?_⟩) ?_ ?_
          rotate_left
          · intro w'
            go_simp
            with_reducible rfl
          rotate_left
          · simp only [Act.put, List.setIfInBounds_toArray, List.set_cons_zero, List.set_cons_succ, i64_w, i32_w]
            rfl
          refine pure_ (i := 3) (N := some 50) (v := ?_) (a' := ?_) #[true, true, true, true, false, false, false, false, false, false, false, false, false, false, false, false, false, false, false, false, false, false, false, false, false, false, false, false, false, false, false, false, false, false, false, false, false, false, false, false, false, false, false, false, false, false, false, false, false] rfl rfl (by kernel_rfl) (fun _ _ _ h => h) (Or.inl ⟨by rfl, ?_⟩) ?_ ?_
          rotate_left
          · intro w'
            go_simp
            with_reducible rfl
          rotate_left
          · simp only [Act.put, List.setIfInBounds_toArray, List.set_cons_zero, List.set_cons_succ, i64_w, i32_w]
            rfl
          refine pure_ (i := 4) (N := some 51) (v := ?_) (a' := ?_) #[true, true, true, true, true, false, false, false, false, false, false, false, false, false, false, false, false, false, false, false, false, false, false, false, false, false, false, false, false, false, false, false, false, false, false, false, false, false, false, false, false, false, false, false, false, false, false, false, false] rfl rfl (by kernel_rfl) (fun _ _ _ h => h) (Or.inl ⟨by rfl, ?_⟩) ?_ ?_
          rotate_left
          · intro w'
            go_simp
            with_reducible rfl
          rotate_left
          · simp only [Act.put, List.setIfInBounds_toArray, List.set_cons_zero, List.set_cons_succ, i64_w, i32_w]
            rfl
          refine take_ (i := 5) (N := some 52) (v := ?_) (a' := ?_) #[true, true, true, true, true, true, false, false, false, false, false, false, false, false, false, false, false, false, false, false, false, false, false, false, false, false, false, false, false, false, false, false, false, false, false, false, false, false, false, false, false, false, false, false, false, false, false, false, false] rfl rfl (by kernel_rfl) (fun _ _ _ h => h) (Or.inl ⟨by rfl, ?_⟩) hHeld0 ?_ ?_
          rotate_left
          · rintro w' ⟨s0, s1, s2, s3⟩
            go_simp
            with_reducible rfl
          rotate_left
          · simp only [Act.put, List.setIfInBounds_toArray, List.set_cons_zero, List.set_cons_succ, i64_w, i32_w]
            rfl
          refine pure_ (i := 6) (N := some 53) (v := ?_) (a' := ?_) #[true, true, true, true, true, true, true, false, false, false, false, false, false, false, false, false, false, false, false, false, false, false, false, false, false, false, false, false, false, false, false, false, false, false, false, false, false, false, false, false, false, false, false, false, false, false, false, false, false] rfl rfl (by kernel_rfl) (fun _ _ _ h => h) (Or.inl ⟨by rfl, ?_⟩) ?_ ?_
          rotate_left
          · intro w'
            go_simp
            with_reducible rfl
          rotate_left
          · simp only [Act.put, List.setIfInBounds_toArray, List.set_cons_zero, List.set_cons_succ, i64_w, i32_w]
            rfl
          refine pure_ (i := 7) (N := some 54) (v := ?_) (a' := ?_) #[true, true, true, true, true, true, true, true, false, false, false, false, false, false, false, false, false, false, false, false, false, false, false, false, false, false, false, false, false, false, false, false, false, false, false, false, false, false, false, false, false, false, false, false, false, false, false, false, false] rfl rfl (by kernel_rfl) (fun _ _ _ h => h) (Or.inl ⟨by rfl, ?_⟩) ?_ ?_
          rotate_left
          · intro w'
            go_simp
            with_reducible rfl
          rotate_left
          · simp only [Act.put, List.setIfInBounds_toArray, List.set_cons_zero, List.set_cons_succ, i64_w, i32_w]
            rfl
          refine pure_ (i := 8) (N := some 55) (v := ?_) (a' := ?_) #[true, true, true, true, true, true, true, true, true, false, false, false, false, false, false, false, false, false, false, false, false, false, false, false, false, false, false, false, false, false, false, false, false, false, false, false, false, false, false, false, false, false, false, false, false, false, false, false, false] rfl rfl (by kernel_rfl) (fun _ _ _ h => h) (Or.inl ⟨by rfl, ?_⟩) ?_ ?_
          rotate_left
          · intro w'
            go_simp
            with_reducible rfl
          rotate_left
          · simp only [Act.put, List.setIfInBounds_toArray, List.set_cons_zero, List.set_cons_succ, i64_w, i32_w]
            rfl
          refine pure_ (i := 9) (N := some 56) (v := ?_) (a' := ?_) #[true, true, true, true, true, true, true, true, true, true, false, false, false, false, false, false, false, false, false, false, false, false, false, false, false, false, false, false, false, false, false, false, false, false, false, false, false, false, false, false, false, false, false, false, false, false, false, false, false] rfl rfl (by kernel_rfl) (fun _ _ _ h => h) (Or.inl ⟨by rfl, ?_⟩) ?_ ?_
          rotate_left
          · intro w'
            go_simp
            with_reducible rfl
          rotate_left
          · simp only [Act.put, List.setIfInBounds_toArray, List.set_cons_zero, List.set_cons_succ, i64_w, i32_w]
            rfl
          refine take_ (i := 10) (N := some 57) (v := ?_) (a' := ?_) #[true, true, true, true, true, true, true, true, true, true, true, false, false, false, false, false, false, false, false, false, false, false, false, false, false, false, false, false, false, false, false, false, false, false, false, false, false, false, false, false, false, false, false, false, false, false, false, false, false] rfl rfl (by kernel_rfl) (fun _ _ _ h => h) (Or.inl ⟨by rfl, ?_⟩) hHeld0 ?_ ?_
          rotate_left
          · rintro w' ⟨s0, s1, s2, s3⟩
            go_simp
            with_reducible rfl
          rotate_left
          · simp only [Act.put, List.setIfInBounds_toArray, List.set_cons_zero, List.set_cons_succ, i64_w, i32_w]
            rfl
          refine pure_ (i := 12) (N := some 59) (v := ?_) (a' := ?_) #[true, true, true, true, true, true, true, true, true, true, true, false, true, false, false, false, false, false, false, false, false, false, false, false, false, false, false, false, false, false, false, false, false, false, false, false, false, false, false, false, false, false, false, false, false, false, false, false, false] rfl rfl (by kernel_rfl) (fun _ _ _ h => h) (Or.inl ⟨by rfl, ?_⟩) ?_ ?_
          rotate_left
          · intro w'
            go_simp
            with_reducible rfl
          rotate_left
          · simp only [Act.put, List.setIfInBounds_toArray, List.set_cons_zero, List.set_cons_succ, i64_w, i32_w]
            rfl
          refine pure_ (i := 13) (N := some 60) (v := ?_) (a' := ?_) #[true, true, true, true, true, true, true, true, true, true, true, false, true, true, false, false, false, false, false, false, false, false, false, false, false, false, false, false, false, false, false, false, false, false, false, false, false, false, false, false, false, false, false, false, false, false, false, false, false] rfl rfl (by kernel_rfl) (fun _ _ _ h => h) (Or.inl ⟨by rfl, ?_⟩) ?_ ?_
          rotate_left
          · intro w'
            go_simp
            with_reducible rfl
          rotate_left
          · simp only [Act.put, List.setIfInBounds_toArray, List.set_cons_zero, List.set_cons_succ, i64_w, i32_w]
            rfl
          refine pure_ (i := 14) (N := some 61) (v := ?_) (a' := ?_) #[true, true, true, true, true, true, true, true, true, true, true, false, true, true, true, false, false, false, false, false, false, false, false, false, false, false, false, false, false, false, false, false, false, false, false, false, false, false, false, false, false, false, false, false, false, false, false, false, false] rfl rfl (by kernel_rfl) (fun _ _ _ h => h) (Or.inl ⟨by rfl, ?_⟩) ?_ ?_
          rotate_left
          · intro w'
            go_simp
            with_reducible rfl
          rotate_left
          · simp only [Act.put, List.setIfInBounds_toArray, List.set_cons_zero, List.set_cons_succ, i64_w, i32_w]
            rfl
          refine pure_ (i := 15) (N := some 62) (v := ?_) (a' := ?_) #[true, true, true, true, true, true, true, true, true, true, true, false, true, true, true, true, false, false, false, false, false, false, false, false, false, false, false, false, false, false, false, false, false, false, false, false, false, false, false, false, false, false, false, false, false, false, false, false, false] rfl rfl (by kernel_rfl) (fun _ _ _ h => h) (Or.inl ⟨by rfl, ?_⟩) ?_ ?_
          rotate_left
          · intro w'
            go_simp
            with_reducible rfl
          rotate_left
          · simp only [Act.put, List.setIfInBounds_toArray, List.set_cons_zero, List.set_cons_succ, i64_w, i32_w]
            rfl
          refine pure_ (i := 16) (N := some 63) (v := ?_) (a' := ?_) #[true, true, true, true, true, true, true, true, true, true, true, false, true, true, true, true, true, false, false, false, false, false, false, false, false, false, false, false, false, false, false, false, false, false, false, false, false, false, false, false, false, false, false, false, false, false, false, false, false] rfl rfl (by kernel_rfl) (fun _ _ _ h => h) (Or.inl ⟨by rfl, ?_⟩) ?_ ?_
          rotate_left
          · intro w'
            go_simp
            with_reducible rfl
          rotate_left
          · simp only [Act.put, List.setIfInBounds_toArray, List.set_cons_zero, List.set_cons_succ, i64_w, i32_w]
            rfl
          refine take_ (i := 17) (N := some 64) (v := ?_) (a' := ?_) #[true, true, true, true, true, true, true, true, true, true, true, false, true, true, true, true, true, true, false, false, false, false, false, false, false, false, false, false, false, false, false, false, false, false, false, false, false, false, false, false, false, false, false, false, false, false, false, false, false] rfl rfl (by kernel_rfl) (fun _ _ _ h => h) (Or.inl ⟨by rfl, ?_⟩) hHeld0 ?_ ?_
          rotate_left
          · rintro w' ⟨s0, s1, s2, s3⟩
            go_simp
            with_reducible rfl
          rotate_left
          · simp only [Act.put, List.setIfInBounds_toArray, List.set_cons_zero, List.set_cons_succ, i64_w, i32_w]
            rfl
          refine pure_ (i := 18) (N := some 65) (v := ?_) (a' := ?_) #[true, true, true, true, true, true, true, true, true, true, true, false, true, true, true, true, true, true, true, false, false, false, false, false, false, false, false, false, false, false, false, false, false, false, false, false, false, false, false, false, false, false, false, false, false, false, false, false, false] rfl rfl (by kernel_rfl) (fun _ _ _ h => h) (Or.inl ⟨by rfl, ?_⟩) ?_ ?_
          rotate_left
          · intro w'
            go_simp
            with_reducible rfl
          rotate_left
          · simp only [Act.put, List.setIfInBounds_toArray, List.set_cons_zero, List.set_cons_succ, i64_w, i32_w]
            rfl
          refine pure_ (i := 19) (N := some 66) (v := ?_) (a' := ?_) #[true, true, true, true, true, true, true, true, true, true, true, false, true, true, true, true, true, true, true, true, false, false, false, false, false, false, false, false, false, false, false, false, false, false, false, false, false, false, false, false, false, false, false, false, false, false, false, false, false] rfl rfl (by kernel_rfl) (fun _ _ _ h => h) (Or.inl ⟨by rfl, ?_⟩) ?_ ?_
          rotate_left
          · intro w'
            go_simp
            with_reducible rfl
          rotate_left
          · simp only [Act.put, List.setIfInBounds_toArray, List.set_cons_zero, List.set_cons_succ, i64_w, i32_w]
            rfl
          refine pure_ (i := 20) (N := some 67) (v := ?_) (a' := ?_) #[true, true, true, true, true, true, true, true, true, true, true, false, true, true, true, true, true, true, true, true, true, false, false, false, false, false, false, false, false, false, false, false, false, false, false, false, false, false, false, false, false, false, false, false, false, false, false, false, false] rfl rfl (by kernel_rfl) (fun _ _ _ h => h) (Or.inl ⟨by rfl, ?_⟩) ?_ ?_
          rotate_left
          · intro w'
            go_simp
            with_reducible rfl
          rotate_left
          · simp only [Act.put, List.setIfInBounds_toArray, List.set_cons_zero, List.set_cons_succ, i64_w, i32_w]
            rfl
          refine pure_ (i := 21) (N := some 68) (v := ?_) (a' := ?_) #[true, true, true, true, true, true, true, true, true, true, true, false, true, true, true, true, true, true, true, true, true, true, false, false, false, false, false, false, false, false, false, false, false, false, false, false, false, false, false, false, false, false, false, false, false, false, false, false, false] rfl rfl (by kernel_rfl) (fun _ _ _ h => h) (Or.inl ⟨by rfl, ?_⟩) ?_ ?_
          rotate_left
          · intro w'
            go_simp
            with_reducible rfl
          rotate_left
          · simp only [Act.put, List.setIfInBounds_toArray, List.set_cons_zero, List.set_cons_succ, i64_w, i32_w]
            rfl
          refine take_ (i := 22) (N := some 69) (v := ?_) (a' := ?_) #[true, true, true, true, true, true, true, true, true, true, true, false, true, true, true, true, true, true, true, true, true, true, true, false, false, false, false, false, false, false, false, false, false, false, false, false, false, false, false, false, false, false, false, false, false, false, false, false, false] rfl rfl (by kernel_rfl) (fun _ _ _ h => h) (Or.inl ⟨by rfl, ?_⟩) hHeld0 ?_ ?_
          rotate_left
          · rintro w' ⟨s0, s1, s2, s3⟩
            go_simp
            with_reducible rfl
          rotate_left
          · simp only [Act.put, List.setIfInBounds_toArray, List.set_cons_zero, List.set_cons_succ, i64_w, i32_w]
            rfl
          refine take_ (i := 23) (N := some 70) (v := ?_) (a' := ?_) #[true, true, true, true, true, true, true, true, true, true, true, false, true, true, true, true, true, true, true, true, true, true, true, true, false, false, false, false, false, false, false, false, false, false, false, false, false, false, false, false, false, false, false, false, false, false, false, false, false] rfl rfl (by kernel_rfl) (fun _ _ _ h => h) (Or.inl ⟨by rfl, ?_⟩) hHeld0 ?_ ?_
          rotate_left
          · rintro w' ⟨s0, s1, s2, s3⟩
            go_simp
            with_reducible rfl
          rotate_left
          · simp only [Act.put, List.setIfInBounds_toArray, List.set_cons_zero, List.set_cons_succ, i64_w, i32_w]
            rfl
          refine one_ (i := 11) (N := some 58) #[true, true, true, true, true, true, true, true, true, true, true, true, true, true, true, true, true, true, true, true, true, true, true, true, false, false, false, false, false, false, false, false, false, false, false, false, false, false, false, false, false, false, false, false, false, false, false, false, false] rfl rfl (by kernel_rfl) (by decide) (fun K hK => ?_)
          refine goes_ Try.func9 (by kernel_rfl) rfl #[.pointer (some ⟨p, 0, none⟩), .int .i64 i0, .slice A0 n0 c0] (by rfl) rfl rfl (by (try simp only [List.map_toArray, List.map_cons, List.map_nil]); first | done | rfl) ?_
          refine (HE9.out _ HPS0.out).mono ?_
          rintro e w1 ⟨v, rfl, hps⟩
          refine ⟨_, rfl, ?_⟩
          have hS_ := HS.out _ hps.1
          refine hK.out _ _ hS_ (fun hHeld1 => ?_)
          have HPS1 := Aside0.mk hps
          clear hps hS_ hHeld0 HPS0
          clear hK K
          refine norm_ (a' := ?_) ?_ ?_
          rotate_left
          · show Act.put _ (some 58) _ = _
            simp only [Act.put, List.setIfInBounds_toArray, List.set_cons_zero, List.set_cons_succ, i64_w, i32_w]
            rfl
          refine one_ (i := 24) (N := some 71) #[true, true, true, true, true, true, true, true, true, true, true, true, true, true, true, true, true, true, true, true, true, true, true, true, true, false, false, false, false, false, false, false, false, false, false, false, false, false, false, false, false, false, false, false, false, false, false, false, false] rfl rfl (by kernel_rfl) (by decide) (fun K hK => ?_)
          refine goes_ Try.func10 (by kernel_rfl) rfl #[.pointer (some ⟨g, 0, none⟩), .int .i64 i0, .string st] (by rfl) rfl rfl (by (try simp only [List.map_toArray, List.map_cons, List.map_nil]); first | done | rfl) ?_
          refine (HE10.out v _ HPS1.out).mono ?_
          rintro e w2 ⟨rfl, hps⟩
          refine ⟨_, rfl, ?_⟩
          have hS_ := HS.out _ hps.1
          refine hK.out _ _ hS_ (fun hHeld2 => ?_)
          have hle_ := HQ v
          obtain ⟨q2, hq2⟩ : ∃ q2, stepQ a0 qs i0 v xs = q2 := ⟨_, rfl⟩
          rw [hq2] at hps hle_
          have HQ2 := Aside0.mk hle_.out
          clear hle_
          have HPS2 := Aside0.mk hps
          clear hps hS_ hHeld1 HPS1
          clear hK K
          refine norm_ (a' := ?_) ?_ ?_
          rotate_left
          · show Act.put _ (some 71) _ = _
            simp only [Act.put, List.setIfInBounds_toArray, List.set_cons_zero, List.set_cons_succ, i64_w, i32_w]
            rfl
          refine pure_ (i := 25) (N := some 72) (v := ?_) (a' := ?_) #[true, true, true, true, true, true, true, true, true, true, true, true, true, true, true, true, true, true, true, true, true, true, true, true, true, true, false, false, false, false, false, false, false, false, false, false, false, false, false, false, false, false, false, false, false, false, false, false, false] rfl rfl (by kernel_rfl) (fun _ _ _ h => h) (Or.inl ⟨by rfl, ?_⟩) ?_ ?_
          rotate_left
          · intro w'
            go_simp
            with_reducible rfl
          rotate_left
          · simp only [Act.put, List.setIfInBounds_toArray, List.set_cons_zero, List.set_cons_succ, i64_w, i32_w]
            rfl
          refine pure_ (i := 26) (N := some 73) (v := ?_) (a' := ?_) #[true, true, true, true, true, true, true, true, true, true, true, true, true, true, true, true, true, true, true, true, true, true, true, true, true, true, true, false, false, false, false, false, false, false, false, false, false, false, false, false, false, false, false, false, false, false, false, false, false] rfl rfl (by kernel_rfl) (fun _ _ _ h => h) (Or.inl ⟨by rfl, ?_⟩) ?_ ?_
          rotate_left
          · intro w'
            go_simp
            with_reducible rfl
          rotate_left
          · simp only [Act.put, List.setIfInBounds_toArray, List.set_cons_zero, List.set_cons_succ, i64_w, i32_w]
            rfl
          refine pure_ (i := 27) (N := some 74) (v := ?_) (a' := ?_) #[true, true, true, true, true, true, true, true, true, true, true, true, true, true, true, true, true, true, true, true, true, true, true, true, true, true, true, true, false, false, false, false, false, false, false, false, false, false, false, false, false, false, false, false, false, false, false, false, false] rfl rfl (by kernel_rfl) (fun _ _ _ h => h) (Or.inl ⟨by rfl, ?_⟩) ?_ ?_
          rotate_left
          · intro w'
            go_simp
            with_reducible rfl
          rotate_left
          · simp only [Act.put, List.setIfInBounds_toArray, List.set_cons_zero, List.set_cons_succ, i64_w, i32_w]
            rfl
          refine pure_ (i := 29) (N := some 76) (v := ?_) (a' := ?_) #[true, true, true, true, true, true, true, true, true, true, true, true, true, true, true, true, true, true, true, true, true, true, true, true, true, true, true, true, false, true, false, false, false, false, false, false, false, false, false, false, false, false, false, false, false, false, false, false, false] rfl rfl (by kernel_rfl) (fun _ _ _ h => h) (Or.inl ⟨by rfl, ?_⟩) ?_ ?_
          rotate_left
          · intro w'
            go_simp
            with_reducible rfl
          rotate_left
          · simp only [Act.put, List.setIfInBounds_toArray, List.set_cons_zero, List.set_cons_succ, i64_w, i32_w]
            rfl
          refine one_ (i := 28) (N := some 75) #[true, true, true, true, true, true, true, true, true, true, true, true, true, true, true, true, true, true, true, true, true, true, true, true, true, true, true, true, true, true, false, false, false, false, false, false, false, false, false, false, false, false, false, false, false, false, false, false, false] rfl rfl (by kernel_rfl) (by decide) (fun K hK => ?_)
          refine goes_ Try.func11 (by kernel_rfl) rfl #[.pointer (some ⟨p, 0, none⟩)] (by rfl) rfl rfl (by (try simp only [List.map_toArray, List.map_cons, List.map_nil]); first | done | rfl) ?_
          refine (HE11.out q2 HQ2.out _ HPS2.out).mono ?_
          rintro e w3 ⟨rfl, hps⟩
          refine ⟨_, rfl, ?_⟩
          have hS_ := HS.out _ hps.1
          refine hK.out _ _ hS_ (fun hHeld3 => ?_)
          have HPS3 := Aside0.mk hps
          clear hps hS_ hHeld2 HPS2
          clear hK K
          refine norm_ (a' := ?_) ?_ ?_
          rotate_left
          · show Act.put _ (some 75) _ = _
            simp only [Act.put, List.setIfInBounds_toArray, List.set_cons_zero, List.set_cons_succ, i64_w, i32_w]
            rfl
          refine one_ (i := 30) (N := some 77) #[true, true, true, true, true, true, true, true, true, true, true, true, true, true, true, true, true, true, true, true, true, true, true, true, true, true, true, true, true, true, true, false, false, false, false, false, false, false, false, false, false, false, false, false, false, false, false, false, false] rfl rfl (by kernel_rfl) (by decide) (fun K hK => ?_)
          refine goes_ Try.func12 (by kernel_rfl) rfl #[.pointer (some ⟨g, 0, none⟩)] (by rfl) rfl rfl (by (try simp only [List.map_toArray, List.map_cons, List.map_nil]); first | done | rfl) ?_
          refine (HE12.out q2 HQ2.out _ HPS3.out).mono ?_
          rintro e w4 ⟨rfl, hps⟩
          refine ⟨_, rfl, ?_⟩
          have hS_ := HS.out _ hps.1
          refine hK.out _ _ hS_ (fun hHeld4 => ?_)
          have HPS4 := Aside0.mk hps
          clear hps hS_ hHeld3 HPS3
          clear hK K
          refine norm_ (a' := ?_) ?_ ?_
          rotate_left
          · show Act.put _ (some 77) _ = _
            simp only [Act.put, List.setIfInBounds_toArray, List.set_cons_zero, List.set_cons_succ, i64_w, i32_w]
            rfl
          refine pure_ (i := 31) (N := some 78) (v := ?_) (a' := ?_) #[true, true, true, true, true, true, true, true, true, true, true, true, true, true, true, true, true, true, true, true, true, true, true, true, true, true, true, true, true, true, true, true, false, false, false, false, false, false, false, false, false, false, false, false, false, false, false, false, false] rfl rfl (by kernel_rfl) (fun _ _ _ h => h) (Or.inl ⟨by rfl, ?_⟩) ?_ ?_
          rotate_left
          · intro w'
            go_simp
            with_reducible rfl
          rotate_left
          · simp only [Act.put, List.setIfInBounds_toArray, List.set_cons_zero, List.set_cons_succ, i64_w, i32_w]
            rfl
          refine pure_ (i := 32) (N := some 79) (v := ?_) (a' := ?_) #[true, true, true, true, true, true, true, true, true, true, true, true, true, true, true, true, true, true, true, true, true, true, true, true, true, true, true, true, true, true, true, true, true, false, false, false, false, false, false, false, false, false, false, false, false, false, false, false, false] rfl rfl (by kernel_rfl) (fun _ _ _ h => h) (Or.inl ⟨by rfl, ?_⟩) ?_ ?_
          rotate_left
          · intro w'
            go_simp
            with_reducible rfl
          rotate_left
          · simp only [Act.put, List.setIfInBounds_toArray, List.set_cons_zero, List.set_cons_succ, i64_w, i32_w]
            rfl
          refine pure_ (i := 33) (N := some 80) (v := ?_) (a' := ?_) #[true, true, true, true, true, true, true, true, true, true, true, true, true, true, true, true, true, true, true, true, true, true, true, true, true, true, true, true, true, true, true, true, true, true, false, false, false, false, false, false, false, false, false, false, false, false, false, false, false] rfl rfl (by kernel_rfl) (fun _ _ _ h => h) (Or.inl ⟨by rfl, ?_⟩) ?_ ?_
          rotate_left
          · intro w'
            go_simp
            with_reducible rfl
          rotate_left
          · simp only [Act.put, List.setIfInBounds_toArray, List.set_cons_zero, List.set_cons_succ, i64_w, i32_w]
            rfl
          refine pure_ (i := 34) (N := some 81) (v := ?_) (a' := ?_) #[true, true, true, true, true, true, true, true, true, true, true, true, true, true, true, true, true, true, true, true, true, true, true, true, true, true, true, true, true, true, true, true, true, true, true, false, false, false, false, false, false, false, false, false, false, false, false, false, false] rfl rfl (by kernel_rfl) (fun _ _ _ h => h) (Or.inl ⟨by rfl, ?_⟩) ?_ ?_
          rotate_left
          · intro w'
            go_simp
            with_reducible rfl
          rotate_left
          · simp only [Act.put, List.setIfInBounds_toArray, List.set_cons_zero, List.set_cons_succ, i64_w, i32_w]
            rfl
          refine pure_ (i := 36) (N := some 83) (v := ?_) (a' := ?_) #[true, true, true, true, true, true, true, true, true, true, true, true, true, true, true, true, true, true, true, true, true, true, true, true, true, true, true, true, true, true, true, true, true, true, true, false, true, false, false, false, false, false, false, false, false, false, false, false, false] rfl rfl (by kernel_rfl) (fun _ _ _ h => h) (Or.inl ⟨by rfl, ?_⟩) ?_ ?_
          rotate_left
          · intro w'
            go_simp
            with_reducible rfl
          rotate_left
          · simp only [Act.put, List.setIfInBounds_toArray, List.set_cons_zero, List.set_cons_succ, i64_w, i32_w]
            rfl
          refine one_ (i := 35) (N := some 82) #[true, true, true, true, true, true, true, true, true, true, true, true, true, true, true, true, true, true, true, true, true, true, true, true, true, true, true, true, true, true, true, true, true, true, true, true, true, false, false, false, false, false, false, false, false, false, false, false, false] rfl rfl (by kernel_rfl) (by decide) (fun K hK => ?_)
          refine goes_ Try.func13 (by kernel_rfl) rfl #[.pointer (some ⟨p, 0, none⟩)] (by rfl) rfl rfl (by (try simp only [List.map_toArray, List.map_cons, List.map_nil]); first | done | rfl) ?_
          refine (HE13.out q2 HQ2.out _ HPS4.out).mono ?_
          rintro e w5 ⟨rfl, hps⟩
          refine ⟨_, rfl, ?_⟩
          have hS_ := HS.out _ hps.1
          refine hK.out _ _ hS_ (fun hHeld5 => ?_)
          have HPS5 := Aside0.mk hps
          clear hps hS_ hHeld4 HPS4
          clear hK K
          refine norm_ (a' := ?_) ?_ ?_
          rotate_left
          · show Act.put _ (some 82) _ = _
            simp only [Act.put, List.setIfInBounds_toArray, List.set_cons_zero, List.set_cons_succ, i64_w, i32_w]
            rfl
          refine one_ (i := 37) (N := some 84) #[true, true, true, true, true, true, true, true, true, true, true, true, true, true, true, true, true, true, true, true, true, true, true, true, true, true, true, true, true, true, true, true, true, true, true, true, true, true, false, false, false, false, false, false, false, false, false, false, false] rfl rfl (by kernel_rfl) (by decide) (fun K hK => ?_)
          refine goes_ Try.func14 (by kernel_rfl) rfl #[.pointer (some ⟨g, 0, none⟩)] (by rfl) rfl rfl (by (try simp only [List.map_toArray, List.map_cons, List.map_nil]); first | done | rfl) ?_
          refine (HE14.out q2 HQ2.out _ HPS5.out).mono ?_
          rintro e w6 ⟨rfl, hps⟩
          refine ⟨_, rfl, ?_⟩
          have hS_ := HS.out _ hps.1
          refine hK.out _ _ hS_ (fun hHeld6 => ?_)
          have HPS6 := Aside0.mk hps
          clear hps hS_ hHeld5 HPS5
          clear hK K
          refine norm_ (a' := ?_) ?_ ?_
          rotate_left
          · show Act.put _ (some 84) _ = _
            simp only [Act.put, List.setIfInBounds_toArray, List.set_cons_zero, List.set_cons_succ, i64_w, i32_w]
            rfl
          refine pure_ (i := 38) (N := some 85) (v := ?_) (a' := ?_) #[true, true, true, true, true, true, true, true, true, true, true, true, true, true, true, true, true, true, true, true, true, true, true, true, true, true, true, true, true, true, true, true, true, true, true, true, true, true, true, false, false, false, false, false, false, false, false, false, false] rfl rfl (by kernel_rfl) (fun _ _ _ h => h) (Or.inl ⟨by rfl, ?_⟩) ?_ ?_
          rotate_left
          · intro w'
            go_simp
            with_reducible rfl
          rotate_left
          · simp only [Act.put, List.setIfInBounds_toArray, List.set_cons_zero, List.set_cons_succ, i64_w, i32_w]
            rfl
          refine pure_ (i := 39) (N := some 86) (v := ?_) (a' := ?_) #[true, true, true, true, true, true, true, true, true, true, true, true, true, true, true, true, true, true, true, true, true, true, true, true, true, true, true, true, true, true, true, true, true, true, true, true, true, true, true, true, false, false, false, false, false, false, false, false, false] rfl rfl (by kernel_rfl) (fun _ _ _ h => h) (Or.inl ⟨by rfl, ?_⟩) ?_ ?_
          rotate_left
          · intro w'
            go_simp
            with_reducible rfl
          rotate_left
          · simp only [Act.put, List.setIfInBounds_toArray, List.set_cons_zero, List.set_cons_succ, i64_w, i32_w]
            rfl
          refine pure_ (i := 40) (N := some 87) (v := ?_) (a' := ?_) #[true, true, true, true, true, true, true, true, true, true, true, true, true, true, true, true, true, true, true, true, true, true, true, true, true, true, true, true, true, true, true, true, true, true, true, true, true, true, true, true, true, false, false, false, false, false, false, false, false] rfl rfl (by kernel_rfl) (fun _ _ _ h => h) (Or.inl ⟨by rfl, ?_⟩) ?_ ?_
          rotate_left
          · intro w'
            go_simp
            with_reducible rfl
          rotate_left
          · simp only [Act.put, List.setIfInBounds_toArray, List.set_cons_zero, List.set_cons_succ, i64_w, i32_w]
            rfl
          refine pure_ (i := 41) (N := some 88) (v := ?_) (a' := ?_) #[true, true, true, true, true, true, true, true, true, true, true, true, true, true, true, true, true, true, true, true, true, true, true, true, true, true, true, true, true, true, true, true, true, true, true, true, true, true, true, true, true, true, false, false, false, false, false, false, false] rfl rfl (by kernel_rfl) (fun _ _ _ h => h) (Or.inl ⟨by rfl, ?_⟩) ?_ ?_
          rotate_left
          · intro w'
            go_simp
            with_reducible rfl
          rotate_left
          · simp only [Act.put, List.setIfInBounds_toArray, List.set_cons_zero, List.set_cons_succ, i64_w, i32_w]
            rfl
          refine pure_ (i := 42) (N := some 89) (v := ?_) (a' := ?_) #[true, true, true, true, true, true, true, true, true, true, true, true, true, true, true, true, true, true, true, true, true, true, true, true, true, true, true, true, true, true, true, true, true, true, true, true, true, true, true, true, true, true, true, false, false, false, false, false, false] rfl rfl (by kernel_rfl) (fun _ _ _ h => h) (Or.inl ⟨by rfl, ?_⟩) ?_ ?_
          rotate_left
          · intro w'
            go_simp
            with_reducible rfl
          rotate_left
          · simp only [Act.put, List.setIfInBounds_toArray, List.set_cons_zero, List.set_cons_succ, i64_w, i32_w]
            rfl
          refine pure_ (i := 44) (N := some 91) (v := ?_) (a' := ?_) #[true, true, true, true, true, true, true, true, true, true, true, true, true, true, true, true, true, true, true, true, true, true, true, true, true, true, true, true, true, true, true, true, true, true, true, true, true, true, true, true, true, true, true, false, true, false, false, false, false] rfl rfl (by kernel_rfl) (fun _ _ _ h => h) (Or.inl ⟨by rfl, ?_⟩) ?_ ?_
          rotate_left
          · intro w'
            go_simp
            with_reducible rfl
          rotate_left
          · simp only [Act.put, List.setIfInBounds_toArray, List.set_cons_zero, List.set_cons_succ, i64_w, i32_w]
            rfl
          refine pure_ (i := 45) (N := some 92) (v := ?_) (a' := ?_) #[true, true, true, true, true, true, true, true, true, true, true, true, true, true, true, true, true, true, true, true, true, true, true, true, true, true, true, true, true, true, true, true, true, true, true, true, true, true, true, true, true, true, true, false, true, true, false, false, false] rfl rfl (by kernel_rfl) (fun _ _ _ h => h) (Or.inl ⟨by rfl, ?_⟩) ?_ ?_
          rotate_left
          · intro w'
            go_simp
            with_reducible rfl
          rotate_left
          · simp only [Act.put, List.setIfInBounds_toArray, List.set_cons_zero, List.set_cons_succ, i64_w, i32_w]
            rfl
          refine one_ (i := 43) (N := some 90) #[true, true, true, true, true, true, true, true, true, true, true, true, true, true, true, true, true, true, true, true, true, true, true, true, true, true, true, true, true, true, true, true, true, true, true, true, true, true, true, true, true, true, true, true, true, true, false, false, false] rfl rfl (by kernel_rfl) (by decide) (fun K hK => ?_)
          refine goes_ Try.func15 (by kernel_rfl) rfl #[.pointer (some ⟨p, 0, none⟩), .int .i64 ji] (by rfl) rfl rfl (by (try simp only [List.map_toArray, List.map_cons, List.map_nil]); first | done | rfl) ?_
          refine (HE15.out q2 HQ2.out _ HPS6.out).mono ?_
          rintro e w7 ⟨rfl, hps⟩
          refine ⟨_, rfl, ?_⟩
          have hS_ := HS.out _ hps.1
          refine hK.out _ _ hS_ (fun hHeld7 => ?_)
          have HPS7 := Aside0.mk hps
          clear hps hS_ hHeld6 HPS6
          clear hK K
          refine norm_ (a' := ?_) ?_ ?_
          rotate_left
          · show Act.put _ (some 90) _ = _
            simp only [Act.put, List.setIfInBounds_toArray, List.set_cons_zero, List.set_cons_succ, i64_w, i32_w]
            rfl
          refine one_ (i := 46) (N := some 93) #[true, true, true, true, true, true, true, true, true, true, true, true, true, true, true, true, true, true, true, true, true, true, true, true, true, true, true, true, true, true, true, true, true, true, true, true, true, true, true, true, true, true, true, true, true, true, true, false, false] rfl rfl (by kernel_rfl) (by decide) (fun K hK => ?_)
          refine goes_ Try.func16 (by kernel_rfl) rfl #[.pointer (some ⟨g, 0, none⟩), .int .i64 ji] (by rfl) rfl rfl (by (try simp only [List.map_toArray, List.map_cons, List.map_nil]); first | done | rfl) ?_
          refine (HE16.out q2 HQ2.out _ HPS7.out).mono ?_
          rintro e w8 ⟨rfl, hps⟩
          refine ⟨_, rfl, ?_⟩
          have hS_ := HS.out _ hps.1
          refine hK.out _ _ hS_ (fun hHeld8 => ?_)
          have HPS8 := Aside0.mk hps
          clear hps hS_ hHeld7 HPS7
          clear hK K
          refine norm_ (a' := ?_) ?_ ?_
          rotate_left
          · show Act.put _ (some 93) _ = _
            simp only [Act.put, List.setIfInBounds_toArray, List.set_cons_zero, List.set_cons_succ, i64_w, i32_w]
            rfl
          refine pure_ (i := 47) (N := some 94) (v := ?_) (a' := ?_) #[true, true, true, true, true, true, true, true, true, true, true, true, true, true, true, true, true, true, true, true, true, true, true, true, true, true, true, true, true, true, true, true, true, true, true, true, true, true, true, true, true, true, true, true, true, true, true, true, false] rfl rfl (by kernel_rfl) (fun _ _ _ h => h) (Or.inl ⟨by rfl, ?_⟩) ?_ ?_
          rotate_left
          · intro w'
            go_simp
            with_reducible rfl
          rotate_left
          · simp only [Act.put, List.setIfInBounds_toArray, List.set_cons_zero, List.set_cons_succ, i64_w, i32_w]
            rfl
          refine pure_ (i := 48) (N := some 95) (v := ?_) (a' := ?_) #[true, true, true, true, true, true, true, true, true, true, true, true, true, true, true, true, true, true, true, true, true, true, true, true, true, true, true, true, true, true, true, true, true, true, true, true, true, true, true, true, true, true, true, true, true, true, true, true, true] rfl rfl (by kernel_rfl) (fun _ _ _ h => h) (Or.inl ⟨by rfl, ?_⟩) ?_ ?_
          rotate_left
          · intro w'
            go_simp
            with_reducible rfl
          rotate_left
          · simp only [Act.put, List.setIfInBounds_toArray, List.set_cons_zero, List.set_cons_succ, i64_w, i32_w]
            rfl
          refine done_ (by kernel_rfl) ?_
          have HPSe := Aside0.mk HPS8.out
          go_wp2_with fail
          refine (HE17.out q2 HQ2.out _ HPSe.out).mono ?_
          rintro e w9 ⟨A9, c9, rfl, hC9, hps9⟩
          have HC9 := Aside0.mk hC9
          have HPS9 := Aside0.mk hps9
          clear hC9 hps9
          go_wp2_with fail
          refine (HE18.out q2 HQ2.out _ HPS9.out).mono ?_
          rintro e w10 ⟨rfl, hb10, hps10⟩
          have HPS10 := Aside0.mk hps10
          have hcv : (Go.convert 33 9 (.slice A9 (wl a0 q2).length c9)).run Try.prog w10 = .ok (.string (strOfNums (wl a0 q2))) w10 := Kd.C_string (P := Try.prog) (A := A9) (c := c9) Try.underlying33 Try.underlying5 Try.underlying9 (Kd.C_below HC9.out hb10)
          clear hb10 hps10
          go_wp2_with fail
          go_roundg (l1.length - (ji.toNat + 1))
          case measure => have := HJ.out; omega
          case rel =>
            have hj := HJ.out
            refine ⟨ji + 1, q2, by omega, by omega, by omega, ?_, ⟨HQ2.out⟩, HPS10⟩
            first | rfl | (have hw : wrap64 (ji + 1) = ji + 1 := (by unfold wrap64; omega); rw [hw])
        · go_wp2_with fail
          refine (HAW.out _ HPSr.out.1).mono ?_
          rintro e w4 ⟨rfl, hb4⟩
          have HB4 := Aside0.mk hb4
          clear hb4
          go_wp2_with fail
          go_ret
          exact ⟨rfl, HB4.out⟩
#print axioms play_calls
end Go.Proofs.Ytgmflbgeaiplhaa.H
