/- Mine. Chapter 31, by hand: the references' Find and Busy; the law JobsFinds. -/
import Derived.Test.YtcnkmajengephaaHH
namespace Go.Proofs.Ytcnkmajengephaa.H
open Go Go.Proofs Go.RowKit Go.Lib Go.Proofs.Ytcnkmajengephaa.P Go.Proofs.YtcnkmajengephaaW.PrintWords Go.Proofs.YtcnkmajengephaaW.PrintLast Go.Proofs.YtcnkmajengephaaW.PrintMore
set_option linter.unusedVariables false
set_option linter.unusedSimpArgs false
theorem rd36g (l : List S36) (i : Nat) : rd_T36 l (i : Int) = l.getD i z36 := rfl
theorem rfind_l0 (l : List S36) (id : Int) (hl : l.length ≤ 100000) : ∀ K j : Nat, j ≤ l.length → l.length - j < K → (∀ i, i < j → (l.getD i z36).f0 ≠ id) → annuletref31_Find.l0 K l id j = some (fJob l id)
  | 0, j, hj, hk, ho => by omega
  | K + 1, j, hj, hk, ho => by
    rw [annuletref31_Find.l0]
    by_cases hlt : j < l.length
    · have hw : wrap64 ((j : Int) + 1) = ((j + 1 : Nat) : Int) := by unfold wrap64; omega
      rw [if_pos (by omega), if_pos (by omega), hw, rd36g]
      by_cases hc : (l.getD j z36).f0 = id
      · rw [if_pos hc]
        congr 1
        symm
        exact Go.Proofs.YtcnkmajengephaaW.PrintIdx.firstIdx_hit (fun x : S36 => x.f0 == id) l z36 j hlt (by simp only [hc]; exact beq_self_eq_true _) (fun i hi => by rw [beq_eq_false_iff_ne]; exact ho i hi)
      · rw [if_neg hc]
        refine rfind_l0 l id hl K (j + 1) (by omega) (by omega) (fun i hi => ?_)
        rcases Nat.lt_or_ge i j with h | h
        · exact ho i h
        · have : i = j := by omega
          rw [this]; exact hc
    · have hjl : j = l.length := by omega
      rw [if_neg (by omega)]
      congr 1
      symm
      exact Go.Proofs.YtcnkmajengephaaW.PrintIdx.firstIdx_miss (fun x : S36 => x.f0 == id) l z36 (fun i hi => by rw [beq_eq_false_iff_ne]; exact ho i (by omega))
theorem rfind_ok (A : Option Addr) (c : Nat) (l : List S36) (id : Int) (w : World) (h : Kd.C k36 w A l.length l) (hc : l.length ≤ c) (hl : l.length ≤ 100000) : Calls Try.prog 18 #[.slice A l.length c, .int .i64 id] w fun e w' => e = .returned (.int .i64 (fJob l id)) ∧ Below w.heap.size w w' := by
  refine (annuletref31_Find.calls (l.length + 1) A c l id _ w h hc (rfind_l0 l id hl (l.length + 1) 0 (by omega) (by omega) (fun i hi => absurd hi (by omega)))).mono ?_
  rintro e w' ⟨rfl, hd⟩
  exact ⟨rfl, by first | exact hd | exact hd.below⟩
theorem rbusy_l0 (l : List S36) (kind : Int) (hl : l.length ≤ 100000) : ∀ K j : Nat, j ≤ l.length → l.length - j < K → annuletref31_Busy.l0 K l kind j = some ((l.drop j).any fun x => x.f1 == kind)
  | 0, j, hj, hk => by omega
  | K + 1, j, hj, hk => by
    rw [annuletref31_Busy.l0]
    by_cases hlt : j < l.length
    · have hw : wrap64 ((j : Int) + 1) = ((j + 1 : Nat) : Int) := by unfold wrap64; omega
      have hr : rd_T36 l (j : Int) = l[j] := rd36 l j hlt
      rw [if_pos (by omega), if_pos (by omega), hw, hr, List.drop_eq_getElem_cons hlt, List.any_cons]
      by_cases hc : l[j].f1 = kind
      · rw [if_pos hc]; simp [hc]
      · rw [if_neg hc, rbusy_l0 l kind hl K (j + 1) (by omega) (by omega)]
        simp [hc]
    · rw [if_neg (by omega), List.drop_of_length_le (by omega)]
      rfl
theorem rbusy_ok (A : Option Addr) (c : Nat) (l : List S36) (kind : Int) (w : World) (h : Kd.C k36 w A l.length l) (hc : l.length ≤ c) (hl : l.length ≤ 100000) : Calls Try.prog 20 #[.slice A l.length c, .int .i64 kind] w fun e w' => e = .returned (.bool (l.any fun x => x.f1 == kind)) ∧ Below w.heap.size w w' := by
  refine (annuletref31_Busy.calls (l.length + 1) A c l kind _ w h hc (rbusy_l0 l kind hl (l.length + 1) 0 (by omega) (by omega))).mono ?_
  rintro e w' ⟨rfl, hd⟩
  exact ⟨by rw [List.drop_zero], by first | exact hd | exact hd.below⟩
set_option maxRecDepth 100000 in
set_option maxHeartbeats 4000000 in
theorem finds_calls (A : Option Addr) (c : Nat) (l : List S36) (id kind : Int) (w : World) (h : Kd.C k36 w A l.length l) (hc : l.length ≤ c) :
    Calls Try.prog 4 #[.slice A l.length c, .int .i64 id, .int .i64 kind] w fun e w' => e = .returned (.bool true) ∧ Below w.heap.size w w' := by
  have HC := Aside0.mk h
  have HQ := Aside0.mk hc
  clear h hc
  by_cases hbig : (60 : Int) < (l.length : Int)
  · have p0 := eq_true hbig
    clear hbig
    go_enter Try.func4, Try.ntmps4
    go_wp2_with fail
    refine (awake_ok w).mono ?_
    rintro e w1 ⟨rfl, hb1⟩
    have HB1 := Aside0.mk hb1
    clear hb1
    go_wp2_with fail
    go_ret
    exact ⟨rfl, HB1.out⟩
  · have HL : Aside0 (l.length ≤ 100000) := ⟨by omega⟩
    have p0 := eq_false hbig
    clear hbig
    have hf1 := find_ok A c l id w HC.out HQ.out
    obtain ⟨fi, hfi⟩ : ∃ fi, fJob l id = fi := ⟨_, rfl⟩
    obtain ⟨bb, hbb⟩ : ∃ bb, (l.any fun x => x.f1 == kind) = bb := ⟨_, rfl⟩
    have HF1 : Aside0 (∀ V, Below w.heap.size w V → Calls Try.prog 17 #[.slice A l.length c, .int .i64 id] V fun e w' => e = .returned (.int .i64 fi) ∧ Below V.heap.size V w') := ⟨fun V hV => by rw [← hfi]; exact find_ok A c l id V (Kd.C_below HC.out hV) HQ.out⟩
    have HF2 : Aside0 (∀ V, Below w.heap.size w V → Calls Try.prog 18 #[.slice A l.length c, .int .i64 id] V fun e w' => e = .returned (.int .i64 fi) ∧ Below V.heap.size V w') := ⟨fun V hV => by rw [← hfi]; exact rfind_ok A c l id V (Kd.C_below HC.out hV) HQ.out HL.out⟩
    have HF3 : Aside0 (∀ V, Below w.heap.size w V → Calls Try.prog 19 #[.slice A l.length c, .int .i64 kind] V fun e w' => e = .returned (.bool bb) ∧ Below V.heap.size V w') := ⟨fun V hV => by rw [← hbb]; exact busy_ok A c l kind V (Kd.C_below HC.out hV) HQ.out⟩
    have HF4 : Aside0 (∀ V, Below w.heap.size w V → Calls Try.prog 20 #[.slice A l.length c, .int .i64 kind] V fun e w' => e = .returned (.bool bb) ∧ Below V.heap.size V w') := ⟨fun V hV => by rw [← hbb]; exact rbusy_ok A c l kind V (Kd.C_below HC.out hV) HQ.out HL.out⟩
    clear hf1 hfi hbb
    go_enter Try.func4, Try.ntmps4
    go_wp2_with fail
    refine (HF1.out w (Below.refl _ _)).mono ?_
    rintro e w1 ⟨rfl, hb1⟩
    have HB1 := Aside0.mk hb1
    clear hb1
    go_wp2_with fail
    refine (HF2.out w1 HB1.out).mono ?_
    rintro e w2 ⟨rfl, hb2⟩
    have HB2 := Aside0.mk (below_then HB1.out HB1.out.size hb2)
    clear hb2
    go_wp2_with fail
    refine (HF3.out w2 HB2.out).mono ?_
    rintro e w3 ⟨rfl, hb3⟩
    have HB3 := Aside0.mk (below_then HB2.out HB2.out.size hb3)
    clear hb3
    go_wp2_with fail
    refine (HF4.out w3 HB3.out).mono ?_
    rintro e w4 ⟨rfl, hb4⟩
    have HB4 := Aside0.mk (below_then HB3.out HB3.out.size hb4)
    clear hb4
    go_wp2_with fail
    refine (awake_ok w4).mono ?_
    rintro e w5 ⟨rfl, hb5⟩
    have HB5 := Aside0.mk (below_then HB4.out HB4.out.size hb5)
    clear hb5
    go_wp2_with fail
    go_ret
    exact ⟨rfl, HB5.out⟩
#print axioms finds_calls
end Go.Proofs.Ytcnkmajengephaa.H
