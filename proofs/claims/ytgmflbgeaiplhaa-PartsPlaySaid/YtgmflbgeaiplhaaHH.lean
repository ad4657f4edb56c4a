/- Mine. Chapter 21, by hand: the parts and the reference's parts side by side. -/
import Derived.Test.YtgmflbgeaiplhaaHG
namespace Go.Proofs.Ytgmflbgeaiplhaa.H
open Go Go.Proofs Go.RowKit Go.Lib Go.Proofs.Ytgmflbgeaiplhaa.P Go.Proofs.YtgmflbgeaiplhaaW.PrintWords Go.Proofs.YtgmflbgeaiplhaaW.PrintLast Go.Proofs.YtgmflbgeaiplhaaW.PrintMore Go.Proofs.YtgmflbgeaiplhaaW.PrintFlat
set_option linter.unusedVariables false
set_option linter.unusedSimpArgs false
/-- Both, apart from each other and from what came in. -/
def PS (w : World) (p b g : Nat) (c : Int) (qs rs : List Q) (V : World) : Prop := Below w.heap.size w V ∧ ∃ o1 o2 : Nat → Prop, CS o1 p b c qs V ∧ RS o2 g c (psOf rs) (ssOf rs) V ∧ (∀ k, o1 k → ¬ o2 k) ∧ (∀ k, o1 k → w.heap.size ≤ k) ∧ (∀ k, o2 k → w.heap.size ≤ k)
theorem PS.below {w V V' : World} {p b g : Nat} {c : Int} {qs rs : List Q} (h : PS w p b g c qs rs V) (hb : Below V.heap.size V V') : PS w p b g c qs rs V' := by
  obtain ⟨h0, o1, o2, h1, h2, h3⟩ := h
  exact ⟨below_then h0 h0.size hb, o1, o2, h1.below hb, h2.frame (S := fun _ => False) (Fr.of_below hb) (fun _ _ h => h), h3⟩
def stepR (c : Int) (qs : List Q) (i : Int) : Int := if i < 0 ∨ c ≤ i then 1 else if (qs.any fun x => x.i == i) = true then 12 else 0
def stepQ (c : Int) (qs : List Q) (i : Int) (v : Value) (l : List Int) : List Q := if stepR c qs i = 0 then qs ++ [⟨i, v, l⟩] else qs
theorem any_ps (qs : List Q) (i : Int) : (psOf qs).any (fun x => x == i) = qs.any (fun x => x.i == i) := by simp [List.any_map, Function.comp_def]
theorem any_ps' (qs : List Q) (i : Int) : (qs.map Q.i).any (fun x => x == i) = qs.any (fun x => x.i == i) := any_ps qs i
theorem fr_far {w V V' : World} {o1 o2 : Nat → Prop} (h : Fr o1 V V') (hs : ∀ k, o1 k → ¬ o2 k) : ∀ k, o2 k → ¬ o1 k := fun k h2 h1 => hs k h1 h2
theorem padd {w V : World} {p b g : Nat} {c : Int} {qs rs : List Q} (h : PS w p b g c qs rs V) (i : Int) (hi : (Lit.int .i64 i).wf = true) (A : Option Addr) (cp : Nat) (l : List Int) (hcp : l.length ≤ cp)
    (hbody : Kd.C (Kd.int .u8) w A l.length l) (hl : l.length ≤ 140737488355328) (ht0 : 0 ≤ tot qs) (ht : tot qs ≤ 4611686018427387904) (hq : qs.length ≤ 65535) :
    Calls Try.prog 9 #[.pointer (some ⟨p, 0, none⟩), .int .i64 i, .slice A l.length cp] V fun e w' => ∃ v, e = .returned (.int .i64 (stepR c qs i)) ∧ PS w p b g c (stepQ c qs i v l) rs w' := by
  obtain ⟨h0, o1, o2, h1, h2, h3, h4, h5⟩ := h
  refine (add_calls h1 i hi A cp l hcp (fun V' hV' => Kd.C_below hbody (h0.trans (hV'.below h0.size h4))) hl ht0 ht hq).mono ?_
  intro e w1 ⟨hf, hc⟩
  have hbw : Below w.heap.size w w1 := h0.trans (hf.below h0.size h4)
  have hR := h2.frame hf (fun k hk => fr_far (w := w) hf h3 k hk)
  rcases hc with ⟨g1, rfl, g2⟩ | ⟨g1, g2, rfl, g3⟩ | ⟨g1, g2, rfl, v, g3⟩
  · refine ⟨.bool true, ?_, hbw, o1, o2, ?_, hR, h3, h4, h5⟩
    · rw [stepR, if_pos g1]
    · rw [stepQ, stepR, if_pos g1, if_neg (by decide)]; exact g2
  · have hn : ¬ (i < 0 ∨ c ≤ i) := by omega
    refine ⟨.bool true, ?_, hbw, o1, o2, ?_, hR, h3, h4, h5⟩
    · rw [stepR, if_neg hn, if_pos g2]
    · rw [stepQ, stepR, if_neg hn, if_pos g2, if_neg (by decide)]; exact g3
  · have hn : ¬ (i < 0 ∨ c ≤ i) := by omega
    refine ⟨v, ?_, hbw, (fun k => o1 k ∨ V.heap.size ≤ k ∧ k < w1.heap.size), o2, ?_, hR, ?_, ?_, h5⟩
    · rw [stepR, if_neg hn, if_neg (by rw [g2]; decide)]
    · have hs : stepR c qs i = 0 := by rw [stepR, if_neg hn, if_neg (by rw [g2]; decide)]
      rw [stepQ, if_pos hs]; exact g3
    · intro k hk hk2
      rcases hk with hk | hk
      · exact h3 k hk hk2
      · have := h2.lt k hk2
        omega
    · intro k hk
      rcases hk with hk | hk
      · exact h4 k hk
      · exact Nat.le_trans h0.size hk.1
theorem psOf_app (qs : List Q) (q : Q) : psOf (qs ++ [q]) = psOf qs ++ [q.i] := by simp [psOf]
theorem ssOf_app (qs : List Q) (q : Q) : ssOf (qs ++ [q]) = ssOf qs ++ [strOfNums q.bs] := by simp [ssOf]
theorem radd {w V : World} {p b g : Nat} {c : Int} {qs rs : List Q} (h : PS w p b g c qs rs V) (i : Int) (v : Value) (l : List Int) (hq : rs.length ≤ 65535) :
    Calls Try.prog 10 #[.pointer (some ⟨g, 0, none⟩), .int .i64 i, .string (strOfNums l)] V fun e w' => e = .returned (.int .i64 (stepR c rs i)) ∧ PS w p b g c qs (stepQ c rs i v l) w' := by
  obtain ⟨h0, o1, o2, h1, h2, h3, h4, h5⟩ := h
  refine (radd_calls h2 i (strOfNums l) (by rw [List.length_map]; exact hq) (by rw [List.length_map]; exact hq)).mono ?_
  intro e w1 ⟨hf, hc⟩
  have hbw : Below w.heap.size w w1 := h0.trans (hf.below h0.size h5)
  have hC := h1.frame hf (fun k hk => h3 k hk)
  rw [any_ps'] at hc
  rcases hc with ⟨g1, rfl, g2⟩ | ⟨g1, g2, rfl, g3⟩ | ⟨g1, g2, rfl, g3⟩
  · refine ⟨?_, hbw, o1, o2, hC, ?_, h3, h4, h5⟩
    · rw [stepR, if_pos g1]
    · rw [stepQ, stepR, if_pos g1, if_neg (by decide)]; exact g2
  · have hn : ¬ (i < 0 ∨ c ≤ i) := by omega
    refine ⟨?_, hbw, o1, o2, hC, ?_, h3, h4, h5⟩
    · rw [stepR, if_neg hn, if_pos g2]
    · rw [stepQ, stepR, if_neg hn, if_pos g2, if_neg (by decide)]; exact g3
  · have hn : ¬ (i < 0 ∨ c ≤ i) := by omega
    refine ⟨?_, hbw, o1, (fun k => o2 k ∨ V.heap.size ≤ k ∧ k < w1.heap.size), hC, ?_, ?_, h4, ?_⟩
    rotate_left
    · have hs : stepR c rs i = 0 := by rw [stepR, if_neg hn, if_neg (by rw [g2]; decide)]
      rw [stepQ, if_pos hs, psOf_app, ssOf_app]; exact g3
    · intro k hk hk2
      rcases hk2 with hk2 | hk2
      · exact h3 k hk hk2
      · have := h1.lt k hk
        omega
    · intro k hk
      rcases hk with hk | hk
      · exact h5 k hk
      · exact Nat.le_trans h0.size hk.1
    · rw [stepR, if_neg hn, if_neg (by rw [g2]; decide)]
theorem sizes_ss (qs : List Q) : sizes (ssOf qs) = tot qs := by
  unfold sizes tot ssOf
  rw [List.map_map]
  congr 1
  apply List.map_congr_left
  intro q _
  simp [strOfNums_size]
theorem tot_nn (qs : List Q) : 0 ≤ tot qs := by
  unfold tot
  induction qs with
  | nil => simp
  | cons x r ih => simp only [List.map_cons, List.sum_cons]; omega
theorem tot_app (qs : List Q) (q : Q) : tot (qs ++ [q]) = tot qs + q.bs.length := by simp [tot]
section
variable {w V : World} {p b g : Nat} {c : Int} {qs rs : List Q}
theorem pmissing (h : PS w p b g c qs rs V) (hc : c ≤ 65535) (hc0 : 0 ≤ c) (hl : qs.length ≤ 65535) : Calls Try.prog 11 #[.pointer (some ⟨p, 0, none⟩)] V fun e w' => e = .returned (.int .i64 (c - qs.length)) ∧ PS w p b g c qs rs w' := by
  refine (missing_calls h.2.choose_spec.choose_spec.1 hc hc0 hl).mono ?_
  intro e w' ⟨h1, h2⟩
  exact ⟨h1, h.below h2⟩
theorem rmissing (h : PS w p b g c qs rs V) (hc : c ≤ 65535) (hc0 : 0 ≤ c) (hl : rs.length ≤ 65535) : Calls Try.prog 12 #[.pointer (some ⟨g, 0, none⟩)] V fun e w' => e = .returned (.int .i64 (c - rs.length)) ∧ PS w p b g c qs rs w' := by
  refine (rmissing_calls h.2.choose_spec.choose_spec.2.1 hc hc0 (by rw [List.length_map]; exact hl)).mono ?_
  intro e w' ⟨h1, h2⟩
  rw [List.length_map] at h1
  exact ⟨h1, h.below h2⟩
theorem psize (h : PS w p b g c qs rs V) : Calls Try.prog 13 #[.pointer (some ⟨p, 0, none⟩)] V fun e w' => e = .returned (.int .i64 (tot qs)) ∧ PS w p b g c qs rs w' := by
  refine (size_calls h.2.choose_spec.choose_spec.1).mono ?_
  intro e w' ⟨h1, h2⟩
  exact ⟨h1, h.below h2⟩
theorem rsize (h : PS w p b g c qs rs V) (hl : rs.length ≤ 65535) (ht : tot rs ≤ 4194304) : Calls Try.prog 14 #[.pointer (some ⟨g, 0, none⟩)] V fun e w' => e = .returned (.int .i64 (tot rs)) ∧ PS w p b g c qs rs w' := by
  refine (rsize_calls h.2.choose_spec.choose_spec.2.1 (by rw [List.length_map]; exact hl) (by rw [sizes_ss]; omega)).mono ?_
  intro e w' ⟨h1, h2⟩
  rw [sizes_ss] at h1
  exact ⟨h1, h.below h2⟩
theorem phas (h : PS w p b g c qs rs V) (i : Int) (hi : (Lit.int .i64 i).wf = true) : Calls Try.prog 15 #[.pointer (some ⟨p, 0, none⟩), .int .i64 i] V fun e w' => e = .returned (.bool (qs.any fun x => x.i == i)) ∧ PS w p b g c qs rs w' := by
  refine (has_calls h.2.choose_spec.choose_spec.1 i hi).mono ?_
  intro e w' ⟨h1, h2⟩
  exact ⟨h1, h.below h2⟩
theorem rhas (h : PS w p b g c qs rs V) (i : Int) (hl : rs.length ≤ 65535) : Calls Try.prog 16 #[.pointer (some ⟨g, 0, none⟩), .int .i64 i] V fun e w' => e = .returned (.bool (rs.any fun x => x.i == i)) ∧ PS w p b g c qs rs w' := by
  refine (rhas_calls h.2.choose_spec.choose_spec.2.1 i (by rw [List.length_map]; exact hl)).mono ?_
  intro e w' ⟨h1, h2⟩
  rw [any_ps'] at h1
  exact ⟨h1, h.below h2⟩
def wl (c : Int) (qs : List Q) : List Int := if c ≤ qs.length then whole qs c.toNat else []
theorem pwhole (h : PS w p b g c qs rs V) (hc : c ≤ 65535) (hc0 : 0 ≤ c) (hl : qs.length ≤ 65535) (ht : tot qs ≤ 4194304) : Calls Try.prog 17 #[.pointer (some ⟨p, 0, none⟩)] V fun e w' => ∃ A c2, e = .returned (.tuple #[.slice A (wl c qs).length c2, .bool (decide (c ≤ qs.length))]) ∧ Kd.C (Kd.int .u8) w' A (wl c qs).length (wl c qs) ∧ PS w p b g c qs rs w' := by
  refine (whole_calls h.2.choose_spec.choose_spec.1 hc hc0 hl ht (tot_nn qs)).mono ?_
  intro e w' ⟨h1, h2⟩
  have h3 := h.below h1
  unfold wl
  rcases h2 with ⟨h2, rfl⟩ | ⟨h2, v, rfl, hR⟩
  · have hn : ¬ (c ≤ (qs.length : Int)) := by omega
    refine ⟨none, 0, ?_, ?_, h3⟩
    · rw [if_neg hn, decide_eq_false hn]; rfl
    · rw [if_neg hn]; exact ⟨rfl, Nat.zero_le _, fun h => absurd h (Nat.lt_irrefl _)⟩
  · obtain ⟨A, c2, rfl, _, hC⟩ := Kd.R_reads hR
    refine ⟨A, c2, ?_, ?_, h3⟩
    · rw [if_pos h2, decide_eq_true h2]
    · rw [if_pos h2]; exact hC
theorem rwhole (h : PS w p b g c qs qs V) (hc : c ≤ 65535) (hc0 : 0 ≤ c) (hl : qs.length ≤ 65535) (ht : tot qs ≤ 4194304) : Calls Try.prog 18 #[.pointer (some ⟨g, 0, none⟩)] V fun e w' => e = .returned (.tuple #[.string (strOfNums (wl c qs)), .bool (decide (c ≤ qs.length))]) ∧ Below V.heap.size V w' ∧ PS w p b g c qs qs w' := by
  refine (rwhole_calls h.2.choose_spec.choose_spec.2.1 hc hc0 hl h.2.choose_spec.choose_spec.1.nd h.2.choose_spec.choose_spec.1.rg ht (tot_nn qs)).mono ?_
  intro e w' ⟨h1, h2⟩
  have h3 := h.below h1
  unfold wl
  rcases h2 with ⟨h2, rfl⟩ | ⟨h2, rfl⟩
  · have hn : ¬ (c ≤ (qs.length : Int)) := by omega
    refine ⟨?_, h1, h3⟩
    rw [if_neg hn, decide_eq_false hn]; rfl
  · refine ⟨?_, h1, h3⟩
    rw [if_pos h2, decide_eq_true h2]
end
/-- What the law's question tells. -/
theorem large_false (l : List S35) : ∀ (k : Nat) (n i : Int), 0 ≤ n → n ≤ 9000 * i → 0 ≤ i → i ≤ 300 → annuletlaw21_large.l0 k l n i = some false → l.length ≤ 200 ∧ n ≤ 8000 ∧ ∀ j : Nat, i ≤ j → j < l.length → (rd_T35 l j).f1.length ≤ 8000
  | 0, _, _, _, _, _, _, h => by simp [annuletlaw21_large.l0] at h
  | k + 1, n, i, h0, h1, h2, h3, h => by
    simp only [annuletlaw21_large.l0] at h
    have fin : ∀ {b : Bool}, (if (l.length : Int) > 200 then some true else some (decide (n > 8000))) = some false → l.length ≤ 200 ∧ n ≤ 8000 := fun h => by
      split at h
      · simp at h
      · simp at h
        omega
    split at h
    · rename_i h4
      split at h
      · rename_i h5
        try rw [if_pos h2] at h
        have hm : mn (((rd_T35 l i).f1).length : Int) 9000 = (((rd_T35 l i).f1).length : Int) ∨ (mn (((rd_T35 l i).f1).length : Int) 9000 = 9000 ∧ (9000 : Int) ≤ ((rd_T35 l i).f1).length) := by
          unfold mn
          split <;> omega
        have hw1 : wrap64 (n + mn (((rd_T35 l i).f1).length : Int) 9000) = n + mn (((rd_T35 l i).f1).length : Int) 9000 := by unfold wrap64; unfold mn at hm ⊢; split at hm <;> split <;> omega
        have hw2 : wrap64 (i + 1) = i + 1 := by unfold wrap64; omega
        rw [hw1, hw2] at h
        have hmb : 0 ≤ mn (((rd_T35 l i).f1).length : Int) 9000 ∧ mn (((rd_T35 l i).f1).length : Int) 9000 ≤ 9000 := by unfold mn; split <;> omega
        obtain ⟨r1, r2, r3⟩ := large_false l k _ _ (by omega) (by omega) (by omega) (by omega) h
        refine ⟨r1, by omega, fun j hj hjl => ?_⟩
        by_cases he : i = j
        · subst he
          omega
        · exact r3 j (by omega) hjl
      · rename_i h5
        have := fin (b := true) h
        omega
    · rename_i h4
      have := fin (b := true) h
      exact ⟨this.1, this.2, fun j hj hjl => by omega⟩
#print axioms padd
#print axioms radd
#print axioms large_false
end Go.Proofs.Ytgmflbgeaiplhaa.H
