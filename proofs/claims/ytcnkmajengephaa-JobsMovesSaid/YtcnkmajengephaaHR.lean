/- Mine. Chapter 31, by hand: the references' functions; the law JobsMoves. -/
import Derived.Test.YtcnkmajengephaaHM
import Derived.Test.YtcnkmajengephaaHH
namespace Go.Proofs.Ytcnkmajengephaa.H
set_option linter.unusedVariables false
set_option linter.unusedSimpArgs false
section
open Go Go.Proofs Go.RowKit Go.Lib Go.Proofs.Ytcnkmajengephaa.P Go.Proofs.YtcnkmajengephaaW.PrintWords Go.Proofs.YtcnkmajengephaaW.PrintLast Go.Proofs.YtcnkmajengephaaW.PrintMore
theorem rd36g (l : List S36) (i : Nat) : rd_T36 l (i : Int) = l.getD i z36 := rfl
theorem rfind_l0 (l : List S36) (id : Int) (hl : l.length ≤ 100000) : ∀ K j : Nat, j ≤ l.length → l.length - j < K → (∀ i, i < j → (l.getD i z36).f0 ≠ id) → annuletref31_Find.l0 K l id j = some (fJob l id)
  | 0, j, hj, hk, ho => by omega
  | K + 1, j, hj, hk, ho => by
    rw [annuletref31_Find.l0]
    by_cases hlt : j < l.length
    · have hw : wrap64 ((j : Int) + 1) = ((j + 1 : Nat) : Int) := by unfold wrap64; omega
      rw [if_pos (by omega), if_pos (by omega), hw, rd36g]
      by_cases hc : (l.getD j z36).f0 = id
      · rw [if_pos hc]
        congr 1
        symm
        exact Go.Proofs.YtcnkmajengephaaW.PrintIdx.firstIdx_hit (fun x : S36 => x.f0 == id) l z36 j hlt (by simp only [hc]; exact beq_self_eq_true _) (fun i hi => by rw [beq_eq_false_iff_ne]; exact ho i hi)
      · rw [if_neg hc]
        refine rfind_l0 l id hl K (j + 1) (by omega) (by omega) (fun i hi => ?_)
        rcases Nat.lt_or_ge i j with h | h
        · exact ho i h
        · have : i = j := by omega
          rw [this]; exact hc
    · have hjl : j = l.length := by omega
      rw [if_neg (by omega)]
      congr 1
      symm
      exact Go.Proofs.YtcnkmajengephaaW.PrintIdx.firstIdx_miss (fun x : S36 => x.f0 == id) l z36 (fun i hi => by rw [beq_eq_false_iff_ne]; exact ho i (by omega))
theorem rfind_ok (A : Option Addr) (c : Nat) (l : List S36) (id : Int) (w : World) (h : Kd.C k36 w A l.length l) (hc : l.length ≤ c) (hl : l.length ≤ 100000) : Calls Try.prog 18 #[.slice A l.length c, .int .i64 id] w fun e w' => e = .returned (.int .i64 (fJob l id)) ∧ Below w.heap.size w w' := by
  refine (annuletref31_Find.calls (l.length + 1) A c l id _ w h hc (rfind_l0 l id hl (l.length + 1) 0 (by omega) (by omega) (fun i hi => absurd hi (by omega)))).mono ?_
  rintro e w' ⟨rfl, hd⟩
  exact ⟨rfl, by first | exact hd | exact hd.below⟩
end
section
open Go Go.Proofs Go.RowKit Go.Lib Go.Proofs.Ytcnkmajengephaa.P Go.Proofs.YtcnkmajengephaaW.PrintWords Go.Proofs.YtcnkmajengephaaW.PrintLast Go.Proofs.YtcnkmajengephaaW.PrintMore
theorem h71 : Kd.Heap k71 := ⟨fun _ h => h⟩
theorem h74 : Kd.Heap k74 := ⟨fun _ h => h⟩
theorem h68 : Kd.Heap k68 := ⟨fun _ h => h⟩
theorem h78 : Kd.Heap k78 := ⟨fun _ h => h⟩
theorem h51 : Kd.Heap k51 := ⟨fun _ h => h⟩
theorem vv {α : Type} {d : Kd α} {e base : Nat} {w : World} {A : Option Addr} {c : Nat} {l : List α} (hd : Kd.Heap d) (hl : l.length ≤ c) (h : d.C w A l.length l) : Kd.V d e w base (fun _ => True) (.slice A l.length c) l :=
  Kd.V_mk hl (fun W' hW => Kd.Heap.C hd (fun k hk => hW k trivial hk) h)
/-- What came in, a row older than w. -/
theorem vo {α : Type} {d : Kd α} {e base g : Nat} {w W : World} {A : Option Addr} {c : Nat} {l : List α} (hd : Kd.Heap d) (hl : l.length ≤ c) (h : d.C w A l.length l) (hb : Below w.heap.size w W) (hg : w.heap.size ≤ g) : Kd.V d e W base (fun k => k ≠ g ∧ k ≠ g + 1) (.slice A l.length c) l :=
  Kd.V_mk hl (fun W' hW => Kd.Heap.C hd (fun k hk => (hW k ⟨by omega, by omega⟩ (Nat.lt_of_lt_of_le hk hb.size)).trans (hb.block k hk)) h)
theorem rtell_l0 : ∀ (K : Nat) (x : List S51), x.length ≤ 16 + K → annuletref31_tell.l0 (K + 1) x = some (last16 x)
  | 0, x, h => by
    rw [annuletref31_tell.l0, if_neg (by omega)]
    unfold last16
    rw [show x.length - 16 = 0 by omega, List.drop_zero]
  | K + 1, x, h => by
    rw [annuletref31_tell.l0]
    by_cases hc : (x.length : Int) > 16
    · rw [if_pos hc, if_pos (by omega), rtell_l0 K _ (by rw [List.length_drop]; show x.length - 1 ≤ _; omega)]
      unfold last16
      rw [List.drop_drop, List.length_drop]
      show some (x.drop (1 + (x.length - 1 - 16))) = _
      rw [show 1 + (x.length - 1 - 16) = x.length - 16 by omega]
    · rw [if_neg hc]
      unfold last16
      rw [show x.length - 16 = 0 by omega, List.drop_zero]
theorem rtell_j0 (l : List S51) (hl : l.length ≤ 100000) (has : Bool) (val : ByteArray) (e : Int) (b : Bool) (x : S36) : annuletref31_tell.j0 (l.length + 3) l has val e b x.f0 x.f1 x.f2 x.f3 x.f4 x.f5 x.f6.f0 x.f6.f1 x.f7.f0 x.f7.f1 x.f8 x.f9 x.f10 x.f11 = some (if b = true then l else last16 (l ++ [⟨x.f0, x.f1, x.f3, val, has, e⟩])) := by
  rw [annuletref31_tell.j0]
  cases b
  · rw [if_neg (by decide), if_neg (by decide), Option.bind_some, if_pos (by show 0 + l.length < _; omega), Option.bind_some, if_pos (by show ([] ++ l).length < _; rw [List.nil_append]; omega), List.nil_append]
    exact rtell_l0 (l.length + 1) _ (by rw [List.length_append]; show l.length + 1 ≤ _; omega)
  · rw [if_pos rfl, if_pos rfl]
theorem rtell_f (l : List S51) (hl : l.length ≤ 100000) (x : S36) (has : Bool) (val : ByteArray) (e : Int) : annuletref31_tell.f (l.length + 3) l x.f0 x.f1 x.f2 x.f3 x.f4 x.f5 x.f6.f0 x.f6.f1 x.f7.f0 x.f7.f1 x.f8 x.f9 x.f10 x.f11 has val e = some (toldL l x has val e) := by
  unfold annuletref31_tell.f toldL
  rw [rtell_j0 l hl, rtell_j0 l hl]
  by_cases h2 : x.f1 = 2
  · rw [if_pos h2, if_pos (Or.inl h2 : x.f1 = 2 ∨ x.f1 = 3), if_neg (show ¬ (false = true) by decide)]
  · rw [if_neg h2]
    by_cases h3 : x.f1 = 3
    · rw [if_pos (Or.inr h3 : x.f1 = 2 ∨ x.f1 = 3), if_neg (show ¬ ((x.f1 != 3) = true) by simp [h3])]
    · rw [if_neg (show ¬ (x.f1 = 2 ∨ x.f1 = 3) by simp [h2, h3]), if_pos (show (x.f1 != 3) = true by simp [h3])]
theorem rtell_ok (P : Nat → Prop) (A : Option Addr) (c : Nat) (l : List S51) (x : S36) (has : Bool) (val : ByteArray) (e : Int) (w : World) (h : Kd.V k51 51 w w.heap.size P (.slice A l.length c) l) (hl : l.length ≤ 100000) :
    Calls Try.prog 31 #[.slice A l.length c, jv x, .bool has, .string val, .int .i64 e] w fun e' w' => ∃ A' c', e' = .returned (.slice A' (toldL l x has val e).length c') ∧ Kd.V k51 51 w' w.heap.size (fun k => P k ∨ w.heap.size ≤ k) (.slice A' (toldL l x has val e).length c') (toldL l x has val e) ∧ Below w.heap.size w w' := by
  refine (annuletref31_tell.calls (l.length + 3) P A c l x.f0 x.f1 x.f2 x.f3 x.f4 x.f5 x.f6.f0 x.f6.f1 x.f7.f0 x.f7.f1 x.f8 x.f9 x.f10 x.f11 has val e _ w h (rtell_f l hl x has val e)).mono ?_
  rintro e' w' ⟨v, rfl, R, hB⟩
  obtain ⟨A', c', rfl⟩ := Kd.V_slice R
  exact ⟨A', c', rfl, R, hB⟩
/-- All jobs but the one at a. -/
def woR : List S36 → Nat → Int → List S36
  | [], _, _ => []
  | x :: l, i, a => if (i : Int) = a then woR l (i + 1) a else x :: woR l (i + 1) a
theorem woR_ge : ∀ (l : List S36) (i : Nat) (a : Int), a < (i : Int) → woR l i a = l
  | [], _, _, _ => rfl
  | x :: l, i, a, h => by rw [woR, if_neg (by omega), woR_ge l (i + 1) a (by omega)]
theorem woR_erase : ∀ (l : List S36) (i k : Nat), woR l i ((i + k : Nat) : Int) = l.eraseIdx k
  | [], i, k => by rw [List.eraseIdx_nil]; rfl
  | x :: l, i, 0 => by rw [woR, if_pos (by omega), woR_ge l (i + 1) _ (by omega)]; rfl
  | x :: l, i, k + 1 => by
    rw [woR, if_neg (by omega), show ((i + (k + 1) : Nat) : Int) = ((i + 1 + k : Nat) : Int) by omega, woR_erase l (i + 1) k]
    rfl
theorem rwo_l0 (l : List S36) (a : Int) (hl : l.length ≤ 100000) : ∀ (K j : Nat) (acc : List S36), j ≤ l.length → l.length - j < K → acc.length ≤ j → annuletref31_without.l0 K l a acc j = some (acc ++ woR (l.drop j) j a)
  | 0, j, acc, hj, hk, _ => by omega
  | K + 1, j, acc, hj, hk, hacc => by
    rw [annuletref31_without.l0]
    by_cases hlt : j < l.length
    · have hw : wrap64 ((j : Int) + 1) = ((j + 1 : Nat) : Int) := by unfold wrap64; omega
      rw [if_pos (by omega), List.drop_eq_getElem_cons hlt, woR, hw]
      by_cases hc : (j : Int) = a
      · rw [if_pos hc, if_pos hc, rwo_l0 l a hl K (j + 1) acc (by omega) (by omega) (by omega)]
      · rw [if_neg hc, if_neg hc, if_pos (by omega), if_pos (by omega), rwo_l0 l a hl K (j + 1) _ (by omega) (by omega) (by rw [List.length_append]; show acc.length + 1 ≤ _; omega)]
        rw [List.append_assoc]
        show some (acc ++ (rd_T36 l (j : Int) :: _)) = _
        rw [rd36 l j hlt]
        rfl
    · have hjl : j = l.length := by omega
      rw [if_neg (by omega), List.drop_eq_nil_of_le (by omega)]
      show some acc = some (acc ++ [])
      rw [List.append_nil]
theorem rwo_ok (A : Option Addr) (c : Nat) (l : List S36) (k : Nat) (w : World) (h : Kd.C k36 w A l.length l) (hc : l.length ≤ c) (hl : l.length ≤ 100000) :
    Calls Try.prog 32 #[.slice A l.length c, .int .i64 k] w fun e' w' => ∃ A' c', e' = .returned (.slice A' (l.eraseIdx k).length c') ∧ Kd.V k36 36 w' w.heap.size (fun q => w.heap.size ≤ q) (.slice A' (l.eraseIdx k).length c') (l.eraseIdx k) ∧ Below w.heap.size w w' := by
  refine (annuletref31_without.calls (l.length + 1) A c l k (l.eraseIdx k) w h hc ?_).mono ?_
  · show annuletref31_without.l0 (l.length + 1) l k [] ((0 : Nat) : Int) = _
    rw [rwo_l0 l k hl (l.length + 1) 0 [] (by omega) (by omega) (by exact Nat.le_refl 0), List.drop_zero, List.nil_append]
    have := woR_erase l 0 k
    rw [Nat.zero_add] at this
    rw [this]
  · rintro e' w' ⟨v, rfl, R, hB⟩
    obtain ⟨A', c', rfl, _, _⟩ := Kd.R_reads R
    exact ⟨A', c', rfl, Kd.R_V (Kd.R_mono (Kd.R_bound R) (fun q hq => hq.2.1)), hB⟩
/-- All jobs, the one at a another. -/
def stR (j : S36) : List S36 → Nat → Int → List S36
  | [], _, _ => []
  | x :: l, i, a => (if (i : Int) = a then j else x) :: stR j l (i + 1) a
theorem stR_ge (j : S36) : ∀ (l : List S36) (i : Nat) (a : Int), a < (i : Int) → stR j l i a = l
  | [], _, _, _ => rfl
  | x :: l, i, a, h => by rw [stR, if_neg (by omega), stR_ge j l (i + 1) a (by omega)]
theorem stR_set (j : S36) : ∀ (l : List S36) (i k : Nat), stR j l i ((i + k : Nat) : Int) = l.set k j
  | [], i, k => by rw [List.set_nil]; rfl
  | x :: l, i, 0 => by rw [stR, if_pos (by omega), stR_ge j l (i + 1) _ (by omega)]; rfl
  | x :: l, i, k + 1 => by
    rw [stR, if_neg (by omega), show ((i + (k + 1) : Nat) : Int) = ((i + 1 + k : Nat) : Int) by omega, stR_set j l (i + 1) k]
    rfl
theorem rset_l0 (n : ND) (j : S36) (a : Int) (hl : n.l9.length ≤ 100000) : ∀ (K i : Nat) (acc : List S36), i ≤ n.l9.length → n.l9.length - i < K → acc.length ≤ i → annuletref31_Set.l0 K a acc i n.a0 n.a1 n.a2 n.a3 n.l4 n.l5 n.l6 n.l7 n.l8 n.l9 n.l10 n.a11 n.a12 n.a13 j.f0 j.f1 j.f2 j.f3 j.f4 j.f5 j.f6.f0 j.f6.f1 j.f7.f0 j.f7.f1 j.f8 j.f9 j.f10 j.f11 = some (n.a0, n.a1, n.a2, n.a3, n.l4, n.l5, n.l6, n.l7, n.l8, acc ++ stR j (n.l9.drop i) i a, n.l10, n.a11, n.a12, n.a13)
  | 0, i, acc, hj, hk, _ => by omega
  | K + 1, i, acc, hj, hk, hacc => by
    rw [annuletref31_Set.l0]
    by_cases hlt : i < n.l9.length
    · have hw : wrap64 ((i : Int) + 1) = ((i + 1 : Nat) : Int) := by unfold wrap64; omega
      rw [if_pos (by omega), List.drop_eq_getElem_cons hlt, stR, hw]
      by_cases hc : (i : Int) = a
      · rw [if_pos hc, if_pos hc, if_pos (by omega), rset_l0 n j a hl K (i + 1) _ (by omega) (by omega) (by rw [List.length_append]; show acc.length + 1 ≤ _; omega), List.append_assoc]
        rfl
      · rw [if_neg hc, if_neg hc, if_pos (by omega), if_pos (by omega), rset_l0 n j a hl K (i + 1) _ (by omega) (by omega) (by rw [List.length_append]; show acc.length + 1 ≤ _; omega), List.append_assoc]
        rw [← rd36 n.l9 i hlt]
        rfl
    · have hjl : i = n.l9.length := by omega
      rw [if_neg (by omega), List.drop_eq_nil_of_le (by omega)]
      show _ = some (n.a0, n.a1, n.a2, n.a3, n.l4, n.l5, n.l6, n.l7, n.l8, acc ++ [], n.l10, n.a11, n.a12, n.a13)
      rw [List.append_nil]
theorem rset_f (n : ND) (j : S36) (hl : n.l9.length ≤ 100000) : annuletref31_Set.f (n.l9.length + 1) n.a0 n.a1 n.a2 n.a3 n.l4 n.l5 n.l6 n.l7 n.l8 n.l9 n.l10 n.a11 n.a12 n.a13 j.f0 j.f1 j.f2 j.f3 j.f4 j.f5 j.f6.f0 j.f6.f1 j.f7.f0 j.f7.f1 j.f8 j.f9 j.f10 j.f11 = some ((setN n j).a0, (setN n j).a1, (setN n j).a2, (setN n j).a3, (setN n j).l4, (setN n j).l5, (setN n j).l6, (setN n j).l7, (setN n j).l8, (setN n j).l9, (setN n j).l10, (setN n j).a11, (setN n j).a12, (setN n j).a13) := by
  unfold annuletref31_Set.f
  rw [show annuletref31_Find.f (n.l9.length + 1) n.l9 j.f0 = some (fJob n.l9 j.f0) from rfind_l0 n.l9 j.f0 hl (n.l9.length + 1) 0 (by omega) (by omega) (fun i hi => absurd hi (by omega)), Option.bind_some]
  have h0 := rset_l0 n j (fJob n.l9 j.f0) hl (n.l9.length + 1) 0 [] (by omega) (by omega) (by exact Nat.le_refl 0)
  rw [List.drop_zero, List.nil_append] at h0
  refine h0.trans ?_
  unfold setN
  rcases find_cases n.l9 j.f0 with h | ⟨k, hk, h⟩
  · rw [h, if_neg (by omega), stR_ge j n.l9 0 (-1) (by omega)]
  · have h1 := stR_set j n.l9 0 k
    rw [Nat.zero_add] at h1
    rw [h, if_pos (by omega), h1]
    rfl
set_option maxHeartbeats 2000000 in
theorem rset_ok (n : ND) (s : NA) (j : S36) (w : World) (h : NC w n s) (hl : n.l9.length ≤ 100000) : Calls Try.prog 12 #[nv n s, jv j] w (NodeC (setN n j) w) := by
  refine (annuletref31_Set.calls (n.l9.length + 1) n.a0 n.a1 n.a2 n.a3 (fun _ => True) s.A4 s.c4 n.l4 (fun _ => True) s.A5 s.c5 n.l5 (fun _ => True) s.A6 s.c6 n.l6 (fun _ => True) s.A7 s.c7 n.l7 (fun _ => True) s.A8 s.c8 n.l8 s.A9 s.c9 n.l9 (fun _ => True) s.A10 s.c10 n.l10 n.a11 n.a12 n.a13 j.f0 j.f1 j.f2 j.f3 j.f4 j.f5 j.f6.f0 j.f6.f1 j.f7.f0 j.f7.f1 j.f8 j.f9 j.f10 j.f11 (setN n j).a0 (setN n j).a1 (setN n j).a2 (setN n j).a3 (setN n j).l4 (setN n j).l5 (setN n j).l6 (setN n j).l7 (setN n j).l8 (setN n j).l9 (setN n j).l10 (setN n j).a11 (setN n j).a12 (setN n j).a13 w (vv h71 h.q4 h.r4) (vv h71 h.q5 h.r5) (vv h74 h.q6 h.r6) (vv h68 h.q7 h.r7) (vv h78 h.q8 h.r8) h.r9 h.q9 (vv h51 h.q10 h.r10) (rset_f n j hl)).mono ?_
  rintro e w' ⟨v4, v5, v6, v7, v8, v9, v10, rfl, R4, R5, R6, R7, R8, R9, R10, hB⟩
  obtain ⟨A4, c4, rfl⟩ := Kd.V_slice R4
  obtain ⟨A5, c5, rfl⟩ := Kd.V_slice R5
  obtain ⟨A6, c6, rfl⟩ := Kd.V_slice R6
  obtain ⟨A7, c7, rfl⟩ := Kd.V_slice R7
  obtain ⟨A8, c8, rfl⟩ := Kd.V_slice R8
  obtain ⟨A10, c10, rfl⟩ := Kd.V_slice R10
  obtain ⟨A9, c9, rfl, q9, r9⟩ := Kd.R_reads R9
  exact ⟨⟨A4, A5, A6, A7, A8, A9, A10, c4, c5, c6, c7, c8, c9, c10⟩, rfl, ⟨(Kd.V_reads' R4).2.2, (Kd.V_reads' R4).2.1, (Kd.V_reads' R5).2.2, (Kd.V_reads' R5).2.1, (Kd.V_reads' R6).2.2, (Kd.V_reads' R6).2.1, (Kd.V_reads' R7).2.2, (Kd.V_reads' R7).2.1, (Kd.V_reads' R8).2.2, (Kd.V_reads' R8).2.1, r9, q9, (Kd.V_reads' R10).2.2, (Kd.V_reads' R10).2.1⟩, hB⟩
-- axioms: rset_ok
end
section
open Go Go.Proofs Go.RowKit Go.Lib Go.Proofs.Ytcnkmajengephaa.P Go.Proofs.YtcnkmajengephaaW.PrintWords Go.Proofs.YtcnkmajengephaaW.PrintLast Go.Proofs.YtcnkmajengephaaW.PrintMore
/-- The box, and the jobs' row. -/
def SetS (g : Nat) (C : Array Value) (A : Option Addr) (l : List S36) (V : World) : Prop := V.heap[g]? = some (.cells C 34 (0, 0)) ∧ Kd.C k36 V A l.length l
theorem SetS.go {g : Nat} {C : Array Value} {A : Option Addr} {l : List S36} {V V' : World} (h : SetS g C A l V) (hb : Below V.heap.size V V') : SetS g C A l V' := ⟨(hb.block _ (blk_lt h.1)).trans h.1, Kd.C_below h.2 hb⟩
set_option maxRecDepth 100000 in
set_option maxHeartbeats 16000000 in
theorem rsettle_ok (n : ND) (s : NA) (id : Int) (has : Bool) (val : ByteArray) (er : Int) (w : World) (h : NC w n s) (hl9 : n.l9.length ≤ 100000) (hl10 : n.l10.length ≤ 100000) :
    Calls Try.prog 16 #[nv n s, .int .i64 id, .bool has, .string val, .int .i64 er] w (NodeC (settleN n id has val er) w) := by
  obtain ⟨g, hg⟩ : ∃ g, w.heap.size = g := ⟨_, rfl⟩
  obtain ⟨W, hW⟩ : ∃ W, (w.alloc (.cells #[.int .u64 n.a0, .int .u16 n.a1, .int .i64 n.a2, .bool n.a3, .slice s.A4 n.l4.length s.c4, .slice s.A5 n.l5.length s.c5, .slice s.A6 n.l6.length s.c6, .slice s.A7 n.l7.length s.c7, .slice s.A8 n.l8.length s.c8, .slice s.A9 n.l9.length s.c9, .slice s.A10 n.l10.length s.c10, .int .u32 n.a11, .int .i64 n.a12, .int .i64 n.a13] 34)).alloc (.cells #[.int .u64 0, .int .u16 0, .int .i64 0, .bool false, .slice none 0 0, .slice none 0 0, .slice none 0 0, .slice none 0 0, .slice none 0 0, .slice none 0 0, .slice none 0 0, .int .u32 0, .int .i64 0, .int .i64 0] 34) = W := ⟨_, rfl⟩
  obtain ⟨hbW, hsW, e5, e10⟩ := alloc2 hW
  rw [hg] at hsW e5 e10
  have HN := Aside0.mk h
  have HBW := Aside0.mk hbW
  have HSW := Aside0.mk hsW
  have HE10 := Aside0.mk e10
  have HE5 := Aside0.mk e5
  have HGG := Aside0.mk hg
  have HL := Aside0.mk (And.intro hl9 hl10)
  have HFI := Aside0.mk (rfind_ok s.A9 s.c9 n.l9 id W (h.below hbW).r9 (h.below hbW).q9 hl9)
  clear h hbW hsW e10 hl9 hl10
  have c9 : W.cell? ⟨g, 9, none⟩ = some (.slice s.A9 n.l9.length s.c9) := (blk_cell e5 9).trans rfl
  rcases find_cases n.l9 id with hf | ⟨k, hk, hf⟩
  · have HF := Aside0.mk hf
    rw [show settleN n id has val er = n by unfold settleN; rw [if_pos (by omega)]]
    clear hf
    go_enter Try.func16, Try.ntmps16
    go_wp2_with fail
    have hfi := HFI.out
    rw [HF.out] at hfi
    refine hfi.mono ?_
    rintro e1 w1 ⟨rfl, hb1⟩
    have HB1 := Aside0.mk hb1
    have f5 := (hb1.block g (blk_lt HE5.out)).trans HE5.out
    have f10 := (hb1.block _ (blk_lt HE10.out)).trans HE10.out
    clear hfi hb1 c9 e5 hW
    go_wp2_with (first | (refine gate_ (.load 34 (.tmp 5)) rfl ?_; refine wpList_load_row rfl 34 _ rfl (g) rfl 34 _ (0, 0) _ f5 Try.underlying34 rfl (by kernel_rfl) ?_) | (refine store_box (.store 34 (.tmp 10) (.tmp 18)) 34 _ _ (g + 1) 0 _ #[.int .u64 n.a0, .int .u16 n.a1, .int .i64 n.a2, .bool n.a3, .slice s.A4 n.l4.length s.c4, .slice s.A5 n.l5.length s.c5, .slice s.A6 n.l6.length s.c6, .slice s.A7 n.l7.length s.c7, .slice s.A8 n.l8.length s.c8, .slice s.A9 n.l9.length s.c9, .slice s.A10 n.l10.length s.c10, .int .u32 n.a11, .int .i64 n.a12, .int .i64 n.a13] 34 _ [.int .u64 n.a0, .int .u16 n.a1, .int .i64 n.a2, .bool n.a3, .slice s.A4 n.l4.length s.c4, .slice s.A5 n.l5.length s.c5, .slice s.A6 n.l6.length s.c6, .slice s.A7 n.l7.length s.c7, .slice s.A8 n.l8.length s.c8, .slice s.A9 n.l9.length s.c9, .slice s.A10 n.l10.length s.c10, .int .u32 n.a11, .int .i64 n.a12, .int .i64 n.a13] rfl rfl rfl rfl rfl rfl f10 rfl (by kernel_rfl) (by simp) (by simp [Value.oneCell']) (by simp) ?_; intro w4 e7 hs4; have HS4 := Aside0.mk hs4; obtain ⟨y0, y1, y2, y3, y4, y5, y6, y7, y8, y9, y10, y11, y12, y13, _⟩ := box14f e7; clear hs4 f10))
    refine bodyPost_ret (v := nv n s) ?hres rfl ?_
    case hres =>
      simp only [results, Try.f16]
      go_simp
    have hB := HS4.out.on (B := w.heap.size) (by have := HGG.out; omega) (below_then HBW.out HBW.out.size HB1.out)
    exact ⟨s, rfl, HN.out.below hB, hB⟩
  · have HF := Aside0.mk hf
    have HK := Aside0.mk hk
    obtain ⟨x, hx⟩ : ∃ x, rd_T36 n.l9 (k : Int) = x := ⟨_, rfl⟩
    have HX := Aside0.mk hx
    have hse : settleN n id has val er = { n with l9 := n.l9.eraseIdx k, l10 := toldL n.l10 x has val er } := by
      unfold settleN
      rw [hf, if_neg (by omega), hx]
      rfl
    rw [hse]
    have p0 : (0 ≤ (k : Int)) = True := eq_true (by omega)
    have p1 : ((k : Int) < (n.l9.length : Int)) = True := eq_true (by omega)
    have p2 : ((k : Int) < 0) = False := eq_false (by omega)
    obtain ⟨ad, had, _⟩ := at_T36 HN.out.r9 (k : Int) (Int.natCast_nonneg k) (by show (k : Int) < (n.l9.length : Int); omega)
    have HAD := Aside0.mk had
    clear hf hk hx hse had
    go_enter Try.func16, Try.ntmps16
    go_wp2_with fail
    have hfi := HFI.out
    rw [HF.out] at hfi
    refine hfi.mono ?_
    rintro e1 w1 ⟨rfl, hb1⟩
    have HB1 := Aside0.mk (below_then HBW.out HBW.out.size hb1)
    have f5 := (hb1.block g (blk_lt HE5.out)).trans HE5.out
    have F10 := Aside0.mk ((hb1.block _ (blk_lt HE10.out)).trans HE10.out)
    rw [HAD.out] at f5
    obtain ⟨w2, hw2⟩ : ∃ w2, w1.drew = w2 := ⟨_, rfl⟩
    have HB2 : Aside0 (Below w.heap.size w w2 ∧ w2.heap.size = w1.heap.size ∧ ∀ q : Nat, w2.heap[q]? = w1.heap[q]?) := ⟨by rw [← hw2]; exact ⟨HB1.out.drew, rfl, fun _ => rfl⟩⟩
    have hs0 : SetS g #[.int .u64 n.a0, .int .u16 n.a1, .int .i64 n.a2, .bool n.a3, .slice s.A4 n.l4.length s.c4, .slice s.A5 n.l5.length s.c5, .slice s.A6 n.l6.length s.c6, .slice s.A7 n.l7.length s.c7, .slice s.A8 n.l8.length s.c8, .slice (some ad) n.l9.length s.c9, .slice s.A10 n.l10.length s.c10, .int .u32 n.a11, .int .i64 n.a12, .int .i64 n.a13] (some ad) n.l9 w1.drew := by rw [hw2]; exact ⟨(HB2.out.2.2 _).trans f5, by rw [← HAD.out]; exact (HN.out.below HB2.out.1).r9⟩
    have HV10 : Aside0 (Kd.V k51 51 w2 w2.heap.size (fun q => q ≠ g ∧ q ≠ g + 1) (.slice s.A10 n.l10.length s.c10) n.l10) := ⟨vo h51 HN.out.q10 HN.out.r10 HB2.out.1 (by have := HGG.out; omega)⟩
    have HZ1 : Aside0 (g + 2 ≤ w1.heap.size) := ⟨by have := HSW.out; have := hb1.size; omega⟩
    clear hfi hb1 c9 e5 hW f5
    go_wp2_with fail
    refine start_ (n := 13) (S := SetS g #[.int .u64 n.a0, .int .u16 n.a1, .int .i64 n.a2, .bool n.a3, .slice s.A4 n.l4.length s.c4, .slice s.A5 n.l5.length s.c5, .slice s.A6 n.l6.length s.c6, .slice s.A7 n.l7.length s.c7, .slice s.A8 n.l8.length s.c8, .slice (some ad) n.l9.length s.c9, .slice s.A10 n.l10.length s.c10, .int .u32 n.a11, .int .i64 n.a12, .int .i64 n.a13] (some ad) n.l9) (ds := [12]) #[false, false, false, false, false, false, false, false, false, false, false, false, false] (by kernel_rfl) rfl rfl hs0 (fun hH => ?_)
    rw [hw2] at hH ⊢
    clear hs0 hw2
    refine pure_ (i := 0) (N := some 19) (v := ?_) (a' := ?_) #[true, false, false, false, false, false, false, false, false, false, false, false, false] rfl rfl (by kernel_rfl) (fun _ _ _ h => h) (Or.inl ⟨by rfl, ?_⟩) ?_ ?_
    rotate_left
    · intro w'
      go_simp
      with_reducible rfl
    rotate_left
    · simp only [Act.put, List.setIfInBounds_toArray, List.set_cons_zero, List.set_cons_succ, i64_w, i32_w]
      rfl
    refine take_ (i := 1) (N := some 20) (v := ?_) (a' := ?_) #[true, true, false, false, false, false, false, false, false, false, false, false, false] rfl rfl (by kernel_rfl) (fun _ _ _ h => h) (Or.inl ⟨by rfl, ?_⟩) hH ?_ ?_
    rotate_left
    · rintro w' ⟨s0, s1_⟩
      have c_ : _ = some _ := (blk_cell s0 10).trans rfl
      go_simp
      with_reducible rfl
    rotate_left
    · simp only [Act.put, List.setIfInBounds_toArray, List.set_cons_zero, List.set_cons_succ, i64_w, i32_w]
      rfl
    refine pure_ (i := 2) (N := some 21) (v := ?_) (a' := ?_) #[true, true, true, false, false, false, false, false, false, false, false, false, false] rfl rfl (by kernel_rfl) (fun _ _ _ h => h) (Or.inl ⟨by rfl, ?_⟩) ?_ ?_
    rotate_left
    · intro w'
      go_simp
      with_reducible rfl
    rotate_left
    · simp only [Act.put, List.setIfInBounds_toArray, List.set_cons_zero, List.set_cons_succ, i64_w, i32_w]
      rfl
    refine take_ (i := 3) (N := some 22) (v := ?_) (a' := ?_) #[true, true, true, true, false, false, false, false, false, false, false, false, false] rfl rfl (by kernel_rfl) (fun _ _ _ h => h) (Or.inl ⟨by rfl, ?_⟩) hH ?_ ?_
    rotate_left
    · rintro w' ⟨s0, s1_⟩
      have c_ : _ = some _ := (blk_cell s0 9).trans rfl
      go_simp
      with_reducible rfl
    rotate_left
    · simp only [Act.put, List.setIfInBounds_toArray, List.set_cons_zero, List.set_cons_succ, i64_w, i32_w]
      rfl
    refine pure_ (i := 4) (N := some 23) (v := ?_) (a' := ?_) #[true, true, true, true, true, false, false, false, false, false, false, false, false] rfl rfl (by kernel_rfl) (fun _ _ _ h => h) (Or.inl ⟨by rfl, ?_⟩) ?_ ?_
    rotate_left
    · intro w'
      go_simp
      with_reducible rfl
    rotate_left
    · simp only [Act.put, List.setIfInBounds_toArray, List.set_cons_zero, List.set_cons_succ, i64_w, i32_w]
      rfl
    refine pure_ (i := 5) (N := some 24) (v := ?_) (a' := ?_) #[true, true, true, true, true, true, false, false, false, false, false, false, false] rfl rfl (by kernel_rfl) (fun _ _ _ h => h) (Or.inl ⟨by rfl, ?_⟩) ?_ ?_
    rotate_left
    · intro w'
      go_simp
      with_reducible rfl
    rotate_left
    · simp only [Act.put, List.setIfInBounds_toArray, List.set_cons_zero, List.set_cons_succ, i64_w, i32_w]
      rfl
    refine take_ (i := 6) (N := some 25) (v := ?_) (a' := ?_) #[true, true, true, true, true, true, true, false, false, false, false, false, false] rfl rfl (by kernel_rfl) (fun _ _ _ h => h) (Or.inl ⟨by rfl, ?_⟩) hH ?_ ?_
    rotate_left
    · rintro w' ⟨s0, s1_⟩
      obtain ⟨ad', had', x0, x1, x2, x3, x4, x5, x6, x7, x8, x9, x10, x11, x12, x13⟩ := at_T36 s1_ (k : Int) (Int.natCast_nonneg k) (by show (k : Int) < (n.l9.length : Int); have := HK.out; omega)
      obtain rfl : ad' = ad := (Option.some.inj had').symm
      rw [HX.out] at x0 x1 x2 x3 x4 x5 x6 x7 x8 x9 x10 x11 x12 x13
      simp only [Int.toNat_natCast] at x0 x1 x2 x3 x4 x5 x6 x7 x8 x9 x10 x11 x12 x13
      go_simp
      with_reducible rfl
    rotate_left
    · simp only [Act.put, List.setIfInBounds_toArray, List.set_cons_zero, List.set_cons_succ, i64_w, i32_w]
      rfl
    refine pure_ (i := 7) (N := some 26) (v := ?_) (a' := ?_) #[true, true, true, true, true, true, true, true, false, false, false, false, false] rfl rfl (by kernel_rfl) (fun _ _ _ h => h) (Or.inl ⟨by rfl, ?_⟩) ?_ ?_
    rotate_left
    · intro w'
      go_simp
      with_reducible rfl
    rotate_left
    · simp only [Act.put, List.setIfInBounds_toArray, List.set_cons_zero, List.set_cons_succ, i64_w, i32_w]
      rfl
    refine pure_ (i := 8) (N := some 27) (v := ?_) (a' := ?_) #[true, true, true, true, true, true, true, true, true, false, false, false, false] rfl rfl (by kernel_rfl) (fun _ _ _ h => h) (Or.inl ⟨by rfl, ?_⟩) ?_ ?_
    rotate_left
    · intro w'
      go_simp
      with_reducible rfl
    rotate_left
    · simp only [Act.put, List.setIfInBounds_toArray, List.set_cons_zero, List.set_cons_succ, i64_w, i32_w]
      rfl
    refine pure_ (i := 9) (N := some 28) (v := ?_) (a' := ?_) #[true, true, true, true, true, true, true, true, true, true, false, false, false] rfl rfl (by kernel_rfl) (fun _ _ _ h => h) (Or.inl ⟨by rfl, ?_⟩) ?_ ?_
    rotate_left
    · intro w'
      go_simp
      with_reducible rfl
    rotate_left
    · simp only [Act.put, List.setIfInBounds_toArray, List.set_cons_zero, List.set_cons_succ, i64_w, i32_w]
      rfl
    refine one_ (i := 10) (N := some 29) #[true, true, true, true, true, true, true, true, true, true, true, false, false] rfl rfl (by kernel_rfl) (by decide) (fun K hK => ?_)
    refine goes_ Try.func31 (by kernel_rfl) rfl #[.slice s.A10 n.l10.length s.c10, jv x, .bool has, .string val, .int .i64 er] (by rfl) rfl rfl (by (try simp only [List.map_toArray, List.map_cons, List.map_nil]); first | done | rfl) ?_
    refine (rtell_ok (fun q => q ≠ g ∧ q ≠ g + 1) s.A10 s.c10 n.l10 x has val er w2 HV10.out HL.out.2).mono ?_
    rintro e3 w3 ⟨A1, c1, rfl, V3, hb3⟩
    refine ⟨_, rfl, ?_⟩
    have HV3 := Aside0.mk V3
    have HB3 := Aside0.mk hb3
    have hS_ := SetS.go hH hb3
    clear V3 hb3
    refine hK.out _ _ hS_ (fun hH1 => ?_)
    clear hS_
    clear hK K
    refine norm_ (a' := ?_) ?_ ?_
    rotate_left
    · show Act.put _ (some 29) _ = _
      simp only [Act.put, List.setIfInBounds_toArray, List.set_cons_zero, List.set_cons_succ, i64_w, i32_w]
      rfl
    refine pure_ (i := 11) (N := some 30) (v := ?_) (a' := ?_) #[true, true, true, true, true, true, true, true, true, true, true, true, false] rfl rfl (by kernel_rfl) (fun _ _ _ h => h) (Or.inl ⟨by rfl, ?_⟩) ?_ ?_
    rotate_left
    · intro w'
      go_simp
      with_reducible rfl
    rotate_left
    · simp only [Act.put, List.setIfInBounds_toArray, List.set_cons_zero, List.set_cons_succ, i64_w, i32_w]
      rfl
    refine last_ (i := 12) (N := none) #[true, true, true, true, true, true, true, true, true, true, true, true, true] rfl rfl (by kernel_rfl) (by decide) (fun K hK => ?_)
    obtain ⟨lr, hlr⟩ : ∃ lr, toldL n.l10 x has val er = lr := ⟨_, rfl⟩
    rw [hlr]
    refine store_step 31 _ _ g 10 _ #[.int .u64 n.a0, .int .u16 n.a1, .int .i64 n.a2, .bool n.a3, .slice s.A4 n.l4.length s.c4, .slice s.A5 n.l5.length s.c5, .slice s.A6 n.l6.length s.c6, .slice s.A7 n.l7.length s.c7, .slice s.A8 n.l8.length s.c8, .slice (some ad) n.l9.length s.c9, .slice A1 lr.length c1, .int .u32 n.a11, .int .i64 n.a12, .int .i64 n.a13] 34 (.slice A1 lr.length c1) [.slice A1 lr.length c1] (by rfl) rfl rfl rfl hH1.1 rfl (by kernel_rfl) (by simp) (by simp [Value.oneCell']) (by simp) ?_
    intro w4 e4 hs4
    have HS4 := Aside0.mk hs4
    have HLR := Aside0.mk hlr
    clear hs4 hlr
    refine hK.out _ _ ?_
    clear hK K
    refine norm_ (a' := ?_) ?_ ?_
    rotate_left
    · show Act.put _ (none) _ = _
      simp only [Act.put, List.setIfInBounds_toArray, List.set_cons_zero, List.set_cons_succ, i64_w, i32_w]
      rfl
    refine done_ (by kernel_rfl) ?_
    have hz2 : g + 2 ≤ w2.heap.size := by have := HZ1.out; have := HB2.out.2.1; omega
    have HBW4 : Aside0 (Below w.heap.size w w4) := ⟨HS4.out.on (by have := HGG.out; omega) (below_then HB2.out.1 HB2.out.1.size HB3.out)⟩
    have HV4 : Aside0 (Kd.V k51 51 w4 w4.heap.size (fun q => q ≠ g ∧ q ≠ g + 1) (.slice A1 lr.length c1) lr) := ⟨by
      have h := Kd.V_mono HV3.out (ok' := fun q => q ≠ g ∧ q ≠ g + 1) (fun q hq => by rcases hq with hq | hq; exact hq; exact ⟨by omega, by omega⟩)
      rw [HLR.out] at h
      exact Kd.V_step h (fun q hq hlt => HS4.out.far q hq.1)⟩
    have HC4 : Aside0 (Kd.C k36 w4 (some ad) n.l9.length n.l9) := ⟨by rw [← HAD.out]; exact (HN.out.below HBW4.out).r9⟩
    have F10b := Aside0.mk (HS4.out.blk (by omega) ((HB3.out.block _ (by omega)).trans ((HB2.out.2.2 _).trans F10.out)))
    have E4 := Aside0.mk e4
    have c9 : w4.cell? ⟨g, 9, none⟩ = some (.slice (some ad) n.l9.length s.c9) := (blk_cell e4 9).trans rfl
    clear hH hH1 e4
    go_wp2_with fail
    refine (rwo_ok (some ad) s.c9 n.l9 k w4 HC4.out HN.out.q9 HL.out.1).mono ?_
    rintro e5 w5 ⟨A2, c2, rfl, V5, hb5⟩
    obtain ⟨le, hle⟩ : ∃ le, n.l9.eraseIdx k = le := ⟨_, rfl⟩
    rw [hle] at V5 ⊢
    have HV5 := Aside0.mk V5
    have HB5 := Aside0.mk hb5
    have HLE := Aside0.mk hle
    have f6 := (hb5.block _ (blk_lt E4.out)).trans E4.out
    have F10c := Aside0.mk ((hb5.block _ (blk_lt F10b.out)).trans F10b.out)
    clear V5 hb5 hle c9
    go_wp2_with (first | (refine gate_ (.load 34 (.tmp 5)) rfl ?_; refine wpList_load_row rfl 34 _ rfl (g) rfl 34 _ (0, 0) _ e6 Try.underlying34 rfl (by kernel_rfl) ?_) | (refine store_box (.store 30 (.tmp 35) (.tmp 34)) 30 _ _ (g) 9 _ #[.int .u64 n.a0, .int .u16 n.a1, .int .i64 n.a2, .bool n.a3, .slice s.A4 n.l4.length s.c4, .slice s.A5 n.l5.length s.c5, .slice s.A6 n.l6.length s.c6, .slice s.A7 n.l7.length s.c7, .slice s.A8 n.l8.length s.c8, .slice A2 le.length c2, .slice A1 lr.length c1, .int .u32 n.a11, .int .i64 n.a12, .int .i64 n.a13] 34 (.slice A2 le.length c2) [.slice A2 le.length c2] rfl rfl rfl rfl rfl rfl f6 rfl (by kernel_rfl) (by simp) (by simp [Value.oneCell']) (by simp) ?_; intro w6 e6 hs6; have HS6 := Aside0.mk hs6; have f10c := hs6.blk (by omega) F10c.out; clear hs6 f6) | (refine store_box (.store 34 (.tmp 10) (.tmp 36)) 34 _ _ (g + 1) 0 _ #[.int .u64 n.a0, .int .u16 n.a1, .int .i64 n.a2, .bool n.a3, .slice s.A4 n.l4.length s.c4, .slice s.A5 n.l5.length s.c5, .slice s.A6 n.l6.length s.c6, .slice s.A7 n.l7.length s.c7, .slice s.A8 n.l8.length s.c8, .slice A2 le.length c2, .slice A1 lr.length c1, .int .u32 n.a11, .int .i64 n.a12, .int .i64 n.a13] 34 _ [.int .u64 n.a0, .int .u16 n.a1, .int .i64 n.a2, .bool n.a3, .slice s.A4 n.l4.length s.c4, .slice s.A5 n.l5.length s.c5, .slice s.A6 n.l6.length s.c6, .slice s.A7 n.l7.length s.c7, .slice s.A8 n.l8.length s.c8, .slice A2 le.length c2, .slice A1 lr.length c1, .int .u32 n.a11, .int .i64 n.a12, .int .i64 n.a13] rfl rfl rfl rfl rfl rfl f10c rfl (by kernel_rfl) (by simp) (by simp [Value.oneCell']) (by simp) ?_; intro w7 e7 hs7; have HS7 := Aside0.mk hs7; obtain ⟨y0, y1, y2, y3, y4, y5, y6, y7, y8, y9, y10, y11, y12, y13, _⟩ := box14f e7; clear hs7 f10c e6))
    refine bodyPost_ret (v := .agg #[.int .u64 n.a0, .int .u16 n.a1, .int .i64 n.a2, .bool n.a3, .slice s.A4 n.l4.length s.c4, .slice s.A5 n.l5.length s.c5, .slice s.A6 n.l6.length s.c6, .slice s.A7 n.l7.length s.c7, .slice s.A8 n.l8.length s.c8, .slice A2 le.length c2, .slice A1 lr.length c1, .int .u32 n.a11, .int .i64 n.a12, .int .i64 n.a13]) ?hres rfl ?_
    case hres =>
      simp only [results, Try.f16]
      go_simp
    have hB5 := below_then HBW4.out HBW4.out.size HB5.out
    have hB6 := HS6.out.on (B := w.heap.size) (by have := HGG.out; omega) hB5
    have hB7 := HS7.out.on (B := w.heap.size) (by have := HGG.out; omega) hB6
    have hn := HN.out.below hB7
    have hz4 : g + 2 ≤ w4.heap.size := by have := HS4.out.size; have := HB3.out.size; omega
    have v9 := Kd.V_step (Kd.V_step HV5.out (fun q hq hlt => HS6.out.far q (by omega))) (fun q hq hlt => HS7.out.far q (by omega))
    have v10 := Kd.V_step (Kd.V_step (Kd.V_below HV4.out HB5.out) (fun q hq hlt => HS6.out.far q hq.1)) (fun q hq hlt => HS7.out.far q hq.2)
    refine ⟨{ s with A9 := A2, c9 := c2, A10 := A1, c10 := c1 }, by rw [HLE.out, HLR.out], ?_, hB7⟩
    rw [HLE.out, HLR.out]
    exact ⟨hn.r4, hn.q4, hn.r5, hn.q5, hn.r6, hn.q6, hn.r7, hn.q7, hn.r8, hn.q8, (Kd.V_reads' v9).2.2, (Kd.V_reads' v9).2.1, (Kd.V_reads' v10).2.2, (Kd.V_reads' v10).2.1⟩
-- axioms: rsettle_ok
end
section
open Go Go.Proofs Go.RowKit Go.Lib Go.Proofs.Ytcnkmajengephaa.P Go.Proofs.YtcnkmajengephaaW.PrintWords Go.Proofs.YtcnkmajengephaaW.PrintLast Go.Proofs.YtcnkmajengephaaW.PrintMore
theorem h36 : Kd.Heap k36 := ⟨fun _ h => h⟩
/-- The jobs left behind k looks. -/
def curK (n : ND) (k : Nat) : List S36 := restK n k ++ n.l9.drop k
theorem cur_cons (n : ND) (k : Nat) (h : k < n.l9.length) : curK n k = restK n k ++ rd_T36 n.l9 (k : Int) :: n.l9.drop (k + 1) := by
  unfold curK
  rw [List.drop_eq_getElem_cons h, rd36 n.l9 k h]
theorem cur_at (n : ND) (k : Nat) (h : k < n.l9.length) : rd_T36 (curK n k) (((restK n k).length : Nat) : Int) = rd_T36 n.l9 (k : Int) ∧ (restK n k).length < (curK n k).length := by
  have hl : (restK n k).length < (curK n k).length := by rw [cur_cons n k h, List.length_append, List.length_cons]; omega
  refine ⟨?_, hl⟩
  rw [rd36 _ _ hl]
  simp only [cur_cons n k h]
  rw [List.getElem_append_right (Nat.le_refl _)]
  simp
theorem cur_keep (n : ND) (k : Nat) (h : k < n.l9.length) (hk : keepJ n.a2 (rd_T36 n.l9 k) = true) : curK n (k + 1) = curK n k ∧ (restK n (k + 1)).length = (restK n k).length + 1 := by
  have h1 := restK_succ n k h
  rw [if_pos hk] at h1
  refine ⟨?_, by rw [h1, List.length_append]; rfl⟩
  rw [cur_cons n k h]
  unfold curK
  rw [h1, List.append_assoc]
  rfl
theorem cur_drop (n : ND) (k : Nat) (h : k < n.l9.length) (hk : keepJ n.a2 (rd_T36 n.l9 k) = false) : (curK n k).eraseIdx (restK n k).length = curK n (k + 1) ∧ restK n (k + 1) = restK n k := by
  have h1 := restK_succ n k h
  rw [if_neg (by simp [hk]), List.append_nil] at h1
  refine ⟨?_, h1⟩
  rw [cur_cons n k h, List.eraseIdx_append_of_length_le (Nat.le_refl _)]
  unfold curK
  rw [h1, Nat.sub_self]
  rfl
theorem cur_le (n : ND) (k : Nat) : (curK n k).length ≤ n.l9.length := by
  unfold curK restK
  rw [List.length_append, List.length_drop]
  have h1 : ((n.l9.take k).filter (keepJ n.a2)).length ≤ (n.l9.take k).length := List.length_filter_le _ _
  rw [List.length_take] at h1
  omega
theorem cur_end (n : ND) : restK n n.l9.length = n.l9.filter (keepJ n.a2) ∧ curK n n.l9.length = n.l9.filter (keepJ n.a2) := by
  have h1 : restK n n.l9.length = n.l9.filter (keepJ n.a2) := by unfold restK; rw [List.take_length]
  refine ⟨h1, ?_⟩
  unfold curK
  rw [h1, List.drop_length, List.append_nil]
/-- The loop's state. -/
structure LateR (w : World) (g : Nat) (n : ND) (s : NA) (k : Nat) (A9 : Option Addr) (c9 : Nat) (A10 : Option Addr) (c10 : Nat) (V : World) : Prop where
  bel : Below w.heap.size w V
  box : V.heap[g]? = some (.cells #[.int .u64 n.a0, .int .u16 n.a1, .int .i64 n.a2, .bool n.a3, .slice s.A4 n.l4.length s.c4, .slice s.A5 n.l5.length s.c5, .slice s.A6 n.l6.length s.c6, .slice s.A7 n.l7.length s.c7, .slice s.A8 n.l8.length s.c8, .slice A9 (curK n k).length c9, .slice A10 (resK n k).length c10, .int .u32 n.a11, .int .i64 n.a12, .int .i64 n.a13] 34 (0, 0))
  res : V.heap[g + 1]? = some (.cells #[.int .u64 0, .int .u16 0, .int .i64 0, .bool false, .slice none 0 0, .slice none 0 0, .slice none 0 0, .slice none 0 0, .slice none 0 0, .slice none 0 0, .slice none 0 0, .int .u32 0, .int .i64 0, .int .i64 0] 34 (0, 0))
  v9 : Kd.V k36 36 V 0 (fun q => q ≠ g ∧ q ≠ g + 1) (.slice A9 (curK n k).length c9) (curK n k)
  v10 : Kd.V k51 51 V 0 (fun q => q ≠ g ∧ q ≠ g + 1) (.slice A10 (resK n k).length c10) (resK n k)
  lo : w.heap.size ≤ g
theorem LateR.below {w : World} {g : Nat} {n : ND} {s : NA} {k : Nat} {A9 : Option Addr} {c9 : Nat} {A10 : Option Addr} {c10 : Nat} {V V' : World} (h : LateR w g n s k A9 c9 A10 c10 V) (hb : Below V.heap.size V V') : LateR w g n s k A9 c9 A10 c10 V' :=
  ⟨below_then h.bel h.bel.size hb, (hb.block _ (blk_lt h.box)).trans h.box, (hb.block _ (blk_lt h.res)).trans h.res, Kd.V_below h.v9 hb, Kd.V_below h.v10 hb, h.lo⟩
theorem LateR.next {w : World} {g : Nat} {n : ND} {s : NA} {k : Nat} {A9 : Option Addr} {c9 : Nat} {A10 : Option Addr} {c10 : Nat} {V : World} (h : LateR w g n s k A9 c9 A10 c10 V) (h1 : curK n (k + 1) = curK n k) (h2 : resK n (k + 1) = resK n k) : LateR w g n s (k + 1) A9 c9 A10 c10 V :=
  ⟨h.bel, by rw [h1, h2]; exact h.box, h.res, by rw [h1]; exact h.v9, by rw [h2]; exact h.v10, h.lo⟩
set_option maxRecDepth 100000 in
set_option maxHeartbeats 16000000 in
theorem rlate_ok (n : ND) (s : NA) (w : World) (h : NC w n s) (hl9 : n.l9.length ≤ 100000) (hl10 : n.l10.length ≤ 100000) :
    Calls Try.prog 14 #[nv n s] w (NodeC (lateN n) w) := by
  obtain ⟨g, hg⟩ : ∃ g, w.heap.size = g := ⟨_, rfl⟩
  obtain ⟨W, hW⟩ : ∃ W, (w.alloc (.cells #[.int .u64 n.a0, .int .u16 n.a1, .int .i64 n.a2, .bool n.a3, .slice s.A4 n.l4.length s.c4, .slice s.A5 n.l5.length s.c5, .slice s.A6 n.l6.length s.c6, .slice s.A7 n.l7.length s.c7, .slice s.A8 n.l8.length s.c8, .slice s.A9 n.l9.length s.c9, .slice s.A10 n.l10.length s.c10, .int .u32 n.a11, .int .i64 n.a12, .int .i64 n.a13] 34)).alloc (.cells #[.int .u64 0, .int .u16 0, .int .i64 0, .bool false, .slice none 0 0, .slice none 0 0, .slice none 0 0, .slice none 0 0, .slice none 0 0, .slice none 0 0, .slice none 0 0, .int .u32 0, .int .i64 0, .int .i64 0] 34) = W := ⟨_, rfl⟩
  obtain ⟨hbW, hsW, e5, e10⟩ := alloc2 hW
  rw [hg] at hsW e5 e10
  have HN := Aside0.mk h
  have HSW := Aside0.mk hsW
  have HGG := Aside0.mk hg
  have HL := Aside0.mk (And.intro hl9 hl10)
  have HI0 : Aside0 (LateR w g n s 0 s.A9 s.c9 s.A10 s.c10 W) := ⟨⟨hbW, e5, e10, vo h36 h.q9 h.r9 hbW (by omega), vo h51 h.q10 h.r10 hbW (by omega), by omega⟩⟩
  clear h hbW hsW e5 e10 hl9 hl10
  go_enter Try.func14, Try.ntmps14
  go_wp2_with fail
  go_loopg [3] n.l9.length (fun gg s3 wr => ∃ (k : Nat) (A9 : Option Addr) (c9 : Nat) (A10 : Option Addr) (c10 : Nat), k ≤ n.l9.length ∧ n.l9.length - k ≤ gg ∧ s3 = .int .i64 (((restK n k).length : Nat) : Int) ∧ Aside0 (LateR w g n s k A9 c9 A10 c10 wr))
  case atStart => exact ⟨0, s.A9, s.c9, s.A10, s.c10, by omega, by omega, rfl, HI0⟩
  case round =>
    clear hW
    obtain ⟨k, A9, c9, A10, c10, hk, hgg, rfl, HI⟩ := hrel
    by_cases hlt : k < n.l9.length
    · have HLT := Aside0.mk hlt
      have hca := cur_at n k hlt
      obtain ⟨x, hx⟩ : ∃ x, rd_T36 n.l9 (k : Int) = x := ⟨_, rfl⟩
      obtain ⟨a, ha⟩ : ∃ a, (restK n k).length = a := ⟨_, rfl⟩
      have hcl := cur_le n k
      obtain ⟨ad, rfl, x0, x1, x2, x3, x4, x5, x6, x7, x8, x9, x10, x11, x12, x13⟩ := at_T36 (Kd.V_reads' HI.out.v9).2.2 (((restK n k).length : Nat) : Int) (Int.natCast_nonneg _) (by show (((restK n k).length : Nat) : Int) < (((curK n k).length : Nat) : Int); have := hca.2; omega)
      rw [hca.1, hx] at x0 x1 x2 x3 x4 x5 x6 x7 x8 x9 x10 x11 x12 x13
      simp only [Int.toNat_natCast] at x0 x1 x2 x3 x4 x5 x6 x7 x8 x9 x10 x11 x12 x13
      rw [ha] at x0 x1 x2 x3 x4 x5 x6 x7 x8 x9 x10 x11 x12 x13 ⊢
      have hal : a < (curK n k).length := by rw [← ha]; exact hca.2
      have p0 : (0 ≤ (a : Int)) = True := eq_true (by omega)
      have p1 : ((a : Int) < ((curK n k).length : Int)) = True := eq_true (by omega)
      have HHA := Aside0.mk ha
      have HX := Aside0.mk hx
      have HCL := Aside0.mk hcl
      have HAL := Aside0.mk hal
      have hz := heap_alloc_new wr (.cells #[.int .i64 0, .int .i64 0, .int .i64 0, .string ⟨#[]⟩, .string ⟨#[]⟩, .int .u64 0, .int .u64 0, .int .u16 0, .int .u64 0, .int .u16 0, .bool false, .int .i64 0, .int .i64 0, .int .i64 0] 36)
      have t9 : wr.cell? ⟨g, 9, none⟩ = some (.slice (some ad) (curK n k).length c9) := (blk_cell HI.out.box 9).trans rfl
      clear ha hx hca hcl hal
      go_wp2_with ((refine store_box (.store 36 (.tmp 4) (.tmp 14)) 36 _ _ (wr.heap.size) 0 _ #[.int .i64 x.f0, .int .i64 x.f1, .int .i64 x.f2, .string x.f3, .string x.f4, .int .u64 x.f5, .int .u64 x.f6.f0, .int .u16 x.f6.f1, .int .u64 x.f7.f0, .int .u16 x.f7.f1, .bool x.f8, .int .i64 x.f9, .int .i64 x.f10, .int .i64 x.f11] 36 _ [.int .i64 x.f0, .int .i64 x.f1, .int .i64 x.f2, .string x.f3, .string x.f4, .int .u64 x.f5, .int .u64 x.f6.f0, .int .u16 x.f6.f1, .int .u64 x.f7.f0, .int .u16 x.f7.f1, .bool x.f8, .int .i64 x.f9, .int .i64 x.f10, .int .i64 x.f11] rfl rfl rfl rfl rfl rfl hz rfl (by kernel_rfl) (by simp) (by simp [Value.oneCell']) (by simp) ?_; intro w3 e12 hs3; have HS3 := Aside0.mk hs3; clear hs3 hz; refine hold_ ?_))
      intro _
      have HB3 := Aside0.mk (sto_new HS3.out)
      have HI3 := Aside0.mk (HI.out.below HB3.out)
      have E12 := Aside0.mk e12
      clear x0 x1 x2 x3 x4 x5 x6 x7 x8 x9 x10 x11 x12 x13 t9
      have t1 : w3.cell? ⟨wr.heap.size, 1, none⟩ = some (.int .i64 x.f1) := (blk_cell e12 1).trans rfl
      have t11 : w3.cell? ⟨wr.heap.size, 13, none⟩ = some (.int .i64 x.f11) := (blk_cell e12 13).trans rfl
      have t2 : w3.cell? ⟨g, 2, none⟩ = some (.int .i64 n.a2) := (blk_cell HI3.out.box 2).trans rfl
      have hkc : (keepJ n.a2 x = true ∧ (((x.f1 == 1) = true ∧ (x.f1 != 1) = false) ∨ ((x.f1 == 1) = false ∧ (x.f1 != 1) = true ∧ (x.f11 < n.a2) = False))) ∨ (keepJ n.a2 x = false ∧ (x.f1 == 1) = false ∧ (x.f1 != 1) = true ∧ (x.f11 < n.a2) = True) := by
        unfold keepJ
        by_cases h1 : x.f1 = 1
        · exact .inl ⟨by simp [h1], .inl ⟨by simp [h1], by simp [h1]⟩⟩
        · by_cases h2 : n.a2 ≤ x.f11
          · exact .inl ⟨by simp [h2], .inr ⟨by simp [h1], by simp [h1], eq_false (by omega)⟩⟩
          · exact .inr ⟨by simp [h1, h2], by simp [h1], by simp [h1], eq_true (by omega)⟩
      have HK1 : Aside0 (wrap64 ((a : Int) + 1) = ((a + 1 : Nat) : Int)) := ⟨by have := HL.out.1; have := HCL.out; have := HAL.out; unfold wrap64; omega⟩
      rcases hkc with ⟨hkp, hcc⟩ | ⟨hkp, h1, h1', h2⟩
      · have hck := cur_keep n k HLT.out (by rw [HX.out]; exact hkp)
        have hres : resK n (k + 1) = resK n k := by rw [resK_succ n k HLT.out, HX.out]; unfold resStep; rw [if_pos hkp]
        have HRS := Aside0.mk (And.intro hck hres)
        clear hck hres hkp
        rcases hcc with ⟨h1, h1'⟩ | ⟨h1, h1', h2⟩
        all_goals
          go_wp2_with fail
          go_roundg (n.l9.length - (k + 1))
          case measure => have := HLT.out; omega
          case rel => exact ⟨k + 1, some ad, c9, A10, c10, HLT.out, Nat.le_refl _, by rw [HK1.out, HRS.out.1.2, HHA.out], ⟨HI3.out.next HRS.out.1.1 HRS.out.2⟩⟩
      · have hck := cur_drop n k HLT.out (by rw [HX.out]; exact hkp)
        have hres : toldL (resK n k) x false ⟨#[]⟩ 18 = resK n (k + 1) := by rw [resK_succ n k HLT.out, HX.out]; unfold resStep; rw [if_neg (by simp [hkp])]
        rw [HHA.out] at hck
        have HRS := Aside0.mk (And.intro hck hres)
        have HRT := Aside0.mk (rtell_ok (fun q => q ≠ g ∧ q ≠ g + 1) A10 c10 (resK n k) x false ⟨#[]⟩ 18 w3 HI3.out.v10 (resAll_len n.a2 100000 (by omega) (n.l9.take k) n.l10 HL.out.2))
        have t10 : w3.cell? ⟨g, 10, none⟩ = some (.slice A10 (resK n k).length c10) := (blk_cell HI3.out.box 10).trans rfl
        clear hck hres hkp
        go_wp2_with (refine gate_ (.load 36 (.tmp 4)) rfl ?_; refine wpList_load_row rfl 36 _ rfl (wr.heap.size) rfl 36 _ (0, 0) _ e12 Try.underlying36 rfl (by kernel_rfl) ?_)
        refine HRT.out.mono ?_
        rintro e4 w4 ⟨A1, c1, rfl, V4, hb4⟩
        have HI4 := Aside0.mk (HI3.out.below hb4)
        obtain ⟨lr, hlr⟩ : ∃ lr, (toldL (resK n k) x false ⟨#[]⟩ 18).length = lr := ⟨_, rfl⟩
        rw [hlr] at V4 ⊢
        have HLR := Aside0.mk hlr
        have HV4 : Aside0 (Kd.V k51 51 w4 0 (fun q => q ≠ g ∧ q ≠ g + 1) (.slice A1 lr c1) (toldL (resK n k) x false ⟨#[]⟩ 18)) := ⟨by
          have hgs : g + 1 < w3.heap.size := blk_lt HI3.out.res
          exact Kd.V_mono V4 (fun q hq => by rcases hq with hq | hq; exact hq; exact ⟨by omega, by omega⟩)⟩
        have f4 := HI4.out.box
        clear V4 hb4 hlr t1 t2 t11 t10 e12
        go_wp2_with ((refine store_box (.store 31 (.tmp 29) (.tmp 28)) 31 _ _ (g) 10 _ #[.int .u64 n.a0, .int .u16 n.a1, .int .i64 n.a2, .bool n.a3, .slice s.A4 n.l4.length s.c4, .slice s.A5 n.l5.length s.c5, .slice s.A6 n.l6.length s.c6, .slice s.A7 n.l7.length s.c7, .slice s.A8 n.l8.length s.c8, .slice (some ad) (curK n k).length c9, .slice A1 lr c1, .int .u32 n.a11, .int .i64 n.a12, .int .i64 n.a13] 34 (.slice A1 lr c1) [.slice A1 lr c1] rfl rfl rfl rfl rfl rfl f4 rfl (by kernel_rfl) (by simp) (by simp [Value.oneCell']) (by simp) ?_; intro w5 e5 hs5; have HS5 := Aside0.mk hs5; clear hs5 f4; refine hold_ ?_))
        intro _
        have E5 := Aside0.mk e5
        have t9 : w5.cell? ⟨g, 9, none⟩ = some (.slice (some ad) (curK n k).length c9) := (blk_cell e5 9).trans rfl
        have HV9 : Aside0 (Kd.V k36 36 w5 0 (fun q => q ≠ g ∧ q ≠ g + 1) (.slice (some ad) (curK n k).length c9) (curK n k)) := ⟨Kd.V_step HI4.out.v9 (fun q hq hlt => HS5.out.far q hq.1)⟩
        clear e5
        go_wp2_with fail
        refine (rwo_ok (some ad) c9 (curK n k) a w5 (Kd.V_reads' HV9.out).2.2 (Kd.V_reads' HV9.out).2.1 (by have := HCL.out; have := HL.out.1; omega)).mono ?_
        rintro e6 w6 ⟨A2, c2, rfl, V6, hb6⟩
        rw [HRS.out.1.1] at V6 ⊢
        obtain ⟨le, hle⟩ : ∃ le, (curK n (k + 1)).length = le := ⟨_, rfl⟩
        rw [hle] at V6 ⊢
        have HV6 := Aside0.mk V6
        have HB6 := Aside0.mk hb6
        have HLE := Aside0.mk hle
        have f6 := (hb6.block _ (blk_lt E5.out)).trans E5.out
        clear V6 hb6 hle t9
        go_wp2_with ((refine store_box (.store 30 (.tmp 34) (.tmp 33)) 30 _ _ (g) 9 _ #[.int .u64 n.a0, .int .u16 n.a1, .int .i64 n.a2, .bool n.a3, .slice s.A4 n.l4.length s.c4, .slice s.A5 n.l5.length s.c5, .slice s.A6 n.l6.length s.c6, .slice s.A7 n.l7.length s.c7, .slice s.A8 n.l8.length s.c8, .slice A2 le c2, .slice A1 lr c1, .int .u32 n.a11, .int .i64 n.a12, .int .i64 n.a13] 34 (.slice A2 le c2) [.slice A2 le c2] rfl rfl rfl rfl rfl rfl f6 rfl (by kernel_rfl) (by simp) (by simp [Value.oneCell']) (by simp) ?_; intro w7 e7 hs7; have HS7 := Aside0.mk hs7; clear hs7 f6; refine hold_ ?_))
        intro _
        have HI7 : Aside0 (LateR w g n s (k + 1) A2 c2 A1 c1 w7) := ⟨by
          have hlo := HI4.out.lo
          have hb5 := HS5.out.on (B := w.heap.size) hlo HI4.out.bel
          have hb6 := below_then hb5 hb5.size HB6.out
          have hb7 := HS7.out.on (B := w.heap.size) hlo hb6
          have r5 := HS5.out.blk (by omega) HI4.out.res
          have r6 := (HB6.out.block _ (blk_lt r5)).trans r5
          have hgs : g + 1 < w5.heap.size := blk_lt r5
          have v10 := Kd.V_step (Kd.V_below (Kd.V_step HV4.out (fun q hq hlt => HS5.out.far q hq.1)) HB6.out) (fun q hq hlt => HS7.out.far q hq.1)
          rw [HRS.out.2] at v10
          refine ⟨hb7, ?_, HS7.out.blk (by omega) r6, ?_, ?_, hlo⟩
          · rw [← HRS.out.2, HLE.out, HLR.out]; exact e7
          · rw [HLE.out]
            exact Kd.V_mono (Kd.V_step HV6.out (fun q hq hlt => HS7.out.far q (by omega))) (fun q hq => ⟨by omega, by omega⟩)
          · rw [← HRS.out.2, HLR.out]; rw [HRS.out.2]; exact v10⟩
        clear e7
        go_wp2_with fail
        go_roundg (n.l9.length - (k + 1))
        case measure => have := HLT.out; omega
        case rel => exact ⟨k + 1, A2, c2, A1, c1, HLT.out, Nat.le_refl _, by rw [HRS.out.1.2, HHA.out], HI7⟩
    · obtain rfl : k = n.l9.length := by omega
      obtain ⟨lc, hlc⟩ : ∃ lc, (curK n n.l9.length).length = lc := ⟨_, rfl⟩
      obtain ⟨lr, hlr⟩ : ∃ lr, (resK n n.l9.length).length = lr := ⟨_, rfl⟩
      have hrl : (restK n n.l9.length).length = lc := by rw [← hlc, (cur_end n).1, (cur_end n).2]
      have p1 : ((lc : Int) < (lc : Int)) = False := eq_false (by omega)
      have e5 := HI.out.box
      have f10 := HI.out.res
      rw [hlc, hlr] at e5
      rw [hrl]
      have t9 : wr.cell? ⟨g, 9, none⟩ = some (.slice A9 lc c9) := (blk_cell e5 9).trans rfl
      have HLC := Aside0.mk (And.intro hlc hlr)
      clear hlc hlr hrl
      go_wp2_with (first | (refine gate_ (.load 34 (.tmp 1)) rfl ?_; refine wpList_load_row rfl 34 _ rfl (g) rfl 34 _ (0, 0) _ e5 Try.underlying34 rfl (by kernel_rfl) ?_) | (refine store_box (.store 34 (.tmp 2) (.tmp 37)) 34 _ _ (g + 1) 0 _ #[.int .u64 n.a0, .int .u16 n.a1, .int .i64 n.a2, .bool n.a3, .slice s.A4 n.l4.length s.c4, .slice s.A5 n.l5.length s.c5, .slice s.A6 n.l6.length s.c6, .slice s.A7 n.l7.length s.c7, .slice s.A8 n.l8.length s.c8, .slice A9 lc c9, .slice A10 lr c10, .int .u32 n.a11, .int .i64 n.a12, .int .i64 n.a13] 34 _ [.int .u64 n.a0, .int .u16 n.a1, .int .i64 n.a2, .bool n.a3, .slice s.A4 n.l4.length s.c4, .slice s.A5 n.l5.length s.c5, .slice s.A6 n.l6.length s.c6, .slice s.A7 n.l7.length s.c7, .slice s.A8 n.l8.length s.c8, .slice A9 lc c9, .slice A10 lr c10, .int .u32 n.a11, .int .i64 n.a12, .int .i64 n.a13] rfl rfl rfl rfl rfl rfl f10 rfl (by kernel_rfl) (by simp) (by simp [Value.oneCell']) (by simp) ?_; intro w4 e7 hs4; have HS4 := Aside0.mk hs4; obtain ⟨y0, y1, y2, y3, y4, y5, y6, y7, y8, y9, y10, y11, y12, y13, _⟩ := box14f e7; clear hs4 f10))
      refine bodyPost_ret (v := .agg #[.int .u64 n.a0, .int .u16 n.a1, .int .i64 n.a2, .bool n.a3, .slice s.A4 n.l4.length s.c4, .slice s.A5 n.l5.length s.c5, .slice s.A6 n.l6.length s.c6, .slice s.A7 n.l7.length s.c7, .slice s.A8 n.l8.length s.c8, .slice A9 lc c9, .slice A10 lr c10, .int .u32 n.a11, .int .i64 n.a12, .int .i64 n.a13]) ?hres rfl ?_
      case hres =>
        simp only [results, Try.f14]
        go_simp
      have he : lateN n = { n with l9 := curK n n.l9.length, l10 := resK n n.l9.length } := by
        unfold lateN
        rw [(cur_end n).2]
        unfold resK
        rw [List.take_length]
      have hB := HS4.out.on (B := w.heap.size) (by have := HI.out.lo; omega) HI.out.bel
      have hn := HN.out.below hB
      have v9 := Kd.V_step HI.out.v9 (fun q hq hlt => HS4.out.far q hq.2)
      have v10 := Kd.V_step HI.out.v10 (fun q hq hlt => HS4.out.far q hq.2)
      rw [he]
      refine ⟨{ s with A9 := A9, c9 := c9, A10 := A10, c10 := c10 }, by rw [← HLC.out.1, ← HLC.out.2], ⟨hn.r4, hn.q4, hn.r5, hn.q5, hn.r6, hn.q6, hn.r7, hn.q7, hn.r8, hn.q8, (Kd.V_reads' v9).2.2, (Kd.V_reads' v9).2.1, (Kd.V_reads' v10).2.2, (Kd.V_reads' v10).2.1⟩, hB⟩
-- axioms: rlate_ok
end
section
open Go Go.Proofs Go.RowKit Go.Lib Go.Proofs.Ytcnkmajengephaa.P Go.Proofs.YtcnkmajengephaaW.PrintWords Go.Proofs.YtcnkmajengephaaW.PrintLast Go.Proofs.YtcnkmajengephaaW.PrintMore
theorem NC.below' {V V' : World} {n : ND} {s : NA} (h : NC V n s) (hb : Below V.heap.size V V') : NC V' n s := h.below hb
theorem nl_add {n : ND} (h : NL n) (j : S36) : NL (addN n j) := by
  unfold addN
  split
  · exact h
  · refine ⟨h.m4, h.m5, h.m6, h.m7, h.m8, ?_, h.m10⟩
    show (n.l9 ++ [addJ n j]).length ≤ 1000
    rw [List.length_append]
    show n.l9.length + 1 ≤ 1000
    omega
theorem nl_set {n : ND} (h : NL n) (j : S36) : NL (setN n j) := by
  unfold setN
  split
  · refine ⟨h.m4, h.m5, h.m6, h.m7, h.m8, ?_, h.m10⟩
    show (n.l9.set _ j).length ≤ 1000
    rw [List.length_set]
    exact h.m9
  · exact h
theorem nl_late {n : ND} (h : NL n) : NL (lateN n) :=
  ⟨h.m4, h.m5, h.m6, h.m7, h.m8, Nat.le_trans (List.length_filter_le _ _) h.m9, resAll_len n.a2 1000 (by omega) n.l9 n.l10 h.m10⟩
theorem nl_settle {n : ND} (h : NL n) (id : Int) (has : Bool) (val : ByteArray) (er : Int) : NL (settleN n id has val er) := by
  unfold settleN
  split
  · exact h
  · refine ⟨h.m4, h.m5, h.m6, h.m7, h.m8, ?_, ?_⟩
    · show (n.l9.eraseIdx _).length ≤ 1000
      have := List.length_eraseIdx_le n.l9 (fJob n.l9 id).toNat
      have := h.m9
      omega
    · show (toldR _ _ has val er).length ≤ 1000
      unfold toldR
      split
      · unfold last16; rw [List.length_drop]; omega
      · exact h.m10
def MovS (g ga gb : Nat) (N J A B : Array Value) (V : World) : Prop := V.heap[g]? = some (.cells N 34 (0, 0)) ∧ V.heap[g + 1]? = some (.cells J 36 (0, 0)) ∧ V.heap[ga]? = some (.cells A 34 (0, 0)) ∧ V.heap[gb]? = some (.cells B 34 (0, 0))
theorem MovS.go {g ga gb : Nat} {N J A B : Array Value} {V V' : World} (h : MovS g ga gb N J A B V) (hb : Below V.heap.size V V') : MovS g ga gb N J A B V' :=
  ⟨(hb.block _ (blk_lt h.1)).trans h.1, (hb.block _ (blk_lt h.2.1)).trans h.2.1, (hb.block _ (blk_lt h.2.2.1)).trans h.2.2.1, (hb.block _ (blk_lt h.2.2.2)).trans h.2.2.2⟩
set_option maxRecDepth 100000 in
set_option maxHeartbeats 16000000 in
theorem moves_calls (n : ND) (s : NA) (j : S36) (has : Bool) (val : ByteArray) (er : Int) (w : World) (h : NC w n s) (hb : NB n) :
    Calls Try.prog 3 #[nv n s, jv j, .bool has, .string val, .int .i64 er] w fun e w' => e = .returned (.bool true) ∧ Below w.heap.size w w' := by
  obtain ⟨lg, HLG, hlb⟩ := large_ok n s
  have HLG := Aside0.mk HLG
  obtain ⟨g, hg⟩ : ∃ g, w.heap.size = g := ⟨_, rfl⟩
  obtain ⟨W, hW⟩ : ∃ W, (w.alloc (.cells #[.int .u64 n.a0, .int .u16 n.a1, .int .i64 n.a2, .bool n.a3, .slice s.A4 n.l4.length s.c4, .slice s.A5 n.l5.length s.c5, .slice s.A6 n.l6.length s.c6, .slice s.A7 n.l7.length s.c7, .slice s.A8 n.l8.length s.c8, .slice s.A9 n.l9.length s.c9, .slice s.A10 n.l10.length s.c10, .int .u32 n.a11, .int .i64 n.a12, .int .i64 n.a13] 34)).alloc (.cells #[.int .i64 j.f0, .int .i64 j.f1, .int .i64 j.f2, .string j.f3, .string j.f4, .int .u64 j.f5, .int .u64 j.f6.f0, .int .u16 j.f6.f1, .int .u64 j.f7.f0, .int .u16 j.f7.f1, .bool j.f8, .int .i64 j.f9, .int .i64 j.f10, .int .i64 j.f11] 36) = W := ⟨_, rfl⟩
  obtain ⟨hbW, hsW, e5, e6⟩ := alloc2 hW
  rw [hg] at hsW e5 e6
  have HN := Aside0.mk h
  have HNB := Aside0.mk hb
  have HBW := Aside0.mk hbW
  have HGG := Aside0.mk hg
  have HSW := Aside0.mk hsW
  have HE := Aside0.mk (And.intro e5 e6)
  clear h hb hbW hsW e6
  have hcs : lg = true ∨ (lg = false ∧ ((300 : Int) < (j.f3.size : Int)) = True) ∨ (lg = false ∧ ((300 : Int) < (j.f3.size : Int)) = False ∧ ((700 : Int) < (j.f4.size : Int)) = True) ∨ (lg = false ∧ ((300 : Int) < (j.f3.size : Int)) = False ∧ ((700 : Int) < (j.f4.size : Int)) = False ∧ ((700 : Int) < (val.size : Int)) = True) ∨ (lg = false ∧ ((300 : Int) < (j.f3.size : Int)) = False ∧ ((700 : Int) < (j.f4.size : Int)) = False ∧ ((700 : Int) < (val.size : Int)) = False) := by
    cases lg
    · refine .inr ?_
      by_cases h1 : (300 : Int) < (j.f3.size : Int)
      · exact .inl ⟨rfl, eq_true h1⟩
      refine .inr ?_
      by_cases h2 : (700 : Int) < (j.f4.size : Int)
      · exact .inl ⟨rfl, eq_false h1, eq_true h2⟩
      refine .inr ?_
      by_cases h3 : (700 : Int) < (val.size : Int)
      · exact .inl ⟨rfl, eq_false h1, eq_false h2, eq_true h3⟩
      · exact .inr ⟨rfl, eq_false h1, eq_false h2, eq_false h3⟩
    · exact .inl rfl
  rcases hcs with rfl | ⟨rfl, h1⟩ | ⟨rfl, h1, h2⟩ | ⟨rfl, h1, h2, h3⟩ | ⟨rfl, h1, h2, h3⟩
  iterate 4
    · clear hlb
      go_enter Try.func3, Try.ntmps3
      go_wp2_with (refine gate_ (.load 34 (.tmp 5)) rfl ?_; refine wpList_load_row rfl 34 _ rfl (g) rfl 34 _ (0, 0) _ e5 Try.underlying34 rfl (by kernel_rfl) ?_)
      refine (HLG.out W (HN.out.below HBW.out)).mono ?_
      rintro e w1 ⟨rfl, hb1⟩
      have HB1 := Aside0.mk (below_then HBW.out HBW.out.size hb1)
      have e5 := (hb1.block _ (blk_lt HE.out.1)).trans HE.out.1
      have e6 := (hb1.block _ (blk_lt HE.out.2)).trans HE.out.2
      have F5 := Aside0.mk e5
      have F6 := Aside0.mk e6
      have d3 : w1.cell? ⟨g + 1, 3, none⟩ = some (.string j.f3) := (blk_cell e6 3).trans rfl
      have d4 : w1.cell? ⟨g + 1, 4, none⟩ = some (.string j.f4) := (blk_cell e6 4).trans rfl
      clear hb1 hW
      clear e5 e6
      go_wp2_with fail
      refine (awake_ok _).mono ?_
      rintro e wz ⟨rfl, hbz⟩
      have HBZ := Aside0.mk hbz
      clear hbz
      go_wp2_with fail
      go_ret
      exact ⟨rfl, below_then (HB1.out) (HB1.out).size HBZ.out⟩
  · have hNL := (hlb rfl).1
    have HL : Aside0 (n.l9.length ≤ 100000 ∧ n.l10.length ≤ 100000) := ⟨by have := hNL.m9; omega, by have := hNL.m10; omega⟩
    have HNL : Aside0 (NL (addN n j) ∧ NL (setN n j) ∧ NL (lateN n) ∧ NL (settleN n j.f0 has val er)) := ⟨nl_add hNL j, nl_set hNL j, nl_late hNL, nl_settle hNL _ _ _ _⟩
    obtain ⟨na, hna⟩ : ∃ na, addN n j = na := ⟨_, rfl⟩
    obtain ⟨ai, hai⟩ : ∃ ai, addI n = ai := ⟨_, rfl⟩
    obtain ⟨ae, hae⟩ : ∃ ae, addE n = ae := ⟨_, rfl⟩
    obtain ⟨ns, hns⟩ : ∃ ns, setN n j = ns := ⟨_, rfl⟩
    obtain ⟨nl, hnl⟩ : ∃ nl, lateN n = nl := ⟨_, rfl⟩
    obtain ⟨nt, hnt⟩ : ∃ nt, settleN n j.f0 has val er = nt := ⟨_, rfl⟩
    rw [hna, hns, hnl, hnt] at HNL
    have HADD : Aside0 (∀ V : World, Below w.heap.size w V → Calls Try.prog 8 #[.agg #[.int .u64 n.a0, .int .u16 n.a1, .int .i64 n.a2, .bool n.a3, .slice s.A4 n.l4.length s.c4, .slice s.A5 n.l5.length s.c5, .slice s.A6 n.l6.length s.c6, .slice s.A7 n.l7.length s.c7, .slice s.A8 n.l8.length s.c8, .slice s.A9 n.l9.length s.c9, .slice s.A10 n.l10.length s.c10, .int .u32 n.a11, .int .i64 n.a12, .int .i64 n.a13], .agg #[.int .i64 j.f0, .int .i64 j.f1, .int .i64 j.f2, .string j.f3, .string j.f4, .int .u64 j.f5, .int .u64 j.f6.f0, .int .u16 j.f6.f1, .int .u64 j.f7.f0, .int .u16 j.f7.f1, .bool j.f8, .int .i64 j.f9, .int .i64 j.f10, .int .i64 j.f11]] V fun e w' => ∃ s1 : NA, e = .returned (.tuple #[.agg #[.int .u64 na.a0, .int .u16 na.a1, .int .i64 na.a2, .bool na.a3, .slice s1.A4 na.l4.length s1.c4, .slice s1.A5 na.l5.length s1.c5, .slice s1.A6 na.l6.length s1.c6, .slice s1.A7 na.l7.length s1.c7, .slice s1.A8 na.l8.length s1.c8, .slice s1.A9 na.l9.length s1.c9, .slice s1.A10 na.l10.length s1.c10, .int .u32 na.a11, .int .i64 na.a12, .int .i64 na.a13], .int .i64 ai, .int .i64 ae]) ∧ NC w' na s1 ∧ Below V.heap.size V w') := ⟨fun V hV => by
      have h := add_ok n s j V (HN.out.below hV) HNB.out
      rw [hna, hai, hae] at h
      exact h.mono fun e w' ⟨s1, he, hR, hb⟩ => ⟨s1, he, hR.reads, hb⟩⟩
    have HRADD : Aside0 (∀ V : World, Below w.heap.size w V → Calls Try.prog 9 #[.agg #[.int .u64 n.a0, .int .u16 n.a1, .int .i64 n.a2, .bool n.a3, .slice s.A4 n.l4.length s.c4, .slice s.A5 n.l5.length s.c5, .slice s.A6 n.l6.length s.c6, .slice s.A7 n.l7.length s.c7, .slice s.A8 n.l8.length s.c8, .slice s.A9 n.l9.length s.c9, .slice s.A10 n.l10.length s.c10, .int .u32 n.a11, .int .i64 n.a12, .int .i64 n.a13], .agg #[.int .i64 j.f0, .int .i64 j.f1, .int .i64 j.f2, .string j.f3, .string j.f4, .int .u64 j.f5, .int .u64 j.f6.f0, .int .u16 j.f6.f1, .int .u64 j.f7.f0, .int .u16 j.f7.f1, .bool j.f8, .int .i64 j.f9, .int .i64 j.f10, .int .i64 j.f11]] V fun e w' => ∃ s1 : NA, e = .returned (.tuple #[.agg #[.int .u64 na.a0, .int .u16 na.a1, .int .i64 na.a2, .bool na.a3, .slice s1.A4 na.l4.length s1.c4, .slice s1.A5 na.l5.length s1.c5, .slice s1.A6 na.l6.length s1.c6, .slice s1.A7 na.l7.length s1.c7, .slice s1.A8 na.l8.length s1.c8, .slice s1.A9 na.l9.length s1.c9, .slice s1.A10 na.l10.length s1.c10, .int .u32 na.a11, .int .i64 na.a12, .int .i64 na.a13], .int .i64 ai, .int .i64 ae]) ∧ NC w' na s1 ∧ Below V.heap.size V w') := ⟨fun V hV => by
      have h := radd_ok n s j V (HN.out.below hV) HNB.out
      rw [hna, hai, hae] at h
      exact h.mono fun e w' ⟨s1, he, hR, hb⟩ => ⟨s1, he, hR, hb⟩⟩
    have HSET : Aside0 (∀ V : World, Below w.heap.size w V → Calls Try.prog 11 #[.agg #[.int .u64 n.a0, .int .u16 n.a1, .int .i64 n.a2, .bool n.a3, .slice s.A4 n.l4.length s.c4, .slice s.A5 n.l5.length s.c5, .slice s.A6 n.l6.length s.c6, .slice s.A7 n.l7.length s.c7, .slice s.A8 n.l8.length s.c8, .slice s.A9 n.l9.length s.c9, .slice s.A10 n.l10.length s.c10, .int .u32 n.a11, .int .i64 n.a12, .int .i64 n.a13], .agg #[.int .i64 j.f0, .int .i64 j.f1, .int .i64 j.f2, .string j.f3, .string j.f4, .int .u64 j.f5, .int .u64 j.f6.f0, .int .u16 j.f6.f1, .int .u64 j.f7.f0, .int .u16 j.f7.f1, .bool j.f8, .int .i64 j.f9, .int .i64 j.f10, .int .i64 j.f11]] V fun e w' => ∃ s1 : NA, e = .returned (.agg #[.int .u64 ns.a0, .int .u16 ns.a1, .int .i64 ns.a2, .bool ns.a3, .slice s1.A4 ns.l4.length s1.c4, .slice s1.A5 ns.l5.length s1.c5, .slice s1.A6 ns.l6.length s1.c6, .slice s1.A7 ns.l7.length s1.c7, .slice s1.A8 ns.l8.length s1.c8, .slice s1.A9 ns.l9.length s1.c9, .slice s1.A10 ns.l10.length s1.c10, .int .u32 ns.a11, .int .i64 ns.a12, .int .i64 ns.a13]) ∧ NC w' ns s1 ∧ Below V.heap.size V w') := ⟨fun V hV => by
      have h := set_ok n s j V (HN.out.below hV) HNB.out
      rw [hns] at h
      exact h.mono fun e w' ⟨s1, he, hR, hb⟩ => ⟨s1, he, hR.reads, hb⟩⟩
    have HRSET : Aside0 (∀ V : World, Below w.heap.size w V → Calls Try.prog 12 #[.agg #[.int .u64 n.a0, .int .u16 n.a1, .int .i64 n.a2, .bool n.a3, .slice s.A4 n.l4.length s.c4, .slice s.A5 n.l5.length s.c5, .slice s.A6 n.l6.length s.c6, .slice s.A7 n.l7.length s.c7, .slice s.A8 n.l8.length s.c8, .slice s.A9 n.l9.length s.c9, .slice s.A10 n.l10.length s.c10, .int .u32 n.a11, .int .i64 n.a12, .int .i64 n.a13], .agg #[.int .i64 j.f0, .int .i64 j.f1, .int .i64 j.f2, .string j.f3, .string j.f4, .int .u64 j.f5, .int .u64 j.f6.f0, .int .u16 j.f6.f1, .int .u64 j.f7.f0, .int .u16 j.f7.f1, .bool j.f8, .int .i64 j.f9, .int .i64 j.f10, .int .i64 j.f11]] V fun e w' => ∃ s1 : NA, e = .returned (.agg #[.int .u64 ns.a0, .int .u16 ns.a1, .int .i64 ns.a2, .bool ns.a3, .slice s1.A4 ns.l4.length s1.c4, .slice s1.A5 ns.l5.length s1.c5, .slice s1.A6 ns.l6.length s1.c6, .slice s1.A7 ns.l7.length s1.c7, .slice s1.A8 ns.l8.length s1.c8, .slice s1.A9 ns.l9.length s1.c9, .slice s1.A10 ns.l10.length s1.c10, .int .u32 ns.a11, .int .i64 ns.a12, .int .i64 ns.a13]) ∧ NC w' ns s1 ∧ Below V.heap.size V w') := ⟨fun V hV => by
      have h := rset_ok n s j V (HN.out.below hV) HL.out.1
      rw [hns] at h
      exact h.mono fun e w' ⟨s1, he, hR, hb⟩ => ⟨s1, he, hR, hb⟩⟩
    have HLATE : Aside0 (∀ V : World, Below w.heap.size w V → Calls Try.prog 13 #[.agg #[.int .u64 n.a0, .int .u16 n.a1, .int .i64 n.a2, .bool n.a3, .slice s.A4 n.l4.length s.c4, .slice s.A5 n.l5.length s.c5, .slice s.A6 n.l6.length s.c6, .slice s.A7 n.l7.length s.c7, .slice s.A8 n.l8.length s.c8, .slice s.A9 n.l9.length s.c9, .slice s.A10 n.l10.length s.c10, .int .u32 n.a11, .int .i64 n.a12, .int .i64 n.a13]] V fun e w' => ∃ s1 : NA, e = .returned (.agg #[.int .u64 nl.a0, .int .u16 nl.a1, .int .i64 nl.a2, .bool nl.a3, .slice s1.A4 nl.l4.length s1.c4, .slice s1.A5 nl.l5.length s1.c5, .slice s1.A6 nl.l6.length s1.c6, .slice s1.A7 nl.l7.length s1.c7, .slice s1.A8 nl.l8.length s1.c8, .slice s1.A9 nl.l9.length s1.c9, .slice s1.A10 nl.l10.length s1.c10, .int .u32 nl.a11, .int .i64 nl.a12, .int .i64 nl.a13]) ∧ NC w' nl s1 ∧ Below V.heap.size V w') := ⟨fun V hV => by
      have h := late_ok n s V (HN.out.below hV) HNB.out HL.out.2 HL.out.1
      rw [hnl] at h
      exact h.mono fun e w' ⟨s1, he, hR, hb⟩ => ⟨s1, he, hR.reads, hb⟩⟩
    have HRLATE : Aside0 (∀ V : World, Below w.heap.size w V → Calls Try.prog 14 #[.agg #[.int .u64 n.a0, .int .u16 n.a1, .int .i64 n.a2, .bool n.a3, .slice s.A4 n.l4.length s.c4, .slice s.A5 n.l5.length s.c5, .slice s.A6 n.l6.length s.c6, .slice s.A7 n.l7.length s.c7, .slice s.A8 n.l8.length s.c8, .slice s.A9 n.l9.length s.c9, .slice s.A10 n.l10.length s.c10, .int .u32 n.a11, .int .i64 n.a12, .int .i64 n.a13]] V fun e w' => ∃ s1 : NA, e = .returned (.agg #[.int .u64 nl.a0, .int .u16 nl.a1, .int .i64 nl.a2, .bool nl.a3, .slice s1.A4 nl.l4.length s1.c4, .slice s1.A5 nl.l5.length s1.c5, .slice s1.A6 nl.l6.length s1.c6, .slice s1.A7 nl.l7.length s1.c7, .slice s1.A8 nl.l8.length s1.c8, .slice s1.A9 nl.l9.length s1.c9, .slice s1.A10 nl.l10.length s1.c10, .int .u32 nl.a11, .int .i64 nl.a12, .int .i64 nl.a13]) ∧ NC w' nl s1 ∧ Below V.heap.size V w') := ⟨fun V hV => by
      have h := rlate_ok n s V (HN.out.below hV) HL.out.1 HL.out.2
      rw [hnl] at h
      exact h.mono fun e w' ⟨s1, he, hR, hb⟩ => ⟨s1, he, hR, hb⟩⟩
    have HSETT : Aside0 (∀ V : World, Below w.heap.size w V → Calls Try.prog 15 #[.agg #[.int .u64 n.a0, .int .u16 n.a1, .int .i64 n.a2, .bool n.a3, .slice s.A4 n.l4.length s.c4, .slice s.A5 n.l5.length s.c5, .slice s.A6 n.l6.length s.c6, .slice s.A7 n.l7.length s.c7, .slice s.A8 n.l8.length s.c8, .slice s.A9 n.l9.length s.c9, .slice s.A10 n.l10.length s.c10, .int .u32 n.a11, .int .i64 n.a12, .int .i64 n.a13], .int .i64 j.f0, .bool has, .string val, .int .i64 er] V fun e w' => ∃ s1 : NA, e = .returned (.agg #[.int .u64 nt.a0, .int .u16 nt.a1, .int .i64 nt.a2, .bool nt.a3, .slice s1.A4 nt.l4.length s1.c4, .slice s1.A5 nt.l5.length s1.c5, .slice s1.A6 nt.l6.length s1.c6, .slice s1.A7 nt.l7.length s1.c7, .slice s1.A8 nt.l8.length s1.c8, .slice s1.A9 nt.l9.length s1.c9, .slice s1.A10 nt.l10.length s1.c10, .int .u32 nt.a11, .int .i64 nt.a12, .int .i64 nt.a13]) ∧ NC w' nt s1 ∧ Below V.heap.size V w') := ⟨fun V hV => by
      have h := settle_ok n s j.f0 has val er V (HN.out.below hV) HNB.out HL.out.2 HL.out.1
      rw [hnt] at h
      exact h.mono fun e w' ⟨s1, he, hR, hb⟩ => ⟨s1, he, hR.reads, hb⟩⟩
    have HRSETT : Aside0 (∀ V : World, Below w.heap.size w V → Calls Try.prog 16 #[.agg #[.int .u64 n.a0, .int .u16 n.a1, .int .i64 n.a2, .bool n.a3, .slice s.A4 n.l4.length s.c4, .slice s.A5 n.l5.length s.c5, .slice s.A6 n.l6.length s.c6, .slice s.A7 n.l7.length s.c7, .slice s.A8 n.l8.length s.c8, .slice s.A9 n.l9.length s.c9, .slice s.A10 n.l10.length s.c10, .int .u32 n.a11, .int .i64 n.a12, .int .i64 n.a13], .int .i64 j.f0, .bool has, .string val, .int .i64 er] V fun e w' => ∃ s1 : NA, e = .returned (.agg #[.int .u64 nt.a0, .int .u16 nt.a1, .int .i64 nt.a2, .bool nt.a3, .slice s1.A4 nt.l4.length s1.c4, .slice s1.A5 nt.l5.length s1.c5, .slice s1.A6 nt.l6.length s1.c6, .slice s1.A7 nt.l7.length s1.c7, .slice s1.A8 nt.l8.length s1.c8, .slice s1.A9 nt.l9.length s1.c9, .slice s1.A10 nt.l10.length s1.c10, .int .u32 nt.a11, .int .i64 nt.a12, .int .i64 nt.a13]) ∧ NC w' nt s1 ∧ Below V.heap.size V w') := ⟨fun V hV => by
      have h := rsettle_ok n s j.f0 has val er V (HN.out.below hV) HL.out.1 HL.out.2
      rw [hnt] at h
      exact h.mono fun e w' ⟨s1, he, hR, hb⟩ => ⟨s1, he, hR, hb⟩⟩
    clear hna hai hae hns hnl hnt hlb hNL
    go_enter Try.func3, Try.ntmps3
    go_wp2_with (refine gate_ (.load 34 (.tmp 5)) rfl ?_; refine wpList_load_row rfl 34 _ rfl (g) rfl 34 _ (0, 0) _ e5 Try.underlying34 rfl (by kernel_rfl) ?_)
    refine (HLG.out W (HN.out.below HBW.out)).mono ?_
    rintro e w1 ⟨rfl, hb1⟩
    have HB1 := Aside0.mk (below_then HBW.out HBW.out.size hb1)
    have e5 := (hb1.block _ (blk_lt HE.out.1)).trans HE.out.1
    have e6 := (hb1.block _ (blk_lt HE.out.2)).trans HE.out.2
    have F5 := Aside0.mk e5
    have F6 := Aside0.mk e6
    have d3 : w1.cell? ⟨g + 1, 3, none⟩ = some (.string j.f3) := (blk_cell e6 3).trans rfl
    have d4 : w1.cell? ⟨g + 1, 4, none⟩ = some (.string j.f4) := (blk_cell e6 4).trans rfl
    clear hb1 hW
    go_wp2_with (first | (refine gate_ (.load 34 (.tmp 5)) rfl ?_; refine wpList_load_row rfl 34 _ rfl (g) rfl 34 _ (0, 0) _ e5 Try.underlying34 rfl (by kernel_rfl) ?_) | (refine gate_ (.load 36 (.tmp 6)) rfl ?_; refine wpList_load_row rfl 36 _ rfl (g + 1) rfl 36 _ (0, 0) _ e6 Try.underlying36 rfl (by kernel_rfl) ?_))
    refine (HADD.out w1 HB1.out).mono ?_
    rintro e2 w3 ⟨s1, rfl, hN3, hb3⟩
    have HB3 := Aside0.mk (below_then HB1.out HB1.out.size hb3)
    have G5 := Aside0.mk ((hb3.block _ (blk_lt F5.out)).trans F5.out)
    have G6 := Aside0.mk ((hb3.block _ (blk_lt F6.out)).trans F6.out)
    have HN3 := Aside0.mk hN3
    have hz := heap_alloc_new w3 (.cells #[.int .u64 0, .int .u16 0, .int .i64 0, .bool false, .slice none 0 0, .slice none 0 0, .slice none 0 0, .slice none 0 0, .slice none 0 0, .slice none 0 0, .slice none 0 0, .int .u32 0, .int .i64 0, .int .i64 0] 34)
    clear hN3 hb3 d3 d4 e5 e6
    go_wp2_with (first | (refine store_box (.store 34 (.tmp 11) (.tmp 42)) 34 _ _ (w3.heap.size) 0 _ #[.int .u64 na.a0, .int .u16 na.a1, .int .i64 na.a2, .bool na.a3, .slice s1.A4 na.l4.length s1.c4, .slice s1.A5 na.l5.length s1.c5, .slice s1.A6 na.l6.length s1.c6, .slice s1.A7 na.l7.length s1.c7, .slice s1.A8 na.l8.length s1.c8, .slice s1.A9 na.l9.length s1.c9, .slice s1.A10 na.l10.length s1.c10, .int .u32 na.a11, .int .i64 na.a12, .int .i64 na.a13] 34 _ [.int .u64 na.a0, .int .u16 na.a1, .int .i64 na.a2, .bool na.a3, .slice s1.A4 na.l4.length s1.c4, .slice s1.A5 na.l5.length s1.c5, .slice s1.A6 na.l6.length s1.c6, .slice s1.A7 na.l7.length s1.c7, .slice s1.A8 na.l8.length s1.c8, .slice s1.A9 na.l9.length s1.c9, .slice s1.A10 na.l10.length s1.c10, .int .u32 na.a11, .int .i64 na.a12, .int .i64 na.a13] rfl rfl rfl rfl rfl rfl hz rfl (by kernel_rfl) (by simp) (by simp [Value.oneCell']) (by simp) ?_; intro v3 ea hs3; have HS3 := Aside0.mk hs3; have q5 := ((sto_new hs3).block _ (blk_lt G5.out)).trans G5.out; have q6 := ((sto_new hs3).block _ (blk_lt G6.out)).trans G6.out; clear hs3 hz) | (refine gate_ (.load 34 (.tmp 5)) rfl ?_; refine wpList_load_row rfl 34 _ rfl (g) rfl 34 _ (0, 0) _ q5 Try.underlying34 rfl (by kernel_rfl) ?_) | (refine gate_ (.load 36 (.tmp 6)) rfl ?_; refine wpList_load_row rfl 36 _ rfl (g + 1) rfl 36 _ (0, 0) _ q6 Try.underlying36 rfl (by kernel_rfl) ?_))
    have HBV3 := Aside0.mk (sto_new HS3.out)
    have HB4 := Aside0.mk (below_then HB3.out HB3.out.size HBV3.out)
    refine (HRADD.out v3 HB4.out).mono ?_
    rintro e3 w4 ⟨s2, rfl, hN4, hb4⟩
    have HB5 := Aside0.mk (below_then HB4.out HB4.out.size hb4)
    have K5 := Aside0.mk ((hb4.block _ (blk_lt q5)).trans q5)
    have K6 := Aside0.mk ((hb4.block _ (blk_lt q6)).trans q6)
    have KA := Aside0.mk ((hb4.block _ (blk_lt ea)).trans ea)
    have HN4 := Aside0.mk hN4
    have HB34 := Aside0.mk hb4
    have hz := heap_alloc_new w4 (.cells #[.int .u64 0, .int .u16 0, .int .i64 0, .bool false, .slice none 0 0, .slice none 0 0, .slice none 0 0, .slice none 0 0, .slice none 0 0, .slice none 0 0, .slice none 0 0, .int .u32 0, .int .i64 0, .int .i64 0] 34)
    clear hN4 hb4 q5 q6 ea
    go_wp2_with ((refine store_box (.store 34 (.tmp 14) (.tmp 49)) 34 _ _ (w4.heap.size) 0 _ #[.int .u64 na.a0, .int .u16 na.a1, .int .i64 na.a2, .bool na.a3, .slice s2.A4 na.l4.length s2.c4, .slice s2.A5 na.l5.length s2.c5, .slice s2.A6 na.l6.length s2.c6, .slice s2.A7 na.l7.length s2.c7, .slice s2.A8 na.l8.length s2.c8, .slice s2.A9 na.l9.length s2.c9, .slice s2.A10 na.l10.length s2.c10, .int .u32 na.a11, .int .i64 na.a12, .int .i64 na.a13] 34 _ [.int .u64 na.a0, .int .u16 na.a1, .int .i64 na.a2, .bool na.a3, .slice s2.A4 na.l4.length s2.c4, .slice s2.A5 na.l5.length s2.c5, .slice s2.A6 na.l6.length s2.c6, .slice s2.A7 na.l7.length s2.c7, .slice s2.A8 na.l8.length s2.c8, .slice s2.A9 na.l9.length s2.c9, .slice s2.A10 na.l10.length s2.c10, .int .u32 na.a11, .int .i64 na.a12, .int .i64 na.a13] rfl rfl rfl rfl rfl rfl hz rfl (by kernel_rfl) (by simp) (by simp [Value.oneCell']) (by simp) ?_; intro v4 eb hs4; have HS4 := Aside0.mk hs4; clear hs4 hz))
    have HBV4 := Aside0.mk (sto_new HS4.out)
    obtain ⟨w5, hw5⟩ : ∃ w5, v4.drew = w5 := ⟨_, rfl⟩
    have HBD : Aside0 (Below v4.heap.size v4 w5) := ⟨by rw [← hw5]; exact (Below.refl _ _).drew⟩
    have hs0 : MovS g w3.heap.size w4.heap.size #[.int .u64 n.a0, .int .u16 n.a1, .int .i64 n.a2, .bool n.a3, .slice s.A4 n.l4.length s.c4, .slice s.A5 n.l5.length s.c5, .slice s.A6 n.l6.length s.c6, .slice s.A7 n.l7.length s.c7, .slice s.A8 n.l8.length s.c8, .slice s.A9 n.l9.length s.c9, .slice s.A10 n.l10.length s.c10, .int .u32 n.a11, .int .i64 n.a12, .int .i64 n.a13] #[.int .i64 j.f0, .int .i64 j.f1, .int .i64 j.f2, .string j.f3, .string j.f4, .int .u64 j.f5, .int .u64 j.f6.f0, .int .u16 j.f6.f1, .int .u64 j.f7.f0, .int .u16 j.f7.f1, .bool j.f8, .int .i64 j.f9, .int .i64 j.f10, .int .i64 j.f11] #[.int .u64 na.a0, .int .u16 na.a1, .int .i64 na.a2, .bool na.a3, .slice s1.A4 na.l4.length s1.c4, .slice s1.A5 na.l5.length s1.c5, .slice s1.A6 na.l6.length s1.c6, .slice s1.A7 na.l7.length s1.c7, .slice s1.A8 na.l8.length s1.c8, .slice s1.A9 na.l9.length s1.c9, .slice s1.A10 na.l10.length s1.c10, .int .u32 na.a11, .int .i64 na.a12, .int .i64 na.a13] #[.int .u64 na.a0, .int .u16 na.a1, .int .i64 na.a2, .bool na.a3, .slice s2.A4 na.l4.length s2.c4, .slice s2.A5 na.l5.length s2.c5, .slice s2.A6 na.l6.length s2.c6, .slice s2.A7 na.l7.length s2.c7, .slice s2.A8 na.l8.length s2.c8, .slice s2.A9 na.l9.length s2.c9, .slice s2.A10 na.l10.length s2.c10, .int .u32 na.a11, .int .i64 na.a12, .int .i64 na.a13] v4.drew := by
      rw [hw5]
      exact MovS.go ⟨(HBV4.out.block _ (blk_lt K5.out)).trans K5.out, (HBV4.out.block _ (blk_lt K6.out)).trans K6.out, (HBV4.out.block _ (blk_lt KA.out)).trans KA.out, eb⟩ HBD.out
    have HA := Aside0.mk (((((HN3.out.below' HBV3.out).below' HB34.out)).below' HBV4.out).below' HBD.out)
    have HC := Aside0.mk ((HN4.out.below' HBV4.out).below' HBD.out)
    have HB := Aside0.mk (below_then (below_then HB5.out HB5.out.size HBV4.out) (below_then HB5.out HB5.out.size HBV4.out).size HBD.out)
    clear eb
    go_wp2_with fail
    refine start_ (n := 30) (S := MovS g w3.heap.size w4.heap.size #[.int .u64 n.a0, .int .u16 n.a1, .int .i64 n.a2, .bool n.a3, .slice s.A4 n.l4.length s.c4, .slice s.A5 n.l5.length s.c5, .slice s.A6 n.l6.length s.c6, .slice s.A7 n.l7.length s.c7, .slice s.A8 n.l8.length s.c8, .slice s.A9 n.l9.length s.c9, .slice s.A10 n.l10.length s.c10, .int .u32 n.a11, .int .i64 n.a12, .int .i64 n.a13] #[.int .i64 j.f0, .int .i64 j.f1, .int .i64 j.f2, .string j.f3, .string j.f4, .int .u64 j.f5, .int .u64 j.f6.f0, .int .u16 j.f6.f1, .int .u64 j.f7.f0, .int .u16 j.f7.f1, .bool j.f8, .int .i64 j.f9, .int .i64 j.f10, .int .i64 j.f11] #[.int .u64 na.a0, .int .u16 na.a1, .int .i64 na.a2, .bool na.a3, .slice s1.A4 na.l4.length s1.c4, .slice s1.A5 na.l5.length s1.c5, .slice s1.A6 na.l6.length s1.c6, .slice s1.A7 na.l7.length s1.c7, .slice s1.A8 na.l8.length s1.c8, .slice s1.A9 na.l9.length s1.c9, .slice s1.A10 na.l10.length s1.c10, .int .u32 na.a11, .int .i64 na.a12, .int .i64 na.a13] #[.int .u64 na.a0, .int .u16 na.a1, .int .i64 na.a2, .bool na.a3, .slice s2.A4 na.l4.length s2.c4, .slice s2.A5 na.l5.length s2.c5, .slice s2.A6 na.l6.length s2.c6, .slice s2.A7 na.l7.length s2.c7, .slice s2.A8 na.l8.length s2.c8, .slice s2.A9 na.l9.length s2.c9, .slice s2.A10 na.l10.length s2.c10, .int .u32 na.a11, .int .i64 na.a12, .int .i64 na.a13]) (ds := []) #[false, false, false, false, false, false, false, false, false, false, false, false, false, false, false, false, false, false, false, false, false, false, false, false, false, false, false, false, false, false] (by kernel_rfl) rfl rfl hs0 (fun hH => ?_)
    rw [hw5] at hH ⊢
    clear hs0 hw5
    refine take_ (i := 0) (N := some 52) (v := ?_) (a' := ?_) #[true, false, false, false, false, false, false, false, false, false, false, false, false, false, false, false, false, false, false, false, false, false, false, false, false, false, false, false, false, false] rfl rfl (by kernel_rfl) (fun _ _ _ h => h) (Or.inl ⟨by rfl, ?_⟩) hH ?_ ?_
    rotate_left
    · rintro w' ⟨s0, s1_, s2, s3_⟩
      refine load_yields (x := .tmp 11) ?_ ?_ s2 Try.underlying34 rfl (by kernel_rfl)
      · rfl
      · rfl
    rotate_left
    · simp only [Act.put, List.setIfInBounds_toArray, List.set_cons_zero, List.set_cons_succ, i64_w, i32_w]
      rfl
    refine take_ (i := 1) (N := some 53) (v := ?_) (a' := ?_) #[true, true, false, false, false, false, false, false, false, false, false, false, false, false, false, false, false, false, false, false, false, false, false, false, false, false, false, false, false, false] rfl rfl (by kernel_rfl) (fun _ _ _ h => h) (Or.inl ⟨by rfl, ?_⟩) hH ?_ ?_
    rotate_left
    · rintro w' ⟨s0, s1_, s2, s3_⟩
      refine load_yields (x := .tmp 14) ?_ ?_ s3_ Try.underlying34 rfl (by kernel_rfl)
      · rfl
      · rfl
    rotate_left
    · simp only [Act.put, List.setIfInBounds_toArray, List.set_cons_zero, List.set_cons_succ, i64_w, i32_w]
      rfl
    refine one_ (i := 2) (N := some 54) #[true, true, true, false, false, false, false, false, false, false, false, false, false, false, false, false, false, false, false, false, false, false, false, false, false, false, false, false, false, false] rfl rfl (by kernel_rfl) (by decide) (fun K hK => ?_)
    refine goes_ Try.func10 (by kernel_rfl) rfl #[.agg #[.int .u64 na.a0, .int .u16 na.a1, .int .i64 na.a2, .bool na.a3, .slice s1.A4 na.l4.length s1.c4, .slice s1.A5 na.l5.length s1.c5, .slice s1.A6 na.l6.length s1.c6, .slice s1.A7 na.l7.length s1.c7, .slice s1.A8 na.l8.length s1.c8, .slice s1.A9 na.l9.length s1.c9, .slice s1.A10 na.l10.length s1.c10, .int .u32 na.a11, .int .i64 na.a12, .int .i64 na.a13], .agg #[.int .u64 na.a0, .int .u16 na.a1, .int .i64 na.a2, .bool na.a3, .slice s2.A4 na.l4.length s2.c4, .slice s2.A5 na.l5.length s2.c5, .slice s2.A6 na.l6.length s2.c6, .slice s2.A7 na.l7.length s2.c7, .slice s2.A8 na.l8.length s2.c8, .slice s2.A9 na.l9.length s2.c9, .slice s2.A10 na.l10.length s2.c10, .int .u32 na.a11, .int .i64 na.a12, .int .i64 na.a13]] (by rfl) rfl rfl (by (try simp only [List.map_toArray, List.map_cons, List.map_nil]); first | done | rfl) ?_
    refine (same_ok na s1 s2 _ HA.out HC.out HNL.out.1).mono ?_
    rintro e6 w6 ⟨rfl, hb6⟩
    refine ⟨_, rfl, ?_⟩
    have hS_ := MovS.go hH hb6
    have HB := Aside0.mk (below_then HB.out HB.out.size hb6)
    clear hb6 HA HC
    refine hK.out _ _ hS_ (fun hH1 => ?_)
    clear hS_
    clear hK K
    refine norm_ (a' := ?_) ?_ ?_
    rotate_left
    · show Act.put _ (some 54) _ = _
      simp only [Act.put, List.setIfInBounds_toArray, List.set_cons_zero, List.set_cons_succ, i64_w, i32_w]
      rfl
    refine pure_ (i := 3) (N := some 55) (v := ?_) (a' := ?_) #[true, true, true, true, false, false, false, false, false, false, false, false, false, false, false, false, false, false, false, false, false, false, false, false, false, false, false, false, false, false] rfl rfl (by kernel_rfl) (fun _ _ _ h => h) (Or.inl ⟨by rfl, ?_⟩) ?_ ?_
    rotate_left
    · intro w'
      go_simp
      with_reducible rfl
    rotate_left
    · simp only [Act.put, List.setIfInBounds_toArray, List.set_cons_zero, List.set_cons_succ, i64_w, i32_w]
      rfl
    refine pure_ (i := 4) (N := some 56) (v := ?_) (a' := ?_) #[true, true, true, true, true, false, false, false, false, false, false, false, false, false, false, false, false, false, false, false, false, false, false, false, false, false, false, false, false, false] rfl rfl (by kernel_rfl) (fun _ _ _ h => h) (Or.inl ⟨by rfl, ?_⟩) ?_ ?_
    rotate_left
    · intro w'
      go_simp
      with_reducible rfl
    rotate_left
    · simp only [Act.put, List.setIfInBounds_toArray, List.set_cons_zero, List.set_cons_succ, i64_w, i32_w]
      rfl
    refine pure_ (i := 5) (N := some 57) (v := ?_) (a' := ?_) #[true, true, true, true, true, true, false, false, false, false, false, false, false, false, false, false, false, false, false, false, false, false, false, false, false, false, false, false, false, false] rfl rfl (by kernel_rfl) (fun _ _ _ h => h) (Or.inl ⟨by rfl, ?_⟩) ?_ ?_
    rotate_left
    · intro w'
      go_simp
      with_reducible rfl
    rotate_left
    · simp only [Act.put, List.setIfInBounds_toArray, List.set_cons_zero, List.set_cons_succ, i64_w, i32_w]
      rfl
    refine pure_ (i := 6) (N := some 58) (v := ?_) (a' := ?_) #[true, true, true, true, true, true, true, false, false, false, false, false, false, false, false, false, false, false, false, false, false, false, false, false, false, false, false, false, false, false] rfl rfl (by kernel_rfl) (fun _ _ _ h => h) (Or.inl ⟨by rfl, ?_⟩) ?_ ?_
    rotate_left
    · intro w'
      go_simp
      try simp only [beq_self_eq_true]
      with_reducible rfl
    rotate_left
    · simp only [Act.put, List.setIfInBounds_toArray, List.set_cons_zero, List.set_cons_succ, i64_w, i32_w]
      rfl
    refine pure_ (i := 7) (N := some 59) (v := ?_) (a' := ?_) #[true, true, true, true, true, true, true, true, false, false, false, false, false, false, false, false, false, false, false, false, false, false, false, false, false, false, false, false, false, false] rfl rfl (by kernel_rfl) (fun _ _ _ h => h) (Or.inl ⟨by rfl, ?_⟩) ?_ ?_
    rotate_left
    · intro w'
      go_simp
      with_reducible rfl
    rotate_left
    · simp only [Act.put, List.setIfInBounds_toArray, List.set_cons_zero, List.set_cons_succ, i64_w, i32_w]
      rfl
    refine pure_ (i := 8) (N := some 60) (v := ?_) (a' := ?_) #[true, true, true, true, true, true, true, true, true, false, false, false, false, false, false, false, false, false, false, false, false, false, false, false, false, false, false, false, false, false] rfl rfl (by kernel_rfl) (fun _ _ _ h => h) (Or.inl ⟨by rfl, ?_⟩) ?_ ?_
    rotate_left
    · intro w'
      go_simp
      with_reducible rfl
    rotate_left
    · simp only [Act.put, List.setIfInBounds_toArray, List.set_cons_zero, List.set_cons_succ, i64_w, i32_w]
      rfl
    refine pure_ (i := 9) (N := some 61) (v := ?_) (a' := ?_) #[true, true, true, true, true, true, true, true, true, true, false, false, false, false, false, false, false, false, false, false, false, false, false, false, false, false, false, false, false, false] rfl rfl (by kernel_rfl) (fun _ _ _ h => h) (Or.inl ⟨by rfl, ?_⟩) ?_ ?_
    rotate_left
    · intro w'
      go_simp
      with_reducible rfl
    rotate_left
    · simp only [Act.put, List.setIfInBounds_toArray, List.set_cons_zero, List.set_cons_succ, i64_w, i32_w]
      rfl
    refine pure_ (i := 10) (N := some 62) (v := ?_) (a' := ?_) #[true, true, true, true, true, true, true, true, true, true, true, false, false, false, false, false, false, false, false, false, false, false, false, false, false, false, false, false, false, false] rfl rfl (by kernel_rfl) (fun _ _ _ h => h) (Or.inl ⟨by rfl, ?_⟩) ?_ ?_
    rotate_left
    · intro w'
      go_simp
      with_reducible rfl
    rotate_left
    · simp only [Act.put, List.setIfInBounds_toArray, List.set_cons_zero, List.set_cons_succ, i64_w, i32_w]
      rfl
    refine pure_ (i := 11) (N := some 63) (v := ?_) (a' := ?_) #[true, true, true, true, true, true, true, true, true, true, true, true, false, false, false, false, false, false, false, false, false, false, false, false, false, false, false, false, false, false] rfl rfl (by kernel_rfl) (fun _ _ _ h => h) (Or.inl ⟨by rfl, ?_⟩) ?_ ?_
    rotate_left
    · intro w'
      go_simp
      try simp only [beq_self_eq_true]
      with_reducible rfl
    rotate_left
    · simp only [Act.put, List.setIfInBounds_toArray, List.set_cons_zero, List.set_cons_succ, i64_w, i32_w]
      rfl
    refine pure_ (i := 12) (N := some 64) (v := ?_) (a' := ?_) #[true, true, true, true, true, true, true, true, true, true, true, true, true, false, false, false, false, false, false, false, false, false, false, false, false, false, false, false, false, false] rfl rfl (by kernel_rfl) (fun _ _ _ h => h) (Or.inl ⟨by rfl, ?_⟩) ?_ ?_
    rotate_left
    · intro w'
      go_simp
      with_reducible rfl
    rotate_left
    · simp only [Act.put, List.setIfInBounds_toArray, List.set_cons_zero, List.set_cons_succ, i64_w, i32_w]
      rfl
    refine pure_ (i := 13) (N := some 65) (v := ?_) (a' := ?_) #[true, true, true, true, true, true, true, true, true, true, true, true, true, true, false, false, false, false, false, false, false, false, false, false, false, false, false, false, false, false] rfl rfl (by kernel_rfl) (fun _ _ _ h => h) (Or.inl ⟨by rfl, ?_⟩) ?_ ?_
    rotate_left
    · intro w'
      go_simp
      with_reducible rfl
    rotate_left
    · simp only [Act.put, List.setIfInBounds_toArray, List.set_cons_zero, List.set_cons_succ, i64_w, i32_w]
      rfl
    refine take_ (i := 14) (N := some 66) (v := ?_) (a' := ?_) #[true, true, true, true, true, true, true, true, true, true, true, true, true, true, true, false, false, false, false, false, false, false, false, false, false, false, false, false, false, false] rfl rfl (by kernel_rfl) (fun _ _ _ h => h) (Or.inl ⟨by rfl, ?_⟩) hH1 ?_ ?_
    rotate_left
    · rintro w' ⟨s0, s1_, s2, s3_⟩
      refine load_yields (x := .tmp 5) ?_ ?_ s0 Try.underlying34 rfl (by kernel_rfl)
      · rfl
      · rfl
    rotate_left
    · simp only [Act.put, List.setIfInBounds_toArray, List.set_cons_zero, List.set_cons_succ, i64_w, i32_w]
      rfl
    refine take_ (i := 15) (N := some 67) (v := ?_) (a' := ?_) #[true, true, true, true, true, true, true, true, true, true, true, true, true, true, true, true, false, false, false, false, false, false, false, false, false, false, false, false, false, false] rfl rfl (by kernel_rfl) (fun _ _ _ h => h) (Or.inl ⟨by rfl, ?_⟩) hH1 ?_ ?_
    rotate_left
    · rintro w' ⟨s0, s1_, s2, s3_⟩
      refine load_yields (x := .tmp 6) ?_ ?_ s1_ Try.underlying36 rfl (by kernel_rfl)
      · rfl
      · rfl
    rotate_left
    · simp only [Act.put, List.setIfInBounds_toArray, List.set_cons_zero, List.set_cons_succ, i64_w, i32_w]
      rfl
    refine take_ (i := 17) (N := some 69) (v := ?_) (a' := ?_) #[true, true, true, true, true, true, true, true, true, true, true, true, true, true, true, true, false, true, false, false, false, false, false, false, false, false, false, false, false, false] rfl rfl (by kernel_rfl) (fun _ _ _ h => h) (Or.inl ⟨by rfl, ?_⟩) hH1 ?_ ?_
    rotate_left
    · rintro w' ⟨s0, s1_, s2, s3_⟩
      refine load_yields (x := .tmp 5) ?_ ?_ s0 Try.underlying34 rfl (by kernel_rfl)
      · rfl
      · rfl
    rotate_left
    · simp only [Act.put, List.setIfInBounds_toArray, List.set_cons_zero, List.set_cons_succ, i64_w, i32_w]
      rfl
    refine take_ (i := 18) (N := some 70) (v := ?_) (a' := ?_) #[true, true, true, true, true, true, true, true, true, true, true, true, true, true, true, true, false, true, true, false, false, false, false, false, false, false, false, false, false, false] rfl rfl (by kernel_rfl) (fun _ _ _ h => h) (Or.inl ⟨by rfl, ?_⟩) hH1 ?_ ?_
    rotate_left
    · rintro w' ⟨s0, s1_, s2, s3_⟩
      refine load_yields (x := .tmp 6) ?_ ?_ s1_ Try.underlying36 rfl (by kernel_rfl)
      · rfl
      · rfl
    rotate_left
    · simp only [Act.put, List.setIfInBounds_toArray, List.set_cons_zero, List.set_cons_succ, i64_w, i32_w]
      rfl
    refine one_ (i := 16) (N := some 68) #[true, true, true, true, true, true, true, true, true, true, true, true, true, true, true, true, true, true, true, false, false, false, false, false, false, false, false, false, false, false] rfl rfl (by kernel_rfl) (by decide) (fun K hK => ?_)
    refine goes_ Try.func11 (by kernel_rfl) rfl #[.agg #[.int .u64 n.a0, .int .u16 n.a1, .int .i64 n.a2, .bool n.a3, .slice s.A4 n.l4.length s.c4, .slice s.A5 n.l5.length s.c5, .slice s.A6 n.l6.length s.c6, .slice s.A7 n.l7.length s.c7, .slice s.A8 n.l8.length s.c8, .slice s.A9 n.l9.length s.c9, .slice s.A10 n.l10.length s.c10, .int .u32 n.a11, .int .i64 n.a12, .int .i64 n.a13], .agg #[.int .i64 j.f0, .int .i64 j.f1, .int .i64 j.f2, .string j.f3, .string j.f4, .int .u64 j.f5, .int .u64 j.f6.f0, .int .u16 j.f6.f1, .int .u64 j.f7.f0, .int .u16 j.f7.f1, .bool j.f8, .int .i64 j.f9, .int .i64 j.f10, .int .i64 j.f11]] (by rfl) rfl rfl (by (try simp only [List.map_toArray, List.map_cons, List.map_nil]); first | done | rfl) ?_
    refine (HSET.out _ HB.out).mono ?_
    rintro e7 w7 ⟨s3, rfl, hn7, hb7⟩
    refine ⟨_, rfl, ?_⟩
    have hS_ := MovS.go hH1 hb7
    have HB := Aside0.mk (below_then HB.out HB.out.size hb7)
    have HA := Aside0.mk hn7
    clear hn7 hb7
    refine hK.out _ _ hS_ (fun hH2 => ?_)
    clear hS_
    clear hK K
    refine norm_ (a' := ?_) ?_ ?_
    rotate_left
    · show Act.put _ (some 68) _ = _
      simp only [Act.put, List.setIfInBounds_toArray, List.set_cons_zero, List.set_cons_succ, i64_w, i32_w]
      rfl
    refine one_ (i := 19) (N := some 71) #[true, true, true, true, true, true, true, true, true, true, true, true, true, true, true, true, true, true, true, true, false, false, false, false, false, false, false, false, false, false] rfl rfl (by kernel_rfl) (by decide) (fun K hK => ?_)
    refine goes_ Try.func12 (by kernel_rfl) rfl #[.agg #[.int .u64 n.a0, .int .u16 n.a1, .int .i64 n.a2, .bool n.a3, .slice s.A4 n.l4.length s.c4, .slice s.A5 n.l5.length s.c5, .slice s.A6 n.l6.length s.c6, .slice s.A7 n.l7.length s.c7, .slice s.A8 n.l8.length s.c8, .slice s.A9 n.l9.length s.c9, .slice s.A10 n.l10.length s.c10, .int .u32 n.a11, .int .i64 n.a12, .int .i64 n.a13], .agg #[.int .i64 j.f0, .int .i64 j.f1, .int .i64 j.f2, .string j.f3, .string j.f4, .int .u64 j.f5, .int .u64 j.f6.f0, .int .u16 j.f6.f1, .int .u64 j.f7.f0, .int .u16 j.f7.f1, .bool j.f8, .int .i64 j.f9, .int .i64 j.f10, .int .i64 j.f11]] (by rfl) rfl rfl (by (try simp only [List.map_toArray, List.map_cons, List.map_nil]); first | done | rfl) ?_
    refine (HRSET.out _ HB.out).mono ?_
    rintro e8 w8 ⟨s4, rfl, hn8, hb8⟩
    refine ⟨_, rfl, ?_⟩
    have hS_ := MovS.go hH2 hb8
    have HB := Aside0.mk (below_then HB.out HB.out.size hb8)
    have HA := Aside0.mk (HA.out.below' hb8)
    have HC := Aside0.mk hn8
    clear hn8 hb8
    refine hK.out _ _ hS_ (fun hH3 => ?_)
    clear hS_
    clear hK K
    refine norm_ (a' := ?_) ?_ ?_
    rotate_left
    · show Act.put _ (some 71) _ = _
      simp only [Act.put, List.setIfInBounds_toArray, List.set_cons_zero, List.set_cons_succ, i64_w, i32_w]
      rfl
    refine one_ (i := 20) (N := some 72) #[true, true, true, true, true, true, true, true, true, true, true, true, true, true, true, true, true, true, true, true, true, false, false, false, false, false, false, false, false, false] rfl rfl (by kernel_rfl) (by decide) (fun K hK => ?_)
    refine goes_ Try.func10 (by kernel_rfl) rfl #[.agg #[.int .u64 ns.a0, .int .u16 ns.a1, .int .i64 ns.a2, .bool ns.a3, .slice s3.A4 ns.l4.length s3.c4, .slice s3.A5 ns.l5.length s3.c5, .slice s3.A6 ns.l6.length s3.c6, .slice s3.A7 ns.l7.length s3.c7, .slice s3.A8 ns.l8.length s3.c8, .slice s3.A9 ns.l9.length s3.c9, .slice s3.A10 ns.l10.length s3.c10, .int .u32 ns.a11, .int .i64 ns.a12, .int .i64 ns.a13], .agg #[.int .u64 ns.a0, .int .u16 ns.a1, .int .i64 ns.a2, .bool ns.a3, .slice s4.A4 ns.l4.length s4.c4, .slice s4.A5 ns.l5.length s4.c5, .slice s4.A6 ns.l6.length s4.c6, .slice s4.A7 ns.l7.length s4.c7, .slice s4.A8 ns.l8.length s4.c8, .slice s4.A9 ns.l9.length s4.c9, .slice s4.A10 ns.l10.length s4.c10, .int .u32 ns.a11, .int .i64 ns.a12, .int .i64 ns.a13]] (by rfl) rfl rfl (by (try simp only [List.map_toArray, List.map_cons, List.map_nil]); first | done | rfl) ?_
    refine (same_ok ns s3 s4 _ HA.out HC.out HNL.out.2.1).mono ?_
    rintro e9 w9 ⟨rfl, hb9⟩
    refine ⟨_, rfl, ?_⟩
    have hS_ := MovS.go hH3 hb9
    have HB := Aside0.mk (below_then HB.out HB.out.size hb9)
    clear hb9 HA HC
    refine hK.out _ _ hS_ (fun hH4 => ?_)
    clear hS_
    clear hK K
    refine norm_ (a' := ?_) ?_ ?_
    rotate_left
    · show Act.put _ (some 72) _ = _
      simp only [Act.put, List.setIfInBounds_toArray, List.set_cons_zero, List.set_cons_succ, i64_w, i32_w]
      rfl
    refine pure_ (i := 21) (N := some 73) (v := ?_) (a' := ?_) #[true, true, true, true, true, true, true, true, true, true, true, true, true, true, true, true, true, true, true, true, true, true, false, false, false, false, false, false, false, false] rfl rfl (by kernel_rfl) (fun _ _ _ h => h) (Or.inl ⟨by rfl, ?_⟩) ?_ ?_
    rotate_left
    · intro w'
      go_simp
      with_reducible rfl
    rotate_left
    · simp only [Act.put, List.setIfInBounds_toArray, List.set_cons_zero, List.set_cons_succ, i64_w, i32_w]
      rfl
    refine pure_ (i := 22) (N := some 74) (v := ?_) (a' := ?_) #[true, true, true, true, true, true, true, true, true, true, true, true, true, true, true, true, true, true, true, true, true, true, true, false, false, false, false, false, false, false] rfl rfl (by kernel_rfl) (fun _ _ _ h => h) (Or.inl ⟨by rfl, ?_⟩) ?_ ?_
    rotate_left
    · intro w'
      go_simp
      with_reducible rfl
    rotate_left
    · simp only [Act.put, List.setIfInBounds_toArray, List.set_cons_zero, List.set_cons_succ, i64_w, i32_w]
      rfl
    refine take_ (i := 23) (N := some 75) (v := ?_) (a' := ?_) #[true, true, true, true, true, true, true, true, true, true, true, true, true, true, true, true, true, true, true, true, true, true, true, true, false, false, false, false, false, false] rfl rfl (by kernel_rfl) (fun _ _ _ h => h) (Or.inl ⟨by rfl, ?_⟩) hH4 ?_ ?_
    rotate_left
    · rintro w' ⟨s0, s1_, s2, s3_⟩
      refine load_yields (x := .tmp 5) ?_ ?_ s0 Try.underlying34 rfl (by kernel_rfl)
      · rfl
      · rfl
    rotate_left
    · simp only [Act.put, List.setIfInBounds_toArray, List.set_cons_zero, List.set_cons_succ, i64_w, i32_w]
      rfl
    refine take_ (i := 25) (N := some 77) (v := ?_) (a' := ?_) #[true, true, true, true, true, true, true, true, true, true, true, true, true, true, true, true, true, true, true, true, true, true, true, true, false, true, false, false, false, false] rfl rfl (by kernel_rfl) (fun _ _ _ h => h) (Or.inl ⟨by rfl, ?_⟩) hH4 ?_ ?_
    rotate_left
    · rintro w' ⟨s0, s1_, s2, s3_⟩
      refine load_yields (x := .tmp 5) ?_ ?_ s0 Try.underlying34 rfl (by kernel_rfl)
      · rfl
      · rfl
    rotate_left
    · simp only [Act.put, List.setIfInBounds_toArray, List.set_cons_zero, List.set_cons_succ, i64_w, i32_w]
      rfl
    refine one_ (i := 24) (N := some 76) #[true, true, true, true, true, true, true, true, true, true, true, true, true, true, true, true, true, true, true, true, true, true, true, true, true, true, false, false, false, false] rfl rfl (by kernel_rfl) (by decide) (fun K hK => ?_)
    refine goes_ Try.func13 (by kernel_rfl) rfl #[.agg #[.int .u64 n.a0, .int .u16 n.a1, .int .i64 n.a2, .bool n.a3, .slice s.A4 n.l4.length s.c4, .slice s.A5 n.l5.length s.c5, .slice s.A6 n.l6.length s.c6, .slice s.A7 n.l7.length s.c7, .slice s.A8 n.l8.length s.c8, .slice s.A9 n.l9.length s.c9, .slice s.A10 n.l10.length s.c10, .int .u32 n.a11, .int .i64 n.a12, .int .i64 n.a13]] (by rfl) rfl rfl (by (try simp only [List.map_toArray, List.map_cons, List.map_nil]); first | done | rfl) ?_
    refine (HLATE.out _ HB.out).mono ?_
    rintro e10 w10 ⟨s5, rfl, hn10, hb10⟩
    refine ⟨_, rfl, ?_⟩
    have hS_ := MovS.go hH4 hb10
    have HB := Aside0.mk (below_then HB.out HB.out.size hb10)
    have HA := Aside0.mk hn10
    clear hn10 hb10
    refine hK.out _ _ hS_ (fun hH5 => ?_)
    clear hS_
    clear hK K
    refine norm_ (a' := ?_) ?_ ?_
    rotate_left
    · show Act.put _ (some 76) _ = _
      simp only [Act.put, List.setIfInBounds_toArray, List.set_cons_zero, List.set_cons_succ, i64_w, i32_w]
      rfl
    refine one_ (i := 26) (N := some 78) #[true, true, true, true, true, true, true, true, true, true, true, true, true, true, true, true, true, true, true, true, true, true, true, true, true, true, true, false, false, false] rfl rfl (by kernel_rfl) (by decide) (fun K hK => ?_)
    refine goes_ Try.func14 (by kernel_rfl) rfl #[.agg #[.int .u64 n.a0, .int .u16 n.a1, .int .i64 n.a2, .bool n.a3, .slice s.A4 n.l4.length s.c4, .slice s.A5 n.l5.length s.c5, .slice s.A6 n.l6.length s.c6, .slice s.A7 n.l7.length s.c7, .slice s.A8 n.l8.length s.c8, .slice s.A9 n.l9.length s.c9, .slice s.A10 n.l10.length s.c10, .int .u32 n.a11, .int .i64 n.a12, .int .i64 n.a13]] (by rfl) rfl rfl (by (try simp only [List.map_toArray, List.map_cons, List.map_nil]); first | done | rfl) ?_
    refine (HRLATE.out _ HB.out).mono ?_
    rintro e11 w11 ⟨s6, rfl, hn11, hb11⟩
    refine ⟨_, rfl, ?_⟩
    have hS_ := MovS.go hH5 hb11
    have HB := Aside0.mk (below_then HB.out HB.out.size hb11)
    have HA := Aside0.mk (HA.out.below' hb11)
    have HC := Aside0.mk hn11
    clear hn11 hb11
    refine hK.out _ _ hS_ (fun hH6 => ?_)
    clear hS_
    clear hK K
    refine norm_ (a' := ?_) ?_ ?_
    rotate_left
    · show Act.put _ (some 78) _ = _
      simp only [Act.put, List.setIfInBounds_toArray, List.set_cons_zero, List.set_cons_succ, i64_w, i32_w]
      rfl
    refine one_ (i := 27) (N := some 79) #[true, true, true, true, true, true, true, true, true, true, true, true, true, true, true, true, true, true, true, true, true, true, true, true, true, true, true, true, false, false] rfl rfl (by kernel_rfl) (by decide) (fun K hK => ?_)
    refine goes_ Try.func10 (by kernel_rfl) rfl #[.agg #[.int .u64 nl.a0, .int .u16 nl.a1, .int .i64 nl.a2, .bool nl.a3, .slice s5.A4 nl.l4.length s5.c4, .slice s5.A5 nl.l5.length s5.c5, .slice s5.A6 nl.l6.length s5.c6, .slice s5.A7 nl.l7.length s5.c7, .slice s5.A8 nl.l8.length s5.c8, .slice s5.A9 nl.l9.length s5.c9, .slice s5.A10 nl.l10.length s5.c10, .int .u32 nl.a11, .int .i64 nl.a12, .int .i64 nl.a13], .agg #[.int .u64 nl.a0, .int .u16 nl.a1, .int .i64 nl.a2, .bool nl.a3, .slice s6.A4 nl.l4.length s6.c4, .slice s6.A5 nl.l5.length s6.c5, .slice s6.A6 nl.l6.length s6.c6, .slice s6.A7 nl.l7.length s6.c7, .slice s6.A8 nl.l8.length s6.c8, .slice s6.A9 nl.l9.length s6.c9, .slice s6.A10 nl.l10.length s6.c10, .int .u32 nl.a11, .int .i64 nl.a12, .int .i64 nl.a13]] (by rfl) rfl rfl (by (try simp only [List.map_toArray, List.map_cons, List.map_nil]); first | done | rfl) ?_
    refine (same_ok nl s5 s6 _ HA.out HC.out HNL.out.2.2.1).mono ?_
    rintro e12 w12 ⟨rfl, hb12⟩
    refine ⟨_, rfl, ?_⟩
    have hS_ := MovS.go hH6 hb12
    have HB := Aside0.mk (below_then HB.out HB.out.size hb12)
    clear hb12 HA HC
    refine hK.out _ _ hS_ (fun hH7 => ?_)
    clear hS_
    clear hK K
    refine norm_ (a' := ?_) ?_ ?_
    rotate_left
    · show Act.put _ (some 79) _ = _
      simp only [Act.put, List.setIfInBounds_toArray, List.set_cons_zero, List.set_cons_succ, i64_w, i32_w]
      rfl
    refine pure_ (i := 28) (N := some 80) (v := ?_) (a' := ?_) #[true, true, true, true, true, true, true, true, true, true, true, true, true, true, true, true, true, true, true, true, true, true, true, true, true, true, true, true, true, false] rfl rfl (by kernel_rfl) (fun _ _ _ h => h) (Or.inl ⟨by rfl, ?_⟩) ?_ ?_
    rotate_left
    · intro w'
      go_simp
      with_reducible rfl
    rotate_left
    · simp only [Act.put, List.setIfInBounds_toArray, List.set_cons_zero, List.set_cons_succ, i64_w, i32_w]
      rfl
    refine pure_ (i := 29) (N := some 17) (v := ?_) (a' := ?_) #[true, true, true, true, true, true, true, true, true, true, true, true, true, true, true, true, true, true, true, true, true, true, true, true, true, true, true, true, true, true] rfl rfl (by kernel_rfl) (fun _ _ _ h => h) (Or.inl ⟨by rfl, ?_⟩) ?_ ?_
    rotate_left
    · intro w'
      go_simp
      with_reducible rfl
    rotate_left
    · simp only [Act.put, List.setIfInBounds_toArray, List.set_cons_zero, List.set_cons_succ, i64_w, i32_w]
      rfl
    refine done_ (by kernel_rfl) ?_
    obtain ⟨v5, hv5⟩ : ∃ v5, w12.drew = v5 := ⟨_, rfl⟩
    have HBE : Aside0 (Below w12.heap.size w12 v5) := ⟨by rw [← hv5]; exact (Below.refl _ _).drew⟩
    have hs1 : MovS g w3.heap.size w4.heap.size #[.int .u64 n.a0, .int .u16 n.a1, .int .i64 n.a2, .bool n.a3, .slice s.A4 n.l4.length s.c4, .slice s.A5 n.l5.length s.c5, .slice s.A6 n.l6.length s.c6, .slice s.A7 n.l7.length s.c7, .slice s.A8 n.l8.length s.c8, .slice s.A9 n.l9.length s.c9, .slice s.A10 n.l10.length s.c10, .int .u32 n.a11, .int .i64 n.a12, .int .i64 n.a13] #[.int .i64 j.f0, .int .i64 j.f1, .int .i64 j.f2, .string j.f3, .string j.f4, .int .u64 j.f5, .int .u64 j.f6.f0, .int .u16 j.f6.f1, .int .u64 j.f7.f0, .int .u16 j.f7.f1, .bool j.f8, .int .i64 j.f9, .int .i64 j.f10, .int .i64 j.f11] #[.int .u64 na.a0, .int .u16 na.a1, .int .i64 na.a2, .bool na.a3, .slice s1.A4 na.l4.length s1.c4, .slice s1.A5 na.l5.length s1.c5, .slice s1.A6 na.l6.length s1.c6, .slice s1.A7 na.l7.length s1.c7, .slice s1.A8 na.l8.length s1.c8, .slice s1.A9 na.l9.length s1.c9, .slice s1.A10 na.l10.length s1.c10, .int .u32 na.a11, .int .i64 na.a12, .int .i64 na.a13] #[.int .u64 na.a0, .int .u16 na.a1, .int .i64 na.a2, .bool na.a3, .slice s2.A4 na.l4.length s2.c4, .slice s2.A5 na.l5.length s2.c5, .slice s2.A6 na.l6.length s2.c6, .slice s2.A7 na.l7.length s2.c7, .slice s2.A8 na.l8.length s2.c8, .slice s2.A9 na.l9.length s2.c9, .slice s2.A10 na.l10.length s2.c10, .int .u32 na.a11, .int .i64 na.a12, .int .i64 na.a13] w12.drew := by rw [hv5]; exact MovS.go hH7 HBE.out
    have HB := Aside0.mk (below_then HB.out HB.out.size HBE.out)
    go_wp2_with fail
    refine start_ (n := 22) (S := MovS g w3.heap.size w4.heap.size #[.int .u64 n.a0, .int .u16 n.a1, .int .i64 n.a2, .bool n.a3, .slice s.A4 n.l4.length s.c4, .slice s.A5 n.l5.length s.c5, .slice s.A6 n.l6.length s.c6, .slice s.A7 n.l7.length s.c7, .slice s.A8 n.l8.length s.c8, .slice s.A9 n.l9.length s.c9, .slice s.A10 n.l10.length s.c10, .int .u32 n.a11, .int .i64 n.a12, .int .i64 n.a13] #[.int .i64 j.f0, .int .i64 j.f1, .int .i64 j.f2, .string j.f3, .string j.f4, .int .u64 j.f5, .int .u64 j.f6.f0, .int .u16 j.f6.f1, .int .u64 j.f7.f0, .int .u16 j.f7.f1, .bool j.f8, .int .i64 j.f9, .int .i64 j.f10, .int .i64 j.f11] #[.int .u64 na.a0, .int .u16 na.a1, .int .i64 na.a2, .bool na.a3, .slice s1.A4 na.l4.length s1.c4, .slice s1.A5 na.l5.length s1.c5, .slice s1.A6 na.l6.length s1.c6, .slice s1.A7 na.l7.length s1.c7, .slice s1.A8 na.l8.length s1.c8, .slice s1.A9 na.l9.length s1.c9, .slice s1.A10 na.l10.length s1.c10, .int .u32 na.a11, .int .i64 na.a12, .int .i64 na.a13] #[.int .u64 na.a0, .int .u16 na.a1, .int .i64 na.a2, .bool na.a3, .slice s2.A4 na.l4.length s2.c4, .slice s2.A5 na.l5.length s2.c5, .slice s2.A6 na.l6.length s2.c6, .slice s2.A7 na.l7.length s2.c7, .slice s2.A8 na.l8.length s2.c8, .slice s2.A9 na.l9.length s2.c9, .slice s2.A10 na.l10.length s2.c10, .int .u32 na.a11, .int .i64 na.a12, .int .i64 na.a13]) (ds := []) #[false, false, false, false, false, false, false, false, false, false, false, false, false, false, false, false, false, false, false, false, false, false] (by kernel_rfl) rfl rfl hs1 (fun hJ => ?_)
    rw [hv5] at hJ ⊢
    clear hs1 hv5
    refine pure_ (i := 0) (N := some 81) (v := ?_) (a' := ?_) #[true, false, false, false, false, false, false, false, false, false, false, false, false, false, false, false, false, false, false, false, false, false] rfl rfl (by kernel_rfl) (fun _ _ _ h => h) (Or.inl ⟨by rfl, ?_⟩) ?_ ?_
    rotate_left
    · intro w'
      go_simp
      with_reducible rfl
    rotate_left
    · simp only [Act.put, List.setIfInBounds_toArray, List.set_cons_zero, List.set_cons_succ, i64_w, i32_w]
      rfl
    refine pure_ (i := 1) (N := some 82) (v := ?_) (a' := ?_) #[true, true, false, false, false, false, false, false, false, false, false, false, false, false, false, false, false, false, false, false, false, false] rfl rfl (by kernel_rfl) (fun _ _ _ h => h) (Or.inl ⟨by rfl, ?_⟩) ?_ ?_
    rotate_left
    · intro w'
      go_simp
      with_reducible rfl
    rotate_left
    · simp only [Act.put, List.setIfInBounds_toArray, List.set_cons_zero, List.set_cons_succ, i64_w, i32_w]
      rfl
    refine take_ (i := 2) (N := some 83) (v := ?_) (a' := ?_) #[true, true, true, false, false, false, false, false, false, false, false, false, false, false, false, false, false, false, false, false, false, false] rfl rfl (by kernel_rfl) (fun _ _ _ h => h) (Or.inl ⟨by rfl, ?_⟩) hJ ?_ ?_
    rotate_left
    · rintro w' ⟨s0, s1_, s2, s3_⟩
      refine load_yields (x := .tmp 5) ?_ ?_ s0 Try.underlying34 rfl (by kernel_rfl)
      · rfl
      · rfl
    rotate_left
    · simp only [Act.put, List.setIfInBounds_toArray, List.set_cons_zero, List.set_cons_succ, i64_w, i32_w]
      rfl
    refine pure_ (i := 3) (N := some 84) (v := ?_) (a' := ?_) #[true, true, true, true, false, false, false, false, false, false, false, false, false, false, false, false, false, false, false, false, false, false] rfl rfl (by kernel_rfl) (fun _ _ _ h => h) (Or.inl ⟨by rfl, ?_⟩) ?_ ?_
    rotate_left
    · intro w'
      go_simp
      with_reducible rfl
    rotate_left
    · simp only [Act.put, List.setIfInBounds_toArray, List.set_cons_zero, List.set_cons_succ, i64_w, i32_w]
      rfl
    refine take_ (i := 4) (N := some 85) (v := ?_) (a' := ?_) #[true, true, true, true, true, false, false, false, false, false, false, false, false, false, false, false, false, false, false, false, false, false] rfl rfl (by kernel_rfl) (fun _ _ _ h => h) (Or.inl ⟨by rfl, ?_⟩) hJ ?_ ?_
    rotate_left
    · rintro w' ⟨s0, s1_, s2, s3_⟩
      have c_ : _ = some _ := (blk_cell s1_ 0).trans rfl
      go_simp
      with_reducible rfl
    rotate_left
    · simp only [Act.put, List.setIfInBounds_toArray, List.set_cons_zero, List.set_cons_succ, i64_w, i32_w]
      rfl
    refine pure_ (i := 5) (N := some 86) (v := ?_) (a' := ?_) #[true, true, true, true, true, true, false, false, false, false, false, false, false, false, false, false, false, false, false, false, false, false] rfl rfl (by kernel_rfl) (fun _ _ _ h => h) (Or.inl ⟨by rfl, ?_⟩) ?_ ?_
    rotate_left
    · intro w'
      go_simp
      with_reducible rfl
    rotate_left
    · simp only [Act.put, List.setIfInBounds_toArray, List.set_cons_zero, List.set_cons_succ, i64_w, i32_w]
      rfl
    refine pure_ (i := 6) (N := some 87) (v := ?_) (a' := ?_) #[true, true, true, true, true, true, true, false, false, false, false, false, false, false, false, false, false, false, false, false, false, false] rfl rfl (by kernel_rfl) (fun _ _ _ h => h) (Or.inl ⟨by rfl, ?_⟩) ?_ ?_
    rotate_left
    · intro w'
      go_simp
      with_reducible rfl
    rotate_left
    · simp only [Act.put, List.setIfInBounds_toArray, List.set_cons_zero, List.set_cons_succ, i64_w, i32_w]
      rfl
    refine pure_ (i := 7) (N := some 88) (v := ?_) (a' := ?_) #[true, true, true, true, true, true, true, true, false, false, false, false, false, false, false, false, false, false, false, false, false, false] rfl rfl (by kernel_rfl) (fun _ _ _ h => h) (Or.inl ⟨by rfl, ?_⟩) ?_ ?_
    rotate_left
    · intro w'
      go_simp
      with_reducible rfl
    rotate_left
    · simp only [Act.put, List.setIfInBounds_toArray, List.set_cons_zero, List.set_cons_succ, i64_w, i32_w]
      rfl
    refine take_ (i := 9) (N := some 90) (v := ?_) (a' := ?_) #[true, true, true, true, true, true, true, true, false, true, false, false, false, false, false, false, false, false, false, false, false, false] rfl rfl (by kernel_rfl) (fun _ _ _ h => h) (Or.inl ⟨by rfl, ?_⟩) hJ ?_ ?_
    rotate_left
    · rintro w' ⟨s0, s1_, s2, s3_⟩
      refine load_yields (x := .tmp 5) ?_ ?_ s0 Try.underlying34 rfl (by kernel_rfl)
      · rfl
      · rfl
    rotate_left
    · simp only [Act.put, List.setIfInBounds_toArray, List.set_cons_zero, List.set_cons_succ, i64_w, i32_w]
      rfl
    refine pure_ (i := 10) (N := some 91) (v := ?_) (a' := ?_) #[true, true, true, true, true, true, true, true, false, true, true, false, false, false, false, false, false, false, false, false, false, false] rfl rfl (by kernel_rfl) (fun _ _ _ h => h) (Or.inl ⟨by rfl, ?_⟩) ?_ ?_
    rotate_left
    · intro w'
      go_simp
      with_reducible rfl
    rotate_left
    · simp only [Act.put, List.setIfInBounds_toArray, List.set_cons_zero, List.set_cons_succ, i64_w, i32_w]
      rfl
    refine take_ (i := 11) (N := some 92) (v := ?_) (a' := ?_) #[true, true, true, true, true, true, true, true, false, true, true, true, false, false, false, false, false, false, false, false, false, false] rfl rfl (by kernel_rfl) (fun _ _ _ h => h) (Or.inl ⟨by rfl, ?_⟩) hJ ?_ ?_
    rotate_left
    · rintro w' ⟨s0, s1_, s2, s3_⟩
      have c_ : _ = some _ := (blk_cell s1_ 0).trans rfl
      go_simp
      with_reducible rfl
    rotate_left
    · simp only [Act.put, List.setIfInBounds_toArray, List.set_cons_zero, List.set_cons_succ, i64_w, i32_w]
      rfl
    refine pure_ (i := 12) (N := some 93) (v := ?_) (a' := ?_) #[true, true, true, true, true, true, true, true, false, true, true, true, true, false, false, false, false, false, false, false, false, false] rfl rfl (by kernel_rfl) (fun _ _ _ h => h) (Or.inl ⟨by rfl, ?_⟩) ?_ ?_
    rotate_left
    · intro w'
      go_simp
      with_reducible rfl
    rotate_left
    · simp only [Act.put, List.setIfInBounds_toArray, List.set_cons_zero, List.set_cons_succ, i64_w, i32_w]
      rfl
    refine pure_ (i := 13) (N := some 94) (v := ?_) (a' := ?_) #[true, true, true, true, true, true, true, true, false, true, true, true, true, true, false, false, false, false, false, false, false, false] rfl rfl (by kernel_rfl) (fun _ _ _ h => h) (Or.inl ⟨by rfl, ?_⟩) ?_ ?_
    rotate_left
    · intro w'
      go_simp
      with_reducible rfl
    rotate_left
    · simp only [Act.put, List.setIfInBounds_toArray, List.set_cons_zero, List.set_cons_succ, i64_w, i32_w]
      rfl
    refine pure_ (i := 14) (N := some 95) (v := ?_) (a' := ?_) #[true, true, true, true, true, true, true, true, false, true, true, true, true, true, true, false, false, false, false, false, false, false] rfl rfl (by kernel_rfl) (fun _ _ _ h => h) (Or.inl ⟨by rfl, ?_⟩) ?_ ?_
    rotate_left
    · intro w'
      go_simp
      with_reducible rfl
    rotate_left
    · simp only [Act.put, List.setIfInBounds_toArray, List.set_cons_zero, List.set_cons_succ, i64_w, i32_w]
      rfl
    refine one_ (i := 8) (N := some 89) #[true, true, true, true, true, true, true, true, true, true, true, true, true, true, true, false, false, false, false, false, false, false] rfl rfl (by kernel_rfl) (by decide) (fun K hK => ?_)
    refine goes_ Try.func15 (by kernel_rfl) rfl #[.agg #[.int .u64 n.a0, .int .u16 n.a1, .int .i64 n.a2, .bool n.a3, .slice s.A4 n.l4.length s.c4, .slice s.A5 n.l5.length s.c5, .slice s.A6 n.l6.length s.c6, .slice s.A7 n.l7.length s.c7, .slice s.A8 n.l8.length s.c8, .slice s.A9 n.l9.length s.c9, .slice s.A10 n.l10.length s.c10, .int .u32 n.a11, .int .i64 n.a12, .int .i64 n.a13], .int .i64 j.f0, .bool has, .string val, .int .i64 er] (by rfl) rfl rfl (by (try simp only [List.map_toArray, List.map_cons, List.map_nil]); first | done | rfl) ?_
    refine (HSETT.out _ HB.out).mono ?_
    rintro e13 w13 ⟨s7, rfl, hn13, hb13⟩
    refine ⟨_, rfl, ?_⟩
    have hS_ := MovS.go hJ hb13
    have HB := Aside0.mk (below_then HB.out HB.out.size hb13)
    have HA := Aside0.mk hn13
    clear hn13 hb13
    refine hK.out _ _ hS_ (fun hJ1 => ?_)
    clear hS_
    clear hK K
    refine norm_ (a' := ?_) ?_ ?_
    rotate_left
    · show Act.put _ (some 89) _ = _
      simp only [Act.put, List.setIfInBounds_toArray, List.set_cons_zero, List.set_cons_succ, i64_w, i32_w]
      rfl
    refine one_ (i := 15) (N := some 96) #[true, true, true, true, true, true, true, true, true, true, true, true, true, true, true, true, false, false, false, false, false, false] rfl rfl (by kernel_rfl) (by decide) (fun K hK => ?_)
    refine goes_ Try.func16 (by kernel_rfl) rfl #[.agg #[.int .u64 n.a0, .int .u16 n.a1, .int .i64 n.a2, .bool n.a3, .slice s.A4 n.l4.length s.c4, .slice s.A5 n.l5.length s.c5, .slice s.A6 n.l6.length s.c6, .slice s.A7 n.l7.length s.c7, .slice s.A8 n.l8.length s.c8, .slice s.A9 n.l9.length s.c9, .slice s.A10 n.l10.length s.c10, .int .u32 n.a11, .int .i64 n.a12, .int .i64 n.a13], .int .i64 j.f0, .bool has, .string val, .int .i64 er] (by rfl) rfl rfl (by (try simp only [List.map_toArray, List.map_cons, List.map_nil]); first | done | rfl) ?_
    refine (HRSETT.out _ HB.out).mono ?_
    rintro e14 w14 ⟨s8, rfl, hn14, hb14⟩
    refine ⟨_, rfl, ?_⟩
    have hS_ := MovS.go hJ1 hb14
    have HB := Aside0.mk (below_then HB.out HB.out.size hb14)
    have HA := Aside0.mk (HA.out.below' hb14)
    have HC := Aside0.mk hn14
    clear hn14 hb14
    refine hK.out _ _ hS_ (fun hJ2 => ?_)
    clear hS_
    clear hK K
    refine norm_ (a' := ?_) ?_ ?_
    rotate_left
    · show Act.put _ (some 96) _ = _
      simp only [Act.put, List.setIfInBounds_toArray, List.set_cons_zero, List.set_cons_succ, i64_w, i32_w]
      rfl
    refine one_ (i := 16) (N := some 97) #[true, true, true, true, true, true, true, true, true, true, true, true, true, true, true, true, true, false, false, false, false, false] rfl rfl (by kernel_rfl) (by decide) (fun K hK => ?_)
    refine goes_ Try.func10 (by kernel_rfl) rfl #[.agg #[.int .u64 nt.a0, .int .u16 nt.a1, .int .i64 nt.a2, .bool nt.a3, .slice s7.A4 nt.l4.length s7.c4, .slice s7.A5 nt.l5.length s7.c5, .slice s7.A6 nt.l6.length s7.c6, .slice s7.A7 nt.l7.length s7.c7, .slice s7.A8 nt.l8.length s7.c8, .slice s7.A9 nt.l9.length s7.c9, .slice s7.A10 nt.l10.length s7.c10, .int .u32 nt.a11, .int .i64 nt.a12, .int .i64 nt.a13], .agg #[.int .u64 nt.a0, .int .u16 nt.a1, .int .i64 nt.a2, .bool nt.a3, .slice s8.A4 nt.l4.length s8.c4, .slice s8.A5 nt.l5.length s8.c5, .slice s8.A6 nt.l6.length s8.c6, .slice s8.A7 nt.l7.length s8.c7, .slice s8.A8 nt.l8.length s8.c8, .slice s8.A9 nt.l9.length s8.c9, .slice s8.A10 nt.l10.length s8.c10, .int .u32 nt.a11, .int .i64 nt.a12, .int .i64 nt.a13]] (by rfl) rfl rfl (by (try simp only [List.map_toArray, List.map_cons, List.map_nil]); first | done | rfl) ?_
    refine (same_ok nt s7 s8 _ HA.out HC.out HNL.out.2.2.2).mono ?_
    rintro e15 w15 ⟨rfl, hb15⟩
    refine ⟨_, rfl, ?_⟩
    have hS_ := MovS.go hJ2 hb15
    have HB := Aside0.mk (below_then HB.out HB.out.size hb15)
    clear hb15 HA HC
    refine hK.out _ _ hS_ (fun hJ3 => ?_)
    clear hS_
    clear hK K
    refine norm_ (a' := ?_) ?_ ?_
    rotate_left
    · show Act.put _ (some 97) _ = _
      simp only [Act.put, List.setIfInBounds_toArray, List.set_cons_zero, List.set_cons_succ, i64_w, i32_w]
      rfl
    refine pure_ (i := 17) (N := some 98) (v := ?_) (a' := ?_) #[true, true, true, true, true, true, true, true, true, true, true, true, true, true, true, true, true, true, false, false, false, false] rfl rfl (by kernel_rfl) (fun _ _ _ h => h) (Or.inl ⟨by rfl, ?_⟩) ?_ ?_
    rotate_left
    · intro w'
      go_simp
      with_reducible rfl
    rotate_left
    · simp only [Act.put, List.setIfInBounds_toArray, List.set_cons_zero, List.set_cons_succ, i64_w, i32_w]
      rfl
    refine pure_ (i := 18) (N := some 99) (v := ?_) (a' := ?_) #[true, true, true, true, true, true, true, true, true, true, true, true, true, true, true, true, true, true, true, false, false, false] rfl rfl (by kernel_rfl) (fun _ _ _ h => h) (Or.inl ⟨by rfl, ?_⟩) ?_ ?_
    rotate_left
    · intro w'
      go_simp
      with_reducible rfl
    rotate_left
    · simp only [Act.put, List.setIfInBounds_toArray, List.set_cons_zero, List.set_cons_succ, i64_w, i32_w]
      rfl
    refine one_ (i := 19) (N := some 100) #[true, true, true, true, true, true, true, true, true, true, true, true, true, true, true, true, true, true, true, true, false, false] rfl rfl (by kernel_rfl) (by decide) (fun K hK => ?_)
    refine goes_ Try.func7 (by kernel_rfl) rfl #[] (by rfl) rfl rfl (by (try simp only [List.map_toArray, List.map_cons, List.map_nil]); first | done | rfl) ?_
    refine (awake_ok _).mono ?_
    rintro e16 w16 ⟨rfl, hb16⟩
    refine ⟨_, rfl, ?_⟩
    have hS_ := MovS.go hJ3 hb16
    have HB := Aside0.mk (below_then HB.out HB.out.size hb16)
    clear hb16
    refine hK.out _ _ hS_ (fun hJ4 => ?_)
    clear hS_
    clear hK K
    refine norm_ (a' := ?_) ?_ ?_
    rotate_left
    · show Act.put _ (some 100) _ = _
      simp only [Act.put, List.setIfInBounds_toArray, List.set_cons_zero, List.set_cons_succ, i64_w, i32_w]
      rfl
    refine pure_ (i := 20) (N := some 101) (v := ?_) (a' := ?_) #[true, true, true, true, true, true, true, true, true, true, true, true, true, true, true, true, true, true, true, true, true, false] rfl rfl (by kernel_rfl) (fun _ _ _ h => h) (Or.inl ⟨by rfl, ?_⟩) ?_ ?_
    rotate_left
    · intro w'
      go_simp
      with_reducible rfl
    rotate_left
    · simp only [Act.put, List.setIfInBounds_toArray, List.set_cons_zero, List.set_cons_succ, i64_w, i32_w]
      rfl
    refine pure_ (i := 21) (N := some 10) (v := ?_) (a' := ?_) #[true, true, true, true, true, true, true, true, true, true, true, true, true, true, true, true, true, true, true, true, true, true] rfl rfl (by kernel_rfl) (fun _ _ _ h => h) (Or.inl ⟨by rfl, ?_⟩) ?_ ?_
    rotate_left
    · intro w'
      go_simp
      with_reducible rfl
    rotate_left
    · simp only [Act.put, List.setIfInBounds_toArray, List.set_cons_zero, List.set_cons_succ, i64_w, i32_w]
      rfl
    refine done_ (by kernel_rfl) ?_
    go_wp2_with fail
    go_ret
    exact ⟨rfl, HB.out⟩
-- axioms: moves_calls
end
end Go.Proofs.Ytcnkmajengephaa.H
