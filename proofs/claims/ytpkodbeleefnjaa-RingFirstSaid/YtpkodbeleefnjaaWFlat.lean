/- Mine. A row of one's own (Kd.R) whose elements' cells are a function of the element: its cells are the elements' cells, one behind the other. -/
import Derived.Test.YtpkodbeleefnjaaWMore
namespace Go.Proofs.YtpkodbeleefnjaaW.PrintFlat
open Go Go.Proofs Go.RowKit Go.Lib Go.Proofs.YtpkodbeleefnjaaW.PrintWords
variable {α : Type}

theorem flat_len (enc : α → List Value) (k : Nat) (hk : ∀ x, (enc x).length = k) : ∀ xs : List α, (xs.flatMap enc).length = xs.length * k
  | [] => by simp
  | x :: r => by rw [List.flatMap_cons, List.length_append, hk, flat_len enc k hk r, List.length_cons, Nat.add_mul, Nat.one_mul, Nat.add_comm]


theorem flat_drop (enc : α → List Value) (k : Nat) (hk : ∀ x, (enc x).length = k) : ∀ (xs : List α) (i : Nat), (xs.flatMap enc).drop (i * k) = (xs.drop i).flatMap enc
  | [], i => by simp
  | x :: r, 0 => by simp
  | x :: r, i + 1 => by
    rw [List.flatMap_cons, List.drop_succ_cons, Nat.add_mul, Nat.one_mul, Nat.add_comm, List.drop_append, List.drop_of_length_le (by rw [hk]; omega), hk, Nat.add_sub_cancel_left, flat_drop enc k hk r i, List.nil_append]


theorem reps_of_flat {R : α → List Value → Prop} (enc : α → List Value) (k : Nat) (hk : ∀ x, (enc x).length = k) (xs : List α) (hm : ∀ x ∈ xs, R x (enc x)) : Reps R k xs (xs.flatMap enc) := by
  refine ⟨flat_len enc k hk xs, fun j p hj => ?_⟩
  have hlt := (List.getElem?_eq_some_iff.1 hj).1
  rw [flat_drop enc k hk]
  have h1 : xs.drop j = p :: xs.drop (j + 1) := by
    rw [List.drop_eq_getElem_cons hlt, (List.getElem?_eq_some_iff.1 hj).2]
  rw [h1, List.flatMap_cons, List.take_append_of_le_length (by rw [hk]; exact Nat.le_refl _), List.take_of_length_le (by rw [hk]; exact Nat.le_refl _)]
  exact hm p (List.mem_of_getElem? hj)



end Go.Proofs.YtpkodbeleefnjaaW.PrintFlat

