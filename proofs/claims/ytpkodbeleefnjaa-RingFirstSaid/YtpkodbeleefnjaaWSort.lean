/- Mine. slices.SortFunc at a row of one's own (Kd.R), of elements of a struct type whose cells are all plain: the shelf's contract, in the printer's words. -/
import Derived.Test.YtpkodbeleefnjaaWMore
import Derived.Shelf.SlSortCmp.NoneTotal
namespace Go.Proofs.YtpkodbeleefnjaaW.PrintSort
open Go Go.Proofs Go.RowKit Go.Lib Go.Sort Go.Shelf Go.Proofs.YtpkodbeleefnjaaW.PrintWords
variable {P : Program} {ρ : Ren} {α : Type} [Inhabited α]







/-- What slices.SortFunc makes of a list. -/
def sorted (cf : α → α → Int) (xs : List α) : List α := (pdq (ltOf cf) xs.toArray 0 xs.toArray.size (Lib.bitLen xs.toArray.size) true true).toList

theorem sorted_spec (cf : α → α → Int) (hO : SWO (ltOf cf)) (xs : List α) : PermIn 0 xs.toArray.size xs.toArray (sorted cf xs).toArray ∧ SortedIn (ltOf cf) 0 xs.toArray.size (sorted cf xs).toArray := by
  have h := pdq_sorts (ltOf cf) hO xs.toArray 0 xs.toArray.size (Lib.bitLen xs.toArray.size) true true (Nat.zero_le _) (Nat.le_refl _) (Or.inl rfl)
  unfold sorted
  rw [Array.toArray_toList]
  exact h

theorem sorted_length (cf : α → α → Int) (hO : SWO (ltOf cf)) (xs : List α) : (sorted cf xs).length = xs.length := by
  have h := (sorted_spec cf hO xs).1.1
  simpa using h

theorem sorted_nil (cf : α → α → Int) (hO : SWO (ltOf cf)) : sorted cf ([] : List α) = [] := List.eq_nil_of_length_eq_zero (sorted_length cf hO [])


end Go.Proofs.YtpkodbeleefnjaaW.PrintSort

