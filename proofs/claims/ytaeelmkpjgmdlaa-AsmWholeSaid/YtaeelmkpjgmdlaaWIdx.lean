/- Mine. Plain words on lists: the first place at which a test holds. -/
import Derived.Test.YtaeelmkpjgmdlaaWMore
namespace Go.Proofs.YtaeelmkpjgmdlaaW.PrintIdx

/-- The first place at which p holds; -1: there is none. -/
def firstIdx {α : Type} (p : α → Bool) (l : List α) : Int := match l.findIdx? p with | some i => (i : Int) | none => -1

theorem getD_at {α : Type} {l : List α} {i : Nat} {d : α} (h : i < l.length) : l.getD i d = l[i] := by
  rw [List.getD_eq_getElem?_getD, List.getElem?_eq_getElem h]; rfl

theorem firstIdx_hit {α : Type} (p : α → Bool) (l : List α) (d : α) (k : Nat) (hk : k < l.length) (hp : p (l.getD k d) = true) (ho : ∀ j, j < k → p (l.getD j d) = false) : firstIdx p l = k := by
  unfold firstIdx
  have : l.findIdx? p = some k := by
    rw [List.findIdx?_eq_some_iff_getElem]
    refine ⟨hk, by rw [← getD_at (d := d) hk]; exact hp, fun j hj => ?_⟩
    have := ho j hj
    rw [getD_at (by omega)] at this
    simp [this]
  rw [this]

theorem firstIdx_miss {α : Type} (p : α → Bool) (l : List α) (d : α) (ho : ∀ j, j < l.length → p (l.getD j d) = false) : firstIdx p l = -1 := by
  unfold firstIdx
  have : l.findIdx? p = none := by
    rw [List.findIdx?_eq_none_iff]
    intro x hx
    obtain ⟨j, hj, rfl⟩ := List.getElem_of_mem hx
    have := ho j hj
    rwa [getD_at hj] at this
  rw [this]

theorem firstIdx_range {α : Type} (p : α → Bool) (l : List α) : -1 ≤ firstIdx p l ∧ firstIdx p l < l.length ∨ firstIdx p l = -1 := by
  unfold firstIdx
  cases h : l.findIdx? p with
  | none => exact .inr rfl
  | some i =>
    left
    rw [List.findIdx?_eq_some_iff_getElem] at h
    obtain ⟨h, _⟩ := h
    exact ⟨by show (-1 : Int) ≤ (i : Int); omega, by show (i : Int) < _; omega⟩

theorem firstIdx_any {α : Type} (p : α → Bool) (l : List α) : decide (0 ≤ firstIdx p l) = l.any p := by
  unfold firstIdx
  cases h : l.findIdx? p with
  | none =>
    rw [List.findIdx?_eq_none_iff] at h
    symm
    show l.any p = decide ((0 : Int) ≤ -1)
    rw [show decide ((0 : Int) ≤ -1) = false from rfl, List.any_eq_false]
    intro x hx
    rw [h x hx]; simp
  | some i =>
    rw [List.findIdx?_eq_some_iff_getElem] at h
    obtain ⟨h1, h2, _⟩ := h
    symm
    show l.any p = decide ((0 : Int) ≤ (i : Int))
    rw [decide_eq_true (by omega), List.any_eq_true]
    exact ⟨l[i], List.getElem_mem h1, h2⟩

#print axioms firstIdx_hit
#print axioms firstIdx_any
end Go.Proofs.YtaeelmkpjgmdlaaW.PrintIdx
