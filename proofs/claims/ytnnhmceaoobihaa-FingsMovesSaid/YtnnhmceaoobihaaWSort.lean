/- Mine. slices.SortFunc at a row of one's own (Kd.R), of elements of a struct type whose cells are all plain: the shelf's contract, in the printer's words. -/
import Derived.Test.YtnnhmceaoobihaaWMore
import Derived.Shelf.SlSortCmp.NoneTotal
namespace Go.Proofs.YtnnhmceaoobihaaW.PrintSort
open Go Go.Proofs Go.RowKit Go.Lib Go.Sort Go.Shelf Go.Proofs.YtnnhmceaoobihaaW.PrintWords
variable {P : Program} {ρ : Ren} {α : Type} [Inhabited α]

theorem flatK_slice (enc : α → List Value) (k : Nat) (hk : ∀ x, (enc x).length = k) (D : Array α) (j : Nat) (hj : j < D.size) : ((flatK enc k D).toList.drop (j * k)).take k = enc D[j]! := by
  apply List.ext_getElem?
  intro t
  by_cases ht : t < k
  · rw [List.getElem?_take, if_pos ht, List.getElem?_drop]
    have hlt : j * k + t < D.size * k := by
      have := Nat.mul_le_mul_right k (show j + 1 ≤ D.size from hj)
      rw [Nat.add_mul, Nat.one_mul] at this
      omega
    have e1 : (j * k + t) / k = j := by
      rw [Nat.mul_comm, Nat.mul_add_div (by omega), Nat.div_eq_of_lt ht, Nat.add_zero]
    have e2 : (j * k + t) % k = t := by
      rw [Nat.mul_comm, Nat.mul_add_mod, Nat.mod_eq_of_lt ht]
    have h := get_flatK enc k D (j * k + t) hlt
    rw [e1, e2] at h
    have h1 : (flatK enc k D).toList[j * k + t]? = some (flatK enc k D)[j * k + t]! := by
      rw [Array.getElem?_toList, getElem!_pos _ _ (by rw [size_flatK]; exact hlt), Array.getElem?_eq_getElem]
    rw [h1, h, getElem!_pos _ _ (by rw [hk]; exact ht), List.getElem?_eq_getElem]
  · rw [List.getElem?_eq_none (by rw [List.length_take]; omega), List.getElem?_eq_none (by rw [hk]; omega)]

theorem flatK_of_reps {R : α → List Value → Prop} (enc : α → List Value) (k : Nat) (hk : ∀ x, (enc x).length = k) (xs : List α) (inner : List Value) (hr : Reps R k xs inner) (he : ∀ x cs, R x cs → cs = enc x) : inner = (flatK enc k xs.toArray).toList := by
  apply List.ext_getElem?
  intro t
  have hsz : (flatK enc k xs.toArray).toList.length = xs.length * k := by simp
  by_cases ht : t < xs.length * k
  · have hk0 : 0 < k := by
      rcases Nat.eq_zero_or_pos k with h | h
      · rw [h] at ht; omega
      · exact h
    have hj : t / k < xs.length := Nat.div_lt_of_lt_mul (by rw [Nat.mul_comm]; exact ht)
    have h := he _ _ (hr.2 (t / k) _ (List.getElem?_eq_getElem hj))
    have hd : t / k * k + t % k = t := by rw [Nat.mul_comm]; exact Nat.div_add_mod t k
    have hm := Nat.mod_lt t hk0
    have h1 : inner[t]? = (enc xs[t / k])[t % k]? := by
      rw [← h, List.getElem?_take, if_pos hm, List.getElem?_drop, hd]
    have h2 := get_flatK enc k xs.toArray t (by simpa using ht)
    have h3 : (flatK enc k xs.toArray).toList[t]? = some (flatK enc k xs.toArray)[t]! := by
      rw [Array.getElem?_toList, getElem!_pos _ _ (by rw [size_flatK]; simpa using ht), Array.getElem?_eq_getElem]
    have h4 : xs.toArray[t / k]! = xs[t / k] := by rw [getElem!_pos _ _ (by simpa using hj)]; simp
    rw [h1, h3, h2, h4, List.getElem?_eq_getElem (by rw [hk]; exact hm), getElem!_pos _ _ (by rw [hk]; exact hm)]
  · rw [List.getElem?_eq_none (by rw [hr.1]; omega), List.getElem?_eq_none (by rw [hsz]; omega)]

theorem block_sortWorld (enc : α → List Value) (k : Nat) (w : World) (g n : Nat) (D : Array α) (os : Array Obj) {cur : Array Value} {e : TypeId} {fz : Nat × Nat} (hg : w.heap[g]? = some (.cells cur e fz)) :
    (sortWorldK enc k w g 0 n D os).heap[g]? = some (.cells (putCells id 0 (flatK enc k D) cur) e fz) := by
  have hlt : g < w.heap.size := (Array.getElem?_eq_some_iff.1 hg).1
  unfold sortWorldK
  rw [heap_grow_old _ _ (by rw [size_putRowK]; exact hlt)]
  unfold putRowK putRow mapBlock
  show (w.heap.modify g _)[g]? = _
  rw [Array.getElem?_modify, if_pos rfl, hg]
  rfl

theorem other_sortWorld (enc : α → List Value) (k : Nat) (w : World) (g n : Nat) (D : Array α) (os : Array Obj) (j : Nat) (hj : j < w.heap.size) (hne : j ≠ g) :
    (sortWorldK enc k w g 0 n D os).heap[j]? = w.heap[j]? := by
  unfold sortWorldK
  rw [heap_grow_old _ _ (by rw [size_putRowK]; exact hj)]
  unfold putRowK putRow mapBlock
  show (w.heap.modify g _)[j]? = _
  rw [Array.getElem?_modify, if_neg (fun h => hne h.symm)]

theorem grown_sortWorld (enc : α → List Value) (k : Nat) (w : World) (g n : Nat) (D : Array α) (os : Array Obj) : w.grownBy (sortWorldK enc k w g 0 n D os) (some g) :=
  ⟨rfl, rfl, rfl, size_sortWorldK_c enc k w g 0 n D os, fun j hj hne => other_sortWorld enc k w g n D os j hj (fun h => hne (by rw [h]))⟩

theorem putCells_take (D cur : Array Value) (h : D.size ≤ cur.size) : (putCells id 0 D cur).toList.take D.size = D.toList := by
  apply List.ext_getElem?
  intro t
  by_cases ht : t < D.size
  · rw [List.getElem?_take, if_pos ht, Array.getElem?_toList, Array.getElem?_toList]
    unfold putCells
    rw [Array.getElem?_mapIdx, Array.getElem?_eq_getElem (show t < cur.size by omega), Option.map_some, if_pos ⟨Nat.zero_le _, by omega⟩]
    rw [Array.getElem?_eq_getElem ht, Nat.sub_zero, getElem!_pos D t ht]
    rfl
  · rw [List.getElem?_eq_none (by rw [List.length_take]; omega), List.getElem?_eq_none (by simpa using ht)]

/-- What slices.SortFunc makes of a list. -/
def sorted (cf : α → α → Int) (xs : List α) : List α := (pdq (ltOf cf) xs.toArray 0 xs.toArray.size (Lib.bitLen xs.toArray.size) true true).toList

theorem sorted_spec (cf : α → α → Int) (hO : SWO (ltOf cf)) (xs : List α) : PermIn 0 xs.toArray.size xs.toArray (sorted cf xs).toArray ∧ SortedIn (ltOf cf) 0 xs.toArray.size (sorted cf xs).toArray := by
  have h := pdq_sorts (ltOf cf) hO xs.toArray 0 xs.toArray.size (Lib.bitLen xs.toArray.size) true true (Nat.zero_le _) (Nat.le_refl _) (Or.inl rfl)
  unfold sorted
  rw [Array.toArray_toList]
  exact h

theorem sorted_length (cf : α → α → Int) (hO : SWO (ltOf cf)) (xs : List α) : (sorted cf xs).length = xs.length := by
  have h := (sorted_spec cf hO xs).1.1
  simpa using h

theorem sorted_nil (cf : α → α → Int) (hO : SWO (ltOf cf)) : sorted cf ([] : List α) = [] := List.eq_nil_of_length_eq_zero (sorted_length cf hO [])

theorem sort_calls (L : SlLaysF0.n6 P ρ) (d : Kd α) (e : Nat) (k : Nat) (hdk : d.sz = k) (aE : ∀ w, (isAgg (ρ.t 24)).run P w = .ok true w) (zE : ∀ w, (Go.sizeOf (ρ.t 24)).run P w = .ok k w)
    (enc : α → List Value) (hk : ∀ x, (enc x).length = k) (h1 : ∀ x, ∀ v ∈ enc x, v.oneCell' = true)
    (he : ∀ {w : World} {b : Nat} {ok : Nat → Prop} {x : α} {cs : List Value}, d.M w b ok x cs → cs = enc x) (hm : ∀ (w : World) (b : Nat) (ok : Nat → Prop) (x : α), d.M w b ok x (enc x))
    (cf : α → α → Int) (hO : SWO (ltOf cf)) (g : Nat) (cb : Array Value) (eg : ∀ args w, (callFunc g args).run P w = .ok (.enter g args) w)
    (w : World) (base : Nat) (ok : Nat → Prop) (v : Value) (xs : List α) (h : Kd.R d e w base ok v xs) (hsz : xs.length < 4611686018427387904)
    (hcmp : ∀ (W : World) (x y : α), w.grownBy W v.ownBlock → Calls P g (#[.agg (enc x).toArray, .agg (enc y).toArray] ++ cb) W fun e w' => e = .returned (.int .i64 (cf x y)) ∧ ∃ q os', w' = grow (W.drewN q) os') :
    Calls P (ρ.f 6) #[v, .func (.func g) #[] cb] w fun e' w' => e' = .returned (.tuple #[]) ∧ Kd.R d e w' base ok v (sorted cf xs) ∧ w.grownBy w' v.ownBlock := by
  obtain ⟨h0, inner, ho, hr⟩ := h
  subst hdk
  rcases ho.2 with ⟨rfl, hn⟩ | ⟨b, cap, cur, rfl, hb, hh, hc1, hc2, hc3, hc4⟩
  · have hx : xs = [] := List.eq_nil_of_length_eq_zero hn
    subst hx
    refine (AnyF.slices_SortFunc_none L none 0 _ w).mono ?_
    rintro e' w' ⟨rfl, rfl⟩
    refine ⟨rfl, ?_, rfl, rfl, rfl, Nat.le_refl _, fun _ _ _ => rfl⟩
    rw [sorted_nil cf hO]
    exact Kd.R_nil _ _ _ _ _
  · have hinner := flatK_of_reps enc d.sz hk xs inner hr (fun x cs h => he h)
    have hlt : b < w.heap.size := (Array.getElem?_eq_some_iff.1 hh).1
    have hH : HoldsK enc d.sz w b 0 xs.toArray := by
      intro t ht
      rw [size_flatK] at ht
      have htl : t < inner.length := by rw [ho.1]; simpa using ht
      have hcell : cur[t]? = inner[t]? := by
        rw [← hc4, List.getElem?_take, if_pos (by rw [← ho.1]; exact htl), Array.getElem?_toList]
      constructor
      · rw [Nat.zero_add]
        unfold World.cell?
        rw [hh]
        show cur[t]? = _
        rw [hcell, hinner, Array.getElem?_toList, Array.getElem?_eq_getElem (by rw [size_flatK]; exact ht), ← getElem!_pos]
        rfl
      · unfold World.frozen?
        rw [hh]
        simp
    have hs := AnyQ.slices_SortFunc_eq L d.sz aE zE enc hk h1 cf hO g cb b 0 cap xs.toArray w eg (fun m os dk hdk x y => hcmp _ x y (grown_sortWorld enc d.sz w b m dk os)) hH hlt (by simpa using hsz)
    have hlen : xs.toArray.size = xs.length := by simp
    rw [hlen] at hs
    refine hs.mono ?_
    rintro e' w' ⟨rfl, n, os, rfl⟩
    have hD : (pdq (ltOf cf) xs.toArray 0 xs.length (Lib.bitLen xs.length) true true) = (sorted cf xs).toArray := by
      unfold sorted
      rw [Array.toArray_toList, hlen]
    rw [hD]
    have hsl := sorted_length cf hO xs
    have hfs : (flatK enc d.sz (sorted cf xs).toArray).size = xs.length * d.sz := by rw [size_flatK]; simp [hsl]
    refine ⟨rfl, ⟨h0, (flatK enc d.sz (sorted cf xs).toArray).toList, ⟨?_, .inr ⟨b, cap, putCells id 0 (flatK enc d.sz (sorted cf xs).toArray) cur, ?_, hb, block_sortWorld enc d.sz w b n _ os hh, by rw [hsl]; exact hc1, hc2, ?_, ?_⟩⟩, ?_, ?_⟩, grown_sortWorld enc d.sz w b n _ os⟩
    · rw [Array.length_toList, hfs, hsl]
    · rw [hsl]
    · unfold putCells; rw [Array.size_mapIdx]; exact hc3
    · rw [hsl, ← hfs]
      exact putCells_take _ _ (by rw [hfs, hc3]; exact Nat.mul_le_mul_right _ hc1)
    · rw [Array.length_toList, hfs, hsl]
    · intro j p hj
      have hjl := (List.getElem?_eq_some_iff.1 hj).1
      have hsl2 := flatK_slice enc d.sz hk (sorted cf xs).toArray j (by simpa using hjl)
      rw [hsl2]
      have : (sorted cf xs).toArray[j]! = p := by
        rw [getElem!_pos _ _ (by simpa using hjl)]
        simpa using (List.getElem?_eq_some_iff.1 hj).2
      rw [this]
      exact hm _ _ _ _

end Go.Proofs.YtnnhmceaoobihaaW.PrintSort

