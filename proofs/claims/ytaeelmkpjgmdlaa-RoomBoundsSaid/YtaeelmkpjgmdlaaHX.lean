/- Mine. Chapter 22, by hand: a part more in one of a table's messages. -/
import Derived.Test.YtaeelmkpjgmdlaaHV
namespace Go.Proofs.Ytaeelmkpjgmdlaa.H
open Go Go.Proofs Go.RowKit Go.Lib Go.Proofs.Ytaeelmkpjgmdlaa.P Go.Proofs.YtaeelmkpjgmdlaaW.PrintWords Go.Proofs.YtaeelmkpjgmdlaaW.PrintLast Go.Proofs.YtaeelmkpjgmdlaaW.PrintMore Go.Proofs.YtaeelmkpjgmdlaaW.PrintFlat
set_option linter.unusedVariables false
set_option linter.unusedSimpArgs false
theorem row_cells {T : Nat} {W : World} {ok : Nat → Prop} {v : Value} {xs ys : List OB} (h : k7.R T W 0 ok v xs) (he : xs.map cellsB = ys.map cellsB) : k7.R T W 0 ok v ys := by
  have hl : xs.length = ys.length := by have := congrArg List.length he; simpa using this
  obtain ⟨h0, inner, ho, hr⟩ := h
  refine ⟨h0, inner, by rw [← hl]; exact ho, ?_⟩
  refine ⟨by rw [← hl]; exact hr.1, fun j p hj => ?_⟩
  have hj2 : (ys.map cellsB)[j]? = some (cellsB p) := by rw [List.getElem?_map, hj]; rfl
  rw [← he, List.getElem?_map] at hj2
  obtain ⟨x, hx, hxc⟩ := Option.map_eq_some_iff.1 hj2
  have h1 := hr.2 j x hx
  obtain ⟨a1, a2, a3⟩ := h1
  exact ⟨a1.trans hxc, a2, a3⟩
/-- A message with other parts, and more blocks. -/
def upd (o : OB) (ps : Room.Pt) (a b : Nat) : OB := ⟨{ o.a with ps := ps }, o.p, fun q => o.own q ∨ a ≤ q ∧ q < b⟩
theorem TS.set {own : Nat → Prop} {t : Nat} {L : Room.Lim} {os : List OB} {W W' : World} {k : Nat} {ps : Room.Pt} (h : TS own t L os W) (hk : k < os.length) (hf : Fr os[k].own W W')
    (hPA : PA (fun q => os[k].own q ∨ W.heap.size ≤ q ∧ q < W'.heap.size) os[k].p os[k].a.cnt ps W') :
    TS (fun q => own q ∨ W.heap.size ≤ q ∧ q < W'.heap.size) t L (os.set k (upd os[k] ps W.heap.size W'.heap.size)) W' := by
  obtain ⟨v, oB, h1, h2, h3⟩ := h.st
  obtain ⟨oL, hR, hL⟩ := h2.row
  have hm : os[k] ∈ os := List.getElem_mem _
  have hsz := hf.size
  have hnt : ¬ os[k].own t := fun e => (h3 t (h2.sub _ hm t e)).2 rfl
  have hLb := Kd.R_bound hR
  have tlt := h.lt t h.ot
  have hcells : os.map cellsB = (os.set k (upd os[k] ps W.heap.size W'.heap.size)).map cellsB := by
    rw [List.map_set]
    refine List.ext_getElem? fun j => ?_
    rw [List.getElem?_set]
    by_cases hj : k = j
    · subst hj
      rw [if_pos rfl, List.length_map, if_pos hk, List.getElem?_map, List.getElem?_eq_getElem hk]
      rfl
    · rw [if_neg hj]
  have hmem : ∀ x ∈ os.set k (upd os[k] ps W.heap.size W'.heap.size), x = upd os[k] ps W.heap.size W'.heap.size ∨ ∃ j, ∃ hj : j < os.length, j ≠ k ∧ x = os[j] := fun x hx => by
    obtain ⟨j, hj, rfl⟩ := List.getElem_of_mem hx
    rw [List.length_set] at hj
    by_cases hjk : k = j
    · subst hjk
      exact .inl (List.getElem_set_self _)
    · exact .inr ⟨j, hj, fun e => hjk e.symm, List.getElem_set_ne hjk _⟩
  have hap : ∀ i j (hi : i < os.length) (hj : j < os.length), i ≠ j → ∀ q, os[i].own q → ¬ os[j].own q := fun i j hi hj hij q h1 h2' => by
    rcases Nat.lt_or_ge i j with hlt | hge
    · exact List.pairwise_iff_getElem.1 h2.apart i j hi hj hlt q h1 h2'
    · exact List.pairwise_iff_getElem.1 h2.apart j i hj hi (by omega) q h2' h1
  refine ⟨.inl h.ot, ⟨v, fun q => (own q ∨ W.heap.size ≤ q ∧ q < W'.heap.size) ∧ q ≠ t, (hf.block t tlt hnt).trans h1, ?_, fun q hq => hq⟩, fun q hq => ?_⟩
  · refine ⟨⟨fun q => oL q ∧ q < W.heap.size, row_cells (Kd.R_mono (Kd.R_step hLb (fun q hq hlt => hf.block q hlt (fun e => (hL q hq.1).2 _ hm e))) (fun q hq => ⟨hq.1, hq.2.2.1⟩)) hcells, fun q hq => ⟨⟨.inl (h3 q (hL q hq.1).1).1, (h3 q (hL q hq.1).1).2⟩, fun x hx e => ?_⟩⟩, fun x hx => ?_, fun x hx q hq => ?_, ?_, fun q hq => ?_⟩
    · rcases hmem x hx with rfl | ⟨j, hj, hjk, rfl⟩
      · rcases e with e | e
        · exact (hL q hq.1).2 _ hm e
        · omega
      · exact (hL q hq.1).2 _ (List.getElem_mem _) e
    · rcases hmem x hx with rfl | ⟨j, hj, hjk, rfl⟩
      · exact hPA
      · exact OPA.fr _ W W' _ (h2.obj _ (List.getElem_mem _)) hf (fun q hq e => hap j k hj hk hjk q hq e)
    · rcases hmem x hx with rfl | ⟨j, hj, hjk, rfl⟩
      · rcases hq with hq | hq
        · exact ⟨.inl (h3 q (h2.sub _ hm q hq)).1, (h3 q (h2.sub _ hm q hq)).2⟩
        · exact ⟨.inr hq, by omega⟩
      · exact ⟨.inl (h3 q (h2.sub _ (List.getElem_mem _) q hq)).1, (h3 q (h2.sub _ (List.getElem_mem _) q hq)).2⟩
    · rw [List.pairwise_iff_getElem]
      intro i j hi hj hij q hq1 hq2
      rw [List.length_set] at hi hj
      by_cases hik : k = i
      · subst hik
        rw [List.getElem_set_self] at hq1
        rw [List.getElem_set_ne (by omega)] at hq2
        rcases hq1 with hq1 | hq1
        · exact hap k j hi hj (by omega) q hq1 hq2
        · have := h2.lt q (h2.sub _ (List.getElem_mem _) q hq2)
          omega
      · rw [List.getElem_set_ne hik] at hq1
        by_cases hjk : k = j
        · subst hjk
          rw [List.getElem_set_self] at hq2
          rcases hq2 with hq2 | hq2
          · exact hap i k hi hj (by omega) q hq1 hq2
          · have := h2.lt q (h2.sub _ (List.getElem_mem _) q hq1)
            omega
        · rw [List.getElem_set_ne hjk] at hq2
          exact hap i j hi hj (by omega) q hq1 hq2
    · rcases hq.1 with h' | h'
      · have := h.lt q h'
        omega
      · exact h'.2
  · rcases hq with h' | h'
    · have := h.lt q h'
      omega
    · exact h'.2
theorem aOf_set (os : List OB) (k : Nat) (o : OB) : aOf (os.set k o) = (aOf os).set k o.a := List.map_set
theorem TS.own_of {own : Nat → Prop} {t : Nat} {L : Room.Lim} {os : List OB} {W : World} (h : TS own t L os W) {o : OB} (ho : o ∈ os) (q : Nat) (hq : o.own q) : own q := by
  obtain ⟨v, oB, h1, h2, h3⟩ := h.st
  exact (h3 q (h2.sub o ho q hq)).1
end Go.Proofs.Ytaeelmkpjgmdlaa.H
