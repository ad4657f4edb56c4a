/- Mine. Chapter 22: time, in plain Lean. -/
import Derived.Test.YtaeelmkpjgmdlaaHAw
namespace Go.Proofs.Ytaeelmkpjgmdlaa.H
open Go Go.Proofs Go.RowKit Go.Lib Go.Proofs.Ytaeelmkpjgmdlaa.P Go.Proofs.YtaeelmkpjgmdlaaW.PrintWords Go.Proofs.YtaeelmkpjgmdlaaW.PrintLast Go.Proofs.YtaeelmkpjgmdlaaW.PrintMore
set_option linter.unusedVariables false
set_option linter.unusedSimpArgs false
def older (os : List Room.OA) : List Room.OA := os.map fun o => { o with age := o.age + 1 }
theorem older_held (os : List Room.OA) : Room.held (older os) = Room.held os := by
  unfold Room.held older
  rw [List.map_map]
  rfl
theorem older_inv {L : Room.Lim} {os : List Room.OA} (h : RInv L os) : RInv L (older os) := by
  refine ⟨⟨?_, fun o ho => ?_, ?_, fun o ho => ?_⟩, by rw [older_held]; exact h.hd⟩
  · have : (older os).map okey = os.map okey := by unfold older; rw [List.map_map]; rfl
    rw [this]; exact h.keys
  · obtain ⟨x, hx, rfl⟩ := List.mem_map.1 ho
    exact h.sz x hx
  · unfold older; rw [List.length_map]; exact h.ln
  · obtain ⟨x, hx, rfl⟩ := List.mem_map.1 ho
    exact h.ct x hx
theorem tick_inv {L : Room.Lim} {os : List Room.OA} (h : RInv L os) : RInv L (Room.tick L os) := (older_inv h).sub List.filter_sublist
/-- How old all are. -/
def AgeIn (L : Room.Lim) (m : Int) (os : List Room.OA) : Prop := ∀ o ∈ os, m ≤ o.age ∧ o.age ≤ L.ex
theorem AgeIn.sub {L : Room.Lim} {m : Int} {a b : List Room.OA} (h : AgeIn L m b) (hs : a.Sublist b) : AgeIn L m a := fun o ho => h o (hs.subset ho)
theorem tick_age {L : Room.Lim} {m : Int} {os : List Room.OA} (h : AgeIn L m os) : AgeIn L (m + 1) (Room.tick L os) := fun o ho => by
  unfold Room.tick at ho
  obtain ⟨h1, h2⟩ := List.mem_filter.1 ho
  obtain ⟨x, hx, rfl⟩ := List.mem_map.1 h1
  have h3 := (h x hx).1
  have h4 : x.age + 1 ≤ L.ex := by simpa using h2
  exact ⟨by show m + 1 ≤ x.age + 1; omega, h4⟩
theorem fin_age {L : Room.Lim} {m : Int} {f e i : Int} {os : List Room.OA} (h : AgeIn L m os) : AgeIn L m (Room.fin L f e i os).1 := by
  unfold Room.fin
  simp only
  split
  · split
    · exact (h.sub (fit_sub L f e i _ _)).sub (List.eraseIdx_sublist _ _)
    · exact h.sub (fit_sub L f e i _ _)
  · exact h.sub (fit_sub L f e i _ _)
theorem put_age {L : Room.Lim} (hl : LimOk L) {os : List Room.OA} (h : AgeIn L 0 os) (f : Int) (g : Room.GA) : AgeIn L 0 (Room.put L os f g).1 := by
  unfold Room.put
  simp only
  split
  · rename_i o ho
    have hok := (List.getElem?_eq_some_iff.1 ho)
    split
    · exact h
    · split
      · exact h
      · split
        · exact h
        · split
          · exact h.sub (List.eraseIdx_sublist _ _)
          · refine fin_age fun x hx => ?_
            rcases List.mem_or_eq_of_mem_set hx with hx | rfl
            · exact h x hx
            · obtain ⟨hk, he⟩ := hok
              exact h o (by rw [← he]; exact List.getElem_mem _)
  · split
    · exact h
    · split
      · exact h
      · refine fin_age fun x hx => ?_
        rcases List.mem_append.1 hx with hx | hx
        · split at hx
          · exact h x ((List.eraseIdx_sublist _ _).subset hx)
          · exact h x hx
        · rw [List.mem_singleton.1 hx]
          exact ⟨Int.le_refl _, by have := hl.e1; show (0 : Int) ≤ L.ex; omega⟩
/-- What a table is, behind a deed. -/
def doD (L : Room.Lim) (os : List Room.OA) (x : S40) : List Room.OA := if x.f0 = true then Room.tick L os else (Room.put L os x.f1 ⟨x.f2.f1, x.f2.f2, x.f2.f3, x.f2.f4, x.f2.f5, x.f2.f6⟩).1
theorem okD_gm {l : List S40} (h : okD l = true) {x : S40} (hx : x ∈ l) (hb : x.f2.f6.length ≤ 80000) : Gm ⟨x.f2.f1, x.f2.f2, x.f2.f3, x.f2.f4, x.f2.f5, x.f2.f6⟩ := by
  unfold okD at h
  have h1 := List.all_eq_true.1 h x hx
  simp [Lit.wf, IntKind.min, IntKind.max, IntKind.bits, IntKind.signed] at h1
  unfold Gm
  exact ⟨by show 0 ≤ x.f2.f4; omega, by show x.f2.f4 ≤ 65535; omega, by show 0 ≤ x.f2.f5; omega, by show x.f2.f5 ≤ 65535; omega, hb⟩
theorem large_false (l : List S40) : ∀ (k : Nat) (n i : Int), 0 ≤ n → n ≤ 90000 * i → 0 ≤ i → i ≤ 300 → annuletlaw22_Large.l0 k l n i = some false → l.length ≤ 200 ∧ n ≤ 80000 ∧ ∀ j : Nat, i ≤ j → j < l.length → (rd_T40 l j).f2.f6.length ≤ 80000
  | 0, _, _, _, _, _, _, h => by simp [annuletlaw22_Large.l0] at h
  | k + 1, n, i, h0, h1, h2, h3, h => by
    simp only [annuletlaw22_Large.l0] at h
    have fin : ∀ {b : Bool}, (if (l.length : Int) > 200 then some true else some (decide (n > 80000))) = some false → l.length ≤ 200 ∧ n ≤ 80000 := fun h => by
      split at h
      · simp at h
      · simp at h
        omega
    split at h
    · rename_i h4
      split at h
      · rename_i h5
        try rw [if_pos h2] at h
        have hm : mn (((rd_T40 l i).f2.f6).length : Int) 90000 = (((rd_T40 l i).f2.f6).length : Int) ∨ (mn (((rd_T40 l i).f2.f6).length : Int) 90000 = 90000 ∧ (90000 : Int) ≤ ((rd_T40 l i).f2.f6).length) := by
          unfold mn
          split <;> omega
        have hw1 : wrap64 (n + mn (((rd_T40 l i).f2.f6).length : Int) 90000) = n + mn (((rd_T40 l i).f2.f6).length : Int) 90000 := by unfold wrap64; unfold mn at hm ⊢; split at hm <;> split <;> omega
        have hw2 : wrap64 (i + 1) = i + 1 := by unfold wrap64; omega
        rw [hw1, hw2] at h
        have hmb : 0 ≤ mn (((rd_T40 l i).f2.f6).length : Int) 90000 ∧ mn (((rd_T40 l i).f2.f6).length : Int) 90000 ≤ 90000 := by unfold mn; split <;> omega
        obtain ⟨r1, r2, r3⟩ := large_false l k _ _ (by omega) (by omega) (by omega) (by omega) h
        refine ⟨r1, by omega, fun j hj hjl => ?_⟩
        by_cases he : i = j
        · subst he
          omega
        · exact r3 j (by omega) hjl
      · rename_i h5
        have := fin (b := true) h
        omega
    · rename_i h4
      have := fin (b := true) h
      exact ⟨this.1, this.2, fun j hj hjl => by omega⟩
theorem rd_mem40 {l : List S40} {j : Nat} (h : j < l.length) : rd_T40 l (j : Int) ∈ l := by
  unfold rd_T40
  rw [Int.toNat_natCast, List.getD_eq_getElem?_getD, List.getElem?_eq_getElem h]
  exact List.getElem_mem _
end Go.Proofs.Ytaeelmkpjgmdlaa.H
