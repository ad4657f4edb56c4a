/- Mine. Chapter 22, by hand: the reference's table: a part more, a message more, which one goes. -/
import Derived.Test.YtaeelmkpjgmdlaaHXB
namespace Go.Proofs.Ytaeelmkpjgmdlaa.H
open Go Go.Proofs Go.RowKit Go.Lib Go.Proofs.Ytaeelmkpjgmdlaa.P Go.Proofs.YtaeelmkpjgmdlaaW.PrintWords Go.Proofs.YtaeelmkpjgmdlaaW.PrintLast Go.Proofs.YtaeelmkpjgmdlaaW.PrintMore Go.Proofs.YtaeelmkpjgmdlaaW.PrintFlat
set_option linter.unusedVariables false
set_option linter.unusedSimpArgs false
theorem XS.set {own : Nat → Prop} {t : Nat} {L : Room.Lim} {os : List OB} {W W' : World} {k : Nat} {ps : Room.Pt} (h : XS own t L os W) (hk : k < os.length) (hf : Fr os[k].own W W')
    (hPB : PB (fun q => os[k].own q ∨ W.heap.size ≤ q ∧ q < W'.heap.size) os[k].p os[k].a.cnt ps W') :
    XS (fun q => own q ∨ W.heap.size ≤ q ∧ q < W'.heap.size) t L (os.set k (upd os[k] ps W.heap.size W'.heap.size)) W' := by
  obtain ⟨v, oB, h1, h2, h3⟩ := h.st
  obtain ⟨oL, hR, hL⟩ := h2.row
  have hm : os[k] ∈ os := List.getElem_mem _
  have hsz := hf.size
  have hnt : ¬ os[k].own t := fun e => (h3 t (h2.sub _ hm t e)).2 rfl
  have hLb := Kd.R_bound hR
  have tlt := h.lt t h.ox
  have hcells : os.map cellsB = (os.set k (upd os[k] ps W.heap.size W'.heap.size)).map cellsB := by
    rw [List.map_set]
    refine List.ext_getElem? fun j => ?_
    rw [List.getElem?_set]
    by_cases hj : k = j
    · subst hj
      rw [if_pos rfl, List.length_map, if_pos hk, List.getElem?_map, List.getElem?_eq_getElem hk]
      rfl
    · rw [if_neg hj]
  have hmem : ∀ x ∈ os.set k (upd os[k] ps W.heap.size W'.heap.size), x = upd os[k] ps W.heap.size W'.heap.size ∨ ∃ j, ∃ hj : j < os.length, j ≠ k ∧ x = os[j] := fun x hx => by
    obtain ⟨j, hj, rfl⟩ := List.getElem_of_mem hx
    rw [List.length_set] at hj
    by_cases hjk : k = j
    · subst hjk
      exact .inl (List.getElem_set_self _)
    · exact .inr ⟨j, hj, fun e => hjk e.symm, List.getElem_set_ne hjk _⟩
  have hap : ∀ i j (hi : i < os.length) (hj : j < os.length), i ≠ j → ∀ q, os[i].own q → ¬ os[j].own q := fun i j hi hj hij q h1 h2' => by
    rcases Nat.lt_or_ge i j with hlt | hge
    · exact List.pairwise_iff_getElem.1 h2.apart i j hi hj hlt q h1 h2'
    · exact List.pairwise_iff_getElem.1 h2.apart j i hj hi (by omega) q h2' h1
  refine ⟨.inl h.ox, ⟨v, fun q => (own q ∨ W.heap.size ≤ q ∧ q < W'.heap.size) ∧ q ≠ t, (hf.block t tlt hnt).trans h1, ?_, fun q hq => hq⟩, fun q hq => ?_⟩
  · refine ⟨⟨fun q => oL q ∧ q < W.heap.size, row_cells (Kd.R_mono (Kd.R_step hLb (fun q hq hlt => hf.block q hlt (fun e => (hL q hq.1).2 _ hm e))) (fun q hq => ⟨hq.1, hq.2.2.1⟩)) hcells, fun q hq => ⟨⟨.inl (h3 q (hL q hq.1).1).1, (h3 q (hL q hq.1).1).2⟩, fun x hx e => ?_⟩⟩, fun x hx => ?_, fun x hx q hq => ?_, ?_, fun q hq => ?_⟩
    · rcases hmem x hx with rfl | ⟨j, hj, hjk, rfl⟩
      · rcases e with e | e
        · exact (hL q hq.1).2 _ hm e
        · omega
      · exact (hL q hq.1).2 _ (List.getElem_mem _) e
    · rcases hmem x hx with rfl | ⟨j, hj, hjk, rfl⟩
      · exact hPB
      · exact OPB.fr _ W W' _ (h2.obj _ (List.getElem_mem _)) hf (fun q hq e => hap j k hj hk hjk q hq e)
    · rcases hmem x hx with rfl | ⟨j, hj, hjk, rfl⟩
      · rcases hq with hq | hq
        · exact ⟨.inl (h3 q (h2.sub _ hm q hq)).1, (h3 q (h2.sub _ hm q hq)).2⟩
        · exact ⟨.inr hq, by omega⟩
      · exact ⟨.inl (h3 q (h2.sub _ (List.getElem_mem _) q hq)).1, (h3 q (h2.sub _ (List.getElem_mem _) q hq)).2⟩
    · rw [List.pairwise_iff_getElem]
      intro i j hi hj hij q hq1 hq2
      rw [List.length_set] at hi hj
      by_cases hik : k = i
      · subst hik
        rw [List.getElem_set_self] at hq1
        rw [List.getElem_set_ne (by omega)] at hq2
        rcases hq1 with hq1 | hq1
        · exact hap k j hi hj (by omega) q hq1 hq2
        · have := h2.lt q (h2.sub _ (List.getElem_mem _) q hq2)
          omega
      · rw [List.getElem_set_ne hik] at hq1
        by_cases hjk : k = j
        · subst hjk
          rw [List.getElem_set_self] at hq2
          rcases hq2 with hq2 | hq2
          · exact hap i k hi hj (by omega) q hq1 hq2
          · have := h2.lt q (h2.sub _ (List.getElem_mem _) q hq1)
            omega
        · rw [List.getElem_set_ne hjk] at hq2
          exact hap i j hi hj (by omega) q hq1 hq2
    · rcases hq.1 with h' | h'
      · have := h.lt q h'
        omega
      · exact h'.2
  · rcases hq with h' | h'
    · have := h.lt q h'
      omega
    · exact h'.2
theorem XS.own_of {own : Nat → Prop} {t : Nat} {L : Room.Lim} {os : List OB} {W : World} (h : XS own t L os W) {o : OB} (ho : o ∈ os) (q : Nat) (hq : o.own q) : own q := by
  obtain ⟨v, oB, h1, h2, h3⟩ := h.st
  exact (h3 q (h2.sub o ho q hq)).1
/-- A message more, whose parts lie apart. -/
theorem Bag.snoc {own oL : Nat → Prop} {v v' : Value} {os : List OB} {o : OB} {W W' : World} (h : Bag OPB 74 own v os W) (hL : ∀ k, oL k → own k ∧ ∀ o ∈ os, ¬ o.own k) (hR : k7.R 74 W 0 oL v os)
    (hrow : k7.R 74 W' 0 (fun k => oL k ∨ W.heap.size ≤ k) v' (os ++ [o])) (hg : W.grownBy W' v.ownBlock) (ho : OPB o W) (hd : ∀ q, o.own q → ¬ own q) (hlt : ∀ q, o.own q → q < W.heap.size) :
    Bag OPB 74 (fun q => own q ∨ o.own q ∨ W.heap.size ≤ q ∧ q < W'.heap.size) v' (os ++ [o]) W' := by
  have hf : Fr (fun q => some q = v.ownBlock) W W' := ⟨hg.os, hg.tape, hg.output, hg.size, fun k hk hn => hg.block k hk hn⟩
  have hvo : ∀ k, some k = v.ownBlock → oL k := fun k hk => hR.1 k hk.symm
  refine ⟨⟨fun k => (oL k ∨ W.heap.size ≤ k) ∧ k < W'.heap.size, Kd.R_mono (Kd.R_bound hrow) (fun k hk => ⟨hk.1, hk.2.2.1⟩), fun k hk => ⟨?_, fun x hx e => ?_⟩⟩, fun x hx => ?_, fun x hx k hk => ?_, ?_, fun k hk => ?_⟩
  · rcases hk.1 with h1 | h1
    · exact .inl (hL k h1).1
    · exact .inr (.inr ⟨h1, hk.2⟩)
  · rcases List.mem_append.1 hx with hx | hx
    · rcases hk.1 with h1 | h1
      · exact (hL k h1).2 x hx e
      · have := h.lt k (h.sub x hx k e); omega
    · obtain rfl := List.mem_singleton.1 hx
      rcases hk.1 with h1 | h1
      · exact hd k e (hL k h1).1
      · have := hlt k e; omega
  · rcases List.mem_append.1 hx with hx | hx
    · exact OPB.fr x W W' _ (h.obj x hx) hf (fun k hk e => (hL k (hvo k e)).2 x hx hk)
    · obtain rfl := List.mem_singleton.1 hx
      exact OPB.fr x W W' _ ho hf (fun k hk e => hd k hk (hL k (hvo k e)).1)
  · rcases List.mem_append.1 hx with hx | hx
    · exact .inl (h.sub x hx k hk)
    · obtain rfl := List.mem_singleton.1 hx
      exact .inr (.inl hk)
  · rw [List.pairwise_append]
    refine ⟨h.apart, List.pairwise_singleton _ _, fun x hx y hy k hk e => ?_⟩
    obtain rfl := List.mem_singleton.1 hy
    exact hd k e (h.sub x hx k hk)
  · rcases hk with hk | hk | hk
    · exact Nat.lt_of_lt_of_le (h.lt k hk) hg.size
    · exact Nat.lt_of_lt_of_le (hlt k hk) hg.size
    · exact hk.2
theorem XS.snoc {own oB oL : Nat → Prop} {x : Nat} {L : Room.Lim} {os : List OB} {o : OB} {v v' : Value} {W w3 w4 : World} (h : XS own x L os W) (h1 : W.heap[x]? = some (.cells #[.int .i64 L.op, .int .i64 L.by_, .int .i64 L.ex, v] 48 (0, 0))) (h2 : Bag OPB 74 oB v os W) (h3 : ∀ k, oB k → own k ∧ k ≠ x)
    (hL : ∀ k, oL k → oB k ∧ ∀ o ∈ os, ¬ o.own k) (hR : k7.R 74 W 0 oL v os)
    (hrow : k7.R 74 w3 0 (fun k => oL k ∨ W.heap.size ≤ k) v' (os ++ [o])) (hg : W.grownBy w3 v.ownBlock) (ho : OPB o W) (hd : ∀ q, o.own q → ¬ own q) (hlt : ∀ q, o.own q → q < W.heap.size) (hw : w4 = w3.setCell ⟨x, 3, none⟩ v') :
    Fr own W w4 ∧ XS (fun q => own q ∨ o.own q ∨ W.heap.size ≤ q ∧ q < w4.heap.size) x L (os ++ [o]) w4 := by
  have hxl := h.lt x h.ox
  have hvo : ∀ k, some k = v.ownBlock → oL k := fun k hk => hR.1 k hk.symm
  have hnx : ¬ (some x = v.ownBlock) := fun e => (h3 x (hL x (hvo x e)).1).2 rfl
  have hbx : w3.heap[x]? = some (.cells #[.int .i64 L.op, .int .i64 L.by_, .int .i64 L.ex, v] 48 (0, 0)) := (hg.block x hxl hnx).trans h1
  have hblk := blk_set hbx 3 v'
  have hsz : w4.heap.size = w3.heap.size := by rw [hw]; simp [World.setCell]
  have hf3 : Fr own W w3 := ⟨hg.os, hg.tape, hg.output, hg.size, fun k hk hn => hg.block k hk (fun e => hn (h3 k (hL k (hvo k e)).1).1)⟩
  have hf4 : Fr (fun k => k = x) w3 w4 := ⟨by rw [hw]; rfl, by rw [hw]; rfl, by rw [hw]; rfl, by omega, fun k hk hn => by rw [hw]; exact Below.heap_setCell _ _ _ _ hn⟩
  have hs := hg.size
  have hox : ∀ q, o.own q → q ≠ x := fun q hq e => hd q hq (by rw [e]; exact h.ox)
  have hbag := (h2.snoc hL hR hrow hg ho (fun q hq e => hd q hq (h3 q e).1) hlt).frame OPB.fr hf4 (fun k hk e => by
    rcases hk with hk | hk | hk
    · exact (h3 k hk).2 e
    · exact hox k hk e
    · omega)
  refine ⟨hf3.then_ hf4 (fun q _ e => by rw [e]; exact h.ox), .inl h.ox, ⟨v', _, ?_, hbag, fun k hk => ?_⟩, fun k hk => ?_⟩
  · rw [hw, hblk]; simp
  · rcases hk with hk | hk | hk
    · exact ⟨.inl (h3 k hk).1, (h3 k hk).2⟩
    · exact ⟨.inr (.inl hk), hox k hk⟩
    · exact ⟨.inr (.inr ⟨hk.1, by omega⟩), by omega⟩
  · rcases hk with hk | hk | hk
    · have := h.lt k hk; omega
    · have := hlt k hk; omega
    · exact hk.2
theorem XS.apart {own : Nat → Prop} {x : Nat} {L : Room.Lim} {os : List OB} {W : World} (h : XS own x L os W) : os.Pairwise fun a b => ∀ k, a.own k → ¬ b.own k := by
  obtain ⟨v, oB, h1, h2, h3⟩ := h.st
  exact h2.apart
/-- Which one goes: the first, or the one behind it. -/
theorem fit_idx {own : Nat → Prop} {x : Nat} {L : Room.Lim} {os : List OB} {W : World} (h : XS own x L os W) {f e i : Int} (hn : ((aOf os).map okey).Nodup) {o : OB} (ho : o ∈ os) (hk : Room.isK f e i o.a = true) (hf : Fits L f e i (aOf os)) (hh : Room.held (aOf os) > L.by_) :
    ∃ h0 : 0 < os.length, (os[0].p = o.p ∧ Room.idx (fun o => !Room.isK f e i o) (aOf os) = 1 ∧ 1 < os.length) ∨ (os[0].p ≠ o.p ∧ Room.idx (fun o => !Room.isK f e i o) (aOf os) = 0) := by
  have hs := hf.some hh
  have h0 : 0 < os.length := List.length_pos_of_mem ho
  refine ⟨h0, ?_⟩
  cases os with
  | nil => simp at h0
  | cons y r =>
    show (y.p = o.p ∧ _) ∨ (y.p ≠ o.p ∧ _)
    have hap := h.apart
    rw [List.pairwise_cons] at hap
    rw [show aOf (y :: r) = y.a :: aOf r from rfl] at hs hn ⊢
    rw [List.map_cons, List.nodup_cons] at hn
    by_cases hy : Room.isK f e i y.a = true
    · have hyo : y = o := by
        rcases List.mem_cons.1 ho with e1 | e1
        · exact e1.symm
        · exact absurd (List.mem_map.2 ⟨o.a, List.mem_map.2 ⟨o, e1, rfl⟩, by rw [isK_key.1 hk, isK_key.1 hy]⟩) hn.1
      left
      refine ⟨by rw [hyo], ?_⟩
      unfold Room.idx at hs ⊢
      rw [if_neg (by simp [hy])] at hs ⊢
      cases r with
      | nil => simp [aOf, Room.idx] at hs
      | cons z r' =>
        rw [show aOf (z :: r') = z.a :: aOf r' from rfl] at hn ⊢
        have hz : Room.isK f e i z.a = false := by
          cases hz : Room.isK f e i z.a with
          | false => rfl
          | true => exact absurd (List.mem_map.2 ⟨z.a, by simp, by rw [isK_key.1 hz, isK_key.1 hy]⟩) hn.1
        unfold Room.idx
        rw [if_pos (by simp [hz])]
        exact ⟨rfl, by simp⟩
    · right
      have hne : y ≠ o := fun e1 => hy (by rw [e1]; exact hk)
      have hor : o ∈ r := (List.mem_cons.1 ho).resolve_left (fun e1 => hne e1.symm)
      refine ⟨fun e1 => ?_, by unfold Room.idx; rw [if_pos (by simpa using hy)]⟩
      have h1 : y.own y.p := (h.obj y (by simp)).op
      have h2 : o.own o.p := (h.obj o (by simp [hor])).op
      exact hap.1 o hor y.p h1 (by rw [e1]; exact h2)
end Go.Proofs.Ytaeelmkpjgmdlaa.H
