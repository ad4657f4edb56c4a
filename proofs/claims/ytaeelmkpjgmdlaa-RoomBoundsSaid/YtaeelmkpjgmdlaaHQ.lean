/- Mine. Chapter 22: what stays true of a table, in plain Lean. -/
import Derived.Test.YtaeelmkpjgmdlaaHV
namespace Go.Proofs.Ytaeelmkpjgmdlaa.H
set_option linter.unusedVariables false
set_option linter.unusedSimpArgs false
def okey (o : Room.OA) : Int × Int × Int := (o.fr, o.ep, o.id)
theorem isK_key {f e i : Int} {o : Room.OA} : Room.isK f e i o = true ↔ okey o = (f, e, i) := by
  rw [Room.isK_iff]
  unfold okey
  simp
theorem one_key {os : List Room.OA} (h : (os.map okey).Nodup) {x y : Room.OA} (hx : x ∈ os) (hy : y ∈ os) (hk : okey x = okey y) : x = y := by
  induction os with
  | nil => simp at hx
  | cons z r ih =>
    rw [List.map_cons, List.nodup_cons] at h
    rcases List.mem_cons.1 hx with rfl | hx
    · rcases List.mem_cons.1 hy with rfl | hy
      · rfl
      · exact absurd (List.mem_map.2 ⟨y, hy, hk.symm⟩) h.1
    · rcases List.mem_cons.1 hy with hy | hy
      · exact absurd (List.mem_map.2 ⟨x, hx, by rw [hk, hy]⟩) h.1
      · exact ih h.2 hx hy
theorem filter_one {f e i : Int} : ∀ {os : List Room.OA}, (os.map okey).Nodup → os.filter (Room.isK f e i) = [] ∨ ∃ o, o ∈ os ∧ os.filter (Room.isK f e i) = [o]
  | [], _ => .inl rfl
  | x :: r, h => by
    rw [List.map_cons, List.nodup_cons] at h
    by_cases hx : Room.isK f e i x = true
    · refine .inr ⟨x, by simp, ?_⟩
      rw [List.filter_cons, if_pos hx]
      congr 1
      rw [List.filter_eq_nil_iff]
      intro y hy hyk
      exact h.1 (List.mem_map.2 ⟨y, hy, by rw [isK_key.1 hyk, isK_key.1 hx]⟩)
    · rw [List.filter_cons, if_neg hx]
      rcases filter_one (f := f) (e := e) (i := i) h.2 with h1 | ⟨o, ho, h1⟩
      · exact .inl h1
      · exact .inr ⟨o, by simp [ho], h1⟩
/-- What is true of messages that are open, but of how much is held. -/
structure Mid (L : Room.Lim) (os : List Room.OA) : Prop where
  keys : (os.map okey).Nodup
  sz : ∀ o ∈ os, Room.size o.ps ≤ L.by_
  ln : (os.length : Int) ≤ L.op
  ct : ∀ o ∈ os, 1 ≤ o.cnt ∧ o.cnt ≤ 65535
structure LimOk (L : Room.Lim) : Prop where
  o1 : 1 ≤ L.op
  o2 : L.op ≤ 16
  b1 : 1 ≤ L.by_
  b2 : L.by_ ≤ 65536
  e1 : 1 ≤ L.ex
  e2 : L.ex ≤ 32
structure RInv (L : Room.Lim) (os : List Room.OA) : Prop extends Mid L os where
  hd : Room.held os ≤ L.by_
theorem Mid.sub {L : Room.Lim} {a b : List Room.OA} (h : Mid L b) (hs : a.Sublist b) : Mid L a :=
  ⟨h.keys.sublist (hs.map _), fun o ho => h.sz o (hs.subset ho), by have := hs.length_le; have := h.ln; omega, fun o ho => h.ct o (hs.subset ho)⟩
theorem RInv.sub {L : Room.Lim} {a b : List Room.OA} (h : RInv L b) (hs : a.Sublist b) : RInv L a := ⟨h.toMid.sub hs, by have := held_sub hs; have := h.hd; omega⟩
theorem RInv.nil {L : Room.Lim} (h : LimOk L) : RInv L [] := ⟨⟨List.nodup_nil, fun o ho => by simp at ho, by have := h.o1; simp; omega, fun o ho => by simp at ho⟩, by have := h.b1; show (0 : Int) ≤ _; omega⟩
theorem Mid.fits {L : Room.Lim} (hl : LimOk L) {os : List Room.OA} (h : Mid L os) (f e i : Int) : Fits L f e i os := by
  unfold Fits
  rcases filter_one (f := f) (e := e) (i := i) h.keys with h1 | ⟨o, ho, h1⟩
  · rw [h1]; have := hl.b1; show (0 : Int) ≤ _; omega
  · rw [h1, Room.held_cons]
    have := h.sz o ho
    show Room.size o.ps + 0 ≤ _
    omega
theorem fit_sub (L : Room.Lim) (f e i : Int) : ∀ (n : Nat) (os : List Room.OA), (Room.fit L f e i n os).Sublist os
  | 0, os => List.Sublist.refl _
  | n + 1, os => by
    unfold Room.fit
    split
    · exact (fit_sub L f e i n _).trans (List.eraseIdx_sublist _ _)
    · exact List.Sublist.refl _
theorem mem_erase {α : Type} {p : α → Bool} : ∀ {l : List α} {k : Nat} (hk : k < l.length), p l[k] = false → ∀ x ∈ l, p x = true → x ∈ l.eraseIdx k
  | y :: r, 0, hk, hp, x, hx, hpx => by
    rcases List.mem_cons.1 hx with rfl | hx
    · rw [List.getElem_cons_zero, hpx] at hp; cases hp
    · rw [List.eraseIdx_cons_zero]; exact hx
  | y :: r, k + 1, hk, hp, x, hx, hpx => by
    rw [List.eraseIdx_cons_succ]
    rcases List.mem_cons.1 hx with rfl | hx
    · simp
    · exact List.mem_cons_of_mem _ (mem_erase (p := p) (l := r) (k := k) (by simpa using hk) hp x hx hpx)
theorem fit_keep (L : Room.Lim) (f e i : Int) : ∀ (n : Nat) (os : List Room.OA) (x : Room.OA), x ∈ os → Room.isK f e i x = true → x ∈ Room.fit L f e i n os
  | 0, os, x, hx, _ => hx
  | n + 1, os, x, hx, hk => by
    unfold Room.fit
    split
    · refine fit_keep L f e i n _ x ?_ hk
      by_cases hlt : Room.idx (fun o => !Room.isK f e i o) os < os.length
      · exact mem_erase (p := Room.isK f e i) hlt (by have := Room.idx_hit hlt; simpa using this) x hx hk
      · rw [List.eraseIdx_of_length_le (by omega)]; exact hx
    · exact hx
theorem fit_held (L : Room.Lim) (f e i : Int) : ∀ (n : Nat) (os : List Room.OA), os.length ≤ n → Fits L f e i os → 0 ≤ L.by_ → Room.held (Room.fit L f e i n os) ≤ L.by_
  | 0, os, hl, hf, h0 => by
    obtain rfl : os = [] := List.eq_nil_of_length_eq_zero (by omega)
    exact h0
  | n + 1, os, hl, hf, h0 => by
    unfold Room.fit
    split
    · rename_i hh
      have hlt := hf.some hh
      refine fit_held L f e i n _ ?_ (hf.erase hlt) h0
      rw [List.length_eraseIdx_of_lt hlt]; omega
    · omega
/-- The one whose part came is there behind fit, where it is found. -/
theorem fit_at {L : Room.Lim} {f e i : Int} {n : Nat} {os : List Room.OA} (h : (os.map okey).Nodup) {o : Room.OA} (ho : o ∈ os) (hk : Room.isK f e i o = true) :
    Room.idx (Room.isK f e i) (Room.fit L f e i n os) < (Room.fit L f e i n os).length ∧ (Room.fit L f e i n os)[Room.idx (Room.isK f e i) (Room.fit L f e i n os)]? = some o := by
  have hm := fit_keep L f e i n os o ho hk
  have hlt := Room.idx_lt (p := Room.isK f e i) ⟨o, hm, hk⟩
  refine ⟨hlt, ?_⟩
  rw [List.getElem?_eq_getElem hlt]
  have h1 := Room.idx_hit hlt
  have h2 := (fit_sub L f e i n os).subset (List.getElem_mem hlt)
  rw [one_key h h2 ho (by rw [isK_key.1 h1, isK_key.1 hk])]
theorem fin_eq {L : Room.Lim} {f e i : Int} {os : List Room.OA} (h : (os.map okey).Nodup) {o : Room.OA} (ho : o ∈ os) (hk : Room.isK f e i o = true) :
    Room.fin L f e i os = if (o.ps.length : Int) = o.cnt then ((Room.fit L f e i os.length os).eraseIdx (Room.idx (Room.isK f e i) (Room.fit L f e i os.length os)), Room.whole o.ps o.cnt.toNat, true) else (Room.fit L f e i os.length os, [], false) := by
  unfold Room.fin
  simp only [(fit_at (L := L) (n := os.length) h ho hk).2]
theorem fin_inv {L : Room.Lim} (hl : LimOk L) {f e i : Int} {os : List Room.OA} (h : Mid L os) : RInv L (Room.fin L f e i os).1 := by
  have h1 : RInv L (Room.fit L f e i os.length os) := ⟨h.sub (fit_sub L f e i _ _), fit_held L f e i _ os (Nat.le_refl _) (h.fits hl f e i) (by have := hl.b1; omega)⟩
  unfold Room.fin
  simp only
  split
  · split
    · exact h1.sub (List.eraseIdx_sublist _ _)
    · exact h1
  · exact h1
theorem Mid.set {L : Room.Lim} {os : List Room.OA} (h : Mid L os) {k : Nat} {o : Room.OA} (ho : os[k]? = some o) (ps : Room.Pt) (hs : Room.size ps ≤ L.by_) : Mid L (os.set k { o with ps := ps }) := by
  have hk : k < os.length := (List.getElem?_eq_some_iff.1 ho).1
  have hok : os[k] = o := (List.getElem?_eq_some_iff.1 ho).2
  have hmem : o ∈ os := by rw [← hok]; exact List.getElem_mem _
  refine ⟨?_, fun x hx => ?_, by rw [List.length_set]; exact h.ln, fun x hx => ?_⟩
  · have : (os.set k { o with ps := ps }).map okey = os.map okey := by
      rw [List.map_set]
      refine List.ext_getElem? fun j => ?_
      rw [List.getElem?_set]
      by_cases hj : k = j
      · subst hj
        rw [if_pos rfl, List.length_map, if_pos hk, List.getElem?_map, ho]
        rfl
      · rw [if_neg hj]
    rw [this]; exact h.keys
  · rcases List.mem_or_eq_of_mem_set hx with hx | rfl
    · exact h.sz x hx
    · exact hs
  · rcases List.mem_or_eq_of_mem_set hx with hx | rfl
    · exact h.ct x hx
    · exact h.ct o hmem
theorem Mid.beg {L : Room.Lim} {os : List Room.OA} (hl : LimOk L) (h : Mid L os) {o : Room.OA} (hn : ∀ x ∈ os, okey x ≠ okey o) (hs : Room.size o.ps ≤ L.by_) (hc : 1 ≤ o.cnt ∧ o.cnt ≤ 65535) : Mid L (begA L os o) := by
  unfold begA
  obtain ⟨os1, h1, hsub, hlen⟩ : ∃ os1, (if (os.length : Int) ≥ L.op then os.eraseIdx 0 else os) = os1 ∧ os1.Sublist os ∧ (os1.length : Int) + 1 ≤ L.op := by
    split
    · refine ⟨_, rfl, List.eraseIdx_sublist _ _, ?_⟩
      have h1 := h.ln
      have h2 := hl.o1
      rw [List.length_eraseIdx_of_lt (by omega)]
      omega
    · exact ⟨_, rfl, List.Sublist.refl _, by omega⟩
  rw [h1]
  have hM := h.sub hsub
  refine ⟨?_, fun x hx => ?_, by rw [List.length_append]; simpa using hlen, fun x hx => ?_⟩
  · rw [List.map_append, List.nodup_append]
    refine ⟨hM.keys, by simp, fun a ha b hb e => ?_⟩
    obtain ⟨x, hx, rfl⟩ := List.mem_map.1 ha
    have hbo : b = okey o := by simpa using hb
    exact hn x (hsub.subset hx) (e.trans hbo)
  · rcases List.mem_append.1 hx with hx | hx
    · exact hM.sz x hx
    · rw [List.mem_singleton.1 hx]; exact hs
  · rcases List.mem_append.1 hx with hx | hx
    · exact hM.ct x hx
    · rw [List.mem_singleton.1 hx]; exact hc
theorem no_key {f e i : Int} {os : List Room.OA} (h : os[Room.idx (Room.isK f e i) os]? = none) : ∀ x ∈ os, Room.isK f e i x = false := by
  have h1 := List.getElem?_eq_none_iff.1 h
  have h2 := Room.idx_le (Room.isK f e i) os
  exact Room.idx_no (by omega)
theorem put_inv {L : Room.Lim} (hl : LimOk L) {os : List Room.OA} (h : RInv L os) (f : Int) (g : Room.GA) (hg : Gm g) : RInv L (Room.put L os f g).1 := by
  unfold Room.put
  simp only
  split
  · rename_i o ho
    split
    · exact h
    · split
      · exact h
      · split
        · exact h
        · split
          · exact h.sub (List.eraseIdx_sublist _ _)
          · refine fin_inv hl (h.toMid.set ho _ ?_)
            rw [Room.size_snoc]
            omega
  · rename_i ho
    split
    · exact h
    · rename_i hge
      split
      · exact h
      · rename_i hsz
        refine fin_inv hl (h.toMid.beg (o := ⟨f, g.ep, g.id, g.cnt, g.ver, 0, [(g.ix, g.body)]⟩) hl (fun x hx e => ?_) ?_ ?_)
        · have h1 := no_key ho x hx
          have h2 : Room.isK f g.ep g.id x = true := isK_key.2 e
          rw [h1] at h2; cases h2
        · show Room.size ([] ++ [(g.ix, g.body)]) ≤ L.by_
          rw [Room.size_snoc]
          have : Room.size [] = 0 := rfl
          omega
        · unfold Gm at hg
          exact ⟨by show 1 ≤ g.cnt; omega, hg.2.2.2.1⟩
end Go.Proofs.Ytaeelmkpjgmdlaa.H
