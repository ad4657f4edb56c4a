/- Mine. A row of one's own (Kd.R) whose elements' cells are a function of the element: its cells are the elements' cells, one behind the other. -/
import Derived.Test.YtaeelmkpjgmdlaaWMore
namespace Go.Proofs.YtaeelmkpjgmdlaaW.PrintFlat
open Go Go.Proofs Go.RowKit Go.Lib Go.Proofs.YtaeelmkpjgmdlaaW.PrintWords
variable {α : Type}

theorem flat_len (enc : α → List Value) (k : Nat) (hk : ∀ x, (enc x).length = k) : ∀ xs : List α, (xs.flatMap enc).length = xs.length * k
  | [] => by simp
  | x :: r => by rw [List.flatMap_cons, List.length_append, hk, flat_len enc k hk r, List.length_cons, Nat.add_mul, Nat.one_mul, Nat.add_comm]

theorem flat_take (enc : α → List Value) (k : Nat) (hk : ∀ x, (enc x).length = k) : ∀ (xs : List α) (i : Nat), (xs.flatMap enc).take (i * k) = (xs.take i).flatMap enc
  | [], i => by simp
  | x :: r, 0 => by simp
  | x :: r, i + 1 => by
    rw [List.flatMap_cons, List.take_succ_cons, List.flatMap_cons, Nat.add_mul, Nat.one_mul, Nat.add_comm, List.take_append, List.take_of_length_le (by rw [hk]; omega), hk, Nat.add_sub_cancel_left, flat_take enc k hk r i]

theorem flat_drop (enc : α → List Value) (k : Nat) (hk : ∀ x, (enc x).length = k) : ∀ (xs : List α) (i : Nat), (xs.flatMap enc).drop (i * k) = (xs.drop i).flatMap enc
  | [], i => by simp
  | x :: r, 0 => by simp
  | x :: r, i + 1 => by
    rw [List.flatMap_cons, List.drop_succ_cons, Nat.add_mul, Nat.one_mul, Nat.add_comm, List.drop_append, List.drop_of_length_le (by rw [hk]; omega), hk, Nat.add_sub_cancel_left, flat_drop enc k hk r i, List.nil_append]

theorem flat_of_reps {R : α → List Value → Prop} (enc : α → List Value) (k : Nat) (hk : ∀ x, (enc x).length = k) (he : ∀ x cs, R x cs → cs = enc x) : ∀ (xs : List α) (cs : List Value), Reps R k xs cs → cs = xs.flatMap enc
  | [], cs, h => by
    have := h.1
    simp at this
    simp [this]
  | x :: r, cs, h => by
    have h0 := he _ _ (h.2 0 x (by simp))
    have hr : Reps R k r (cs.drop k) := ⟨by rw [List.length_drop, h.1, List.length_cons, Nat.add_mul]; omega, fun j p hj => by
      have := h.2 (j + 1) p (by simpa using hj)
      rw [List.drop_drop]
      rw [Nat.add_mul, Nat.one_mul, Nat.add_comm] at this
      exact this⟩
    have h1 := flat_of_reps enc k hk he r _ hr
    rw [Nat.zero_mul, List.drop_zero] at h0
    rw [List.flatMap_cons, ← h0, ← h1, List.take_append_drop]

theorem reps_of_flat {R : α → List Value → Prop} (enc : α → List Value) (k : Nat) (hk : ∀ x, (enc x).length = k) (xs : List α) (hm : ∀ x ∈ xs, R x (enc x)) : Reps R k xs (xs.flatMap enc) := by
  refine ⟨flat_len enc k hk xs, fun j p hj => ?_⟩
  have hlt := (List.getElem?_eq_some_iff.1 hj).1
  rw [flat_drop enc k hk]
  have h1 : xs.drop j = p :: xs.drop (j + 1) := by
    rw [List.drop_eq_getElem_cons hlt, (List.getElem?_eq_some_iff.1 hj).2]
  rw [h1, List.flatMap_cons, List.take_append_of_le_length (by rw [hk]; exact Nat.le_refl _), List.take_of_length_le (by rw [hk]; exact Nat.le_refl _)]
  exact hm p (List.mem_of_getElem? hj)

theorem flat_get (enc : α → List Value) (k : Nat) (hk : ∀ x, (enc x).length = k) (xs : List α) (j : Nat) (x : α) (hj : xs[j]? = some x) (i : Nat) (hi : i < k) : (xs.flatMap enc)[j * k + i]? = (enc x)[i]? := by
  have h := (reps_of_flat (R := fun x cs => cs = enc x) enc k hk xs (fun _ _ => rfl)).2 j x hj
  rw [← h, List.getElem?_take, if_pos hi, List.getElem?_drop]

/-- What an own row is. -/
theorem owned_flat (d : Kd α) (e : Nat) (enc : α → List Value) (hk : ∀ x, (enc x).length = d.sz) (he : ∀ {w : World} {b : Nat} {ok : Nat → Prop} {x : α} {cs : List Value}, d.M w b ok x cs → cs = enc x)
    {w : World} {base : Nat} {ok : Nat → Prop} {v : Value} {xs : List α} (h : Kd.R d e w base ok v xs) :
    (v = .slice none 0 0 ∧ xs = []) ∨ ∃ (b cap : Nat) (cur : Array Value), v = .slice (some ⟨b, 0, none⟩) xs.length cap ∧ base ≤ b ∧ ok b ∧ w.heap[b]? = some (.cells cur e (0, 0)) ∧ xs.length ≤ cap ∧ cap ≤ maxLen ∧ cur.size = cap * d.sz ∧ cur.toList.take (xs.length * d.sz) = xs.flatMap enc := by
  obtain ⟨h0, inner, ho, hr⟩ := h
  rcases ho.2 with ⟨rfl, hn⟩ | ⟨b, cap, cur, rfl, hb, hh, hc1, hc2, hc3, hc4⟩
  · exact .inl ⟨rfl, List.eq_nil_of_length_eq_zero hn⟩
  · refine .inr ⟨b, cap, cur, rfl, hb, h0 b rfl, hh, hc1, hc2, hc3, ?_⟩
    rw [hc4]
    exact flat_of_reps enc d.sz hk (fun x cs h => he h) xs inner hr
/-- .. and the other way. -/
theorem flat_owned (d : Kd α) (e : Nat) (enc : α → List Value) (hk : ∀ x, (enc x).length = d.sz) (hm : ∀ (w : World) (b : Nat) (ok : Nat → Prop) (x : α), d.M w b ok x (enc x))
    {w : World} {base : Nat} {ok : Nat → Prop} (xs : List α) (b cap n : Nat) (cur : Array Value) (hn : n = xs.length) (hb : base ≤ b) (hok : ok b) (hh : w.heap[b]? = some (.cells cur e (0, 0))) (hc1 : xs.length ≤ cap) (hc2 : cap ≤ maxLen) (hc3 : cur.size = cap * d.sz) (hc4 : cur.toList.take (xs.length * d.sz) = xs.flatMap enc) :
    Kd.R d e w base ok (.slice (some ⟨b, 0, none⟩) n cap) xs := by
  subst hn
  exact ⟨fun k hk => by have : b = k := by simpa [Value.ownBlock] using hk
                        exact this ▸ hok, _, ⟨flat_len enc d.sz hk xs, .inr ⟨b, cap, cur, rfl, hb, hh, hc1, hc2, hc3, hc4⟩⟩, reps_of_flat enc d.sz hk xs (fun x _ => hm _ _ _ x)⟩

/-- A slice that is read: its cells. -/
theorem read_flat (d : Kd α) (enc : α → List Value) (hk : ∀ x, (enc x).length = d.sz) (he : ∀ {w : World} {x : α} {cs : List Value}, d.K w x cs → cs = enc x) {w : World} {A : Option Addr} {n : Nat} {xs : List α} (h : Kd.C d w A n xs) (a : Addr) (hA : A = some a) :
    ∀ j v, (xs.flatMap enc)[j]? = some v → w.cell? (a.add j) = some v := by
  intro j v hj
  have hlen := flat_len enc d.sz hk xs
  have hjl := (List.getElem?_eq_some_iff.1 hj).1
  rw [hlen] at hjl
  have hs0 : 0 < d.sz := by
    rcases Nat.eq_zero_or_pos d.sz with h | h
    · rw [h] at hjl; omega
    · exact h
  have hq : j / d.sz < xs.length := Nat.div_lt_of_lt_mul (by rw [Nat.mul_comm]; exact hjl)
  have hd : j / d.sz * d.sz + j % d.sz = j := by rw [Nat.mul_comm]; exact Nat.div_add_mod j d.sz
  have hm := Nat.mod_lt j hs0
  obtain ⟨ad, e1, hc⟩ := h.2.2 (by have h1 := h.1; have h2 := Nat.lt_of_le_of_lt (Nat.zero_le _) hq; rw [← h1]; exact h2)
  rw [hA] at e1
  cases e1
  obtain ⟨c, hcl, hK, hcell⟩ := hc _ _ (List.getElem?_eq_getElem hq)
  have hce := he hK
  have hg := flat_get enc d.sz hk xs (j / d.sz) _ (List.getElem?_eq_getElem hq) (j % d.sz) hm
  rw [hd, hj, ← hce] at hg
  have := hcell (j % d.sz) v hg.symm
  rwa [hd] at this
#print axioms read_flat
#print axioms flat_owned
end Go.Proofs.YtaeelmkpjgmdlaaW.PrintFlat
