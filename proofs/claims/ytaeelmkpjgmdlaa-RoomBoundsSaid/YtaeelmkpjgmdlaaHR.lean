/- Mine. Chapter 22: what a table does, in plain Lean: messages that are open, each with its parts as they came. -/
namespace Go.Proofs.Ytaeelmkpjgmdlaa.Room
set_option linter.unusedVariables false
set_option linter.unusedSimpArgs false
/-- Parts: places and bytes, as they came. -/
abbrev Pt := List (Int × List Int)
def size (ps : Pt) : Int := (ps.map fun x => (x.2.length : Int)).sum
def has (ps : Pt) (i : Int) : Bool := ps.any fun x => x.1 == i
def at_ (ps : Pt) (i : Int) : List Int := ((ps.find? fun x => x.1 == i).map Prod.snd).getD []
def whole (ps : Pt) (n : Nat) : List Int := (List.range n).flatMap fun (i : Nat) => at_ ps i
theorem size_nn (ps : Pt) : 0 ≤ size ps := by
  unfold size
  induction ps with
  | nil => simp
  | cons x r ih => simp only [List.map_cons, List.sum_cons]; omega
theorem size_app (a b : Pt) : size (a ++ b) = size a + size b := by simp [size]
theorem size_snoc (a : Pt) (i : Int) (l : List Int) : size (a ++ [(i, l)]) = size a + l.length := by simp [size]
/-- An open message. -/
structure OA where
  fr : Int
  ep : Int
  id : Int
  cnt : Int
  ver : Int
  age : Int
  ps : Pt
structure Lim where
  op : Int
  by_ : Int
  ex : Int
/-- A datagram, as far as a table looks at it. -/
structure GA where
  ver : Int
  ep : Int
  id : Int
  ix : Int
  cnt : Int
  body : List Int
def isK (f e i : Int) (o : OA) : Bool := o.fr == f && o.ep == e && o.id == i
theorem isK_iff {f e i : Int} {o : OA} : isK f e i o = true ↔ o.fr = f ∧ o.ep = e ∧ o.id = i := by
  unfold isK; simp [and_assoc]
def held (os : List OA) : Int := (os.map fun o => size o.ps).sum
theorem held_nn (os : List OA) : 0 ≤ held os := by
  unfold held
  induction os with
  | nil => simp
  | cons x r ih => have := size_nn x.ps; simp only [List.map_cons, List.sum_cons]; omega
theorem held_app (a b : List OA) : held (a ++ b) = held a + held b := by simp [held]
theorem held_cons (o : OA) (r : List OA) : held (o :: r) = size o.ps + held r := by simp [held]
/-- The place of the first that is so; the length, if none is. -/
def idx {α : Type} (p : α → Bool) : List α → Nat
  | [] => 0
  | x :: r => if p x = true then 0 else idx p r + 1
section
variable {α : Type}
theorem idx_le (p : α → Bool) : ∀ os : List α, idx p os ≤ os.length
  | [] => Nat.le_refl _
  | x :: r => by
    unfold idx
    split
    · exact Nat.zero_le _
    · have := idx_le p r
      simp only [List.length_cons]; omega
theorem idx_lt {p : α → Bool} : ∀ {os : List α}, (∃ x ∈ os, p x = true) → idx p os < os.length
  | [], h => by obtain ⟨x, hx, _⟩ := h; simp at hx
  | x :: r, h => by
    unfold idx
    by_cases hp : p x = true
    · rw [if_pos hp]; simp
    · rw [if_neg hp]
      have : ∃ y ∈ r, p y = true := by
        obtain ⟨y, hy, hpy⟩ := h
        rcases List.mem_cons.1 hy with rfl | hy
        · exact absurd hpy hp
        · exact ⟨y, hy, hpy⟩
      have := idx_lt this
      simp only [List.length_cons]; omega
theorem idx_hit {p : α → Bool} : ∀ {os : List α} (h : idx p os < os.length), p os[idx p os] = true
  | [], h => absurd h (Nat.not_lt_zero _)
  | x :: r, h => by
    unfold idx at h
    by_cases hp : p x = true
    · simp only [idx, if_pos hp, List.getElem_cons_zero]; exact hp
    · have h' : idx p r < r.length := by rw [if_neg hp] at h; simpa using h
      simp only [idx, if_neg hp, List.getElem_cons_succ]
      exact idx_hit h'
theorem idx_no {p : α → Bool} : ∀ {os : List α}, idx p os = os.length → ∀ x ∈ os, p x = false
  | [], _, x, hx => by simp at hx
  | y :: r, h, x, hx => by
    unfold idx at h
    by_cases hp : p y = true
    · rw [if_pos hp] at h; simp at h
    · rw [if_neg hp] at h
      rcases List.mem_cons.1 hx with rfl | hx
      · simpa using hp
      · exact idx_no (by simpa using h) x hx
theorem idx_before {p : α → Bool} : ∀ {os : List α} (j : Nat) (hj : j < idx p os) (h : j < os.length), p os[j] = false
  | [], j, hj, h => absurd h (Nat.not_lt_zero _)
  | x :: r, j, hj, h => by
    unfold idx at hj
    by_cases hp : p x = true
    · rw [if_pos hp] at hj; omega
    · rw [if_neg hp] at hj
      cases j with
      | zero => simpa using hp
      | succ j => exact idx_before (os := r) j (by omega) (by simpa using h)
theorem idx_is {p : α → Bool} : ∀ {os : List α} (k : Nat) (hk : k < os.length), p os[k] = true → (∀ j, (hj : j < k) → p (os[j]'(by omega)) = false) → idx p os = k
  | [], k, hk, _, _ => absurd hk (Nat.not_lt_zero _)
  | x :: r, 0, hk, hp, _ => by unfold idx; exact if_pos hp
  | x :: r, k + 1, hk, hp, ho => by
    have h0 : ¬ p x = true := by have := ho 0 (by omega); simpa using this
    unfold idx
    rw [if_neg h0, idx_is (os := r) k (by simpa using hk) hp (fun j hj => ho (j + 1) (by omega))]
theorem idx_all {p : α → Bool} : ∀ {os : List α}, (∀ x ∈ os, p x = false) → idx p os = os.length
  | [], _ => rfl
  | x :: r, h => by
    unfold idx
    rw [if_neg (by have := h x (by simp); simp [this]), idx_all (os := r) (fun y hy => h y (by simp [hy]))]
    rfl
theorem idx_map {β : Type} (f : β → α) (p : α → Bool) : ∀ os : List β, idx p (os.map f) = idx (fun x => p (f x)) os
  | [] => rfl
  | x :: r => by rw [List.map_cons]; unfold idx; rw [idx_map f p r]
/-- The place, or -1. -/
def ixI (p : α → Bool) (os : List α) : Int := if idx p os < os.length then (idx p os : Int) else -1
theorem ixI_hit {p : α → Bool} {os : List α} (d : α) (k : Nat) (hk : k < os.length) (hp : p (os.getD k d) = true) (ho : ∀ j, j < k → p (os.getD j d) = false) : ixI p os = k := by
  have e : ∀ j (hj : j < os.length), os.getD j d = os[j] := fun j hj => by rw [List.getD_eq_getElem?_getD, List.getElem?_eq_getElem hj]; rfl
  have : idx p os = k := idx_is k hk (by rw [← e k hk]; exact hp) (fun j hj => by rw [← e j (by omega)]; exact ho j hj)
  unfold ixI
  rw [this, if_pos hk]
theorem ixI_miss {p : α → Bool} {os : List α} (d : α) (ho : ∀ j, j < os.length → p (os.getD j d) = false) : ixI p os = -1 := by
  have : idx p os = os.length := idx_all (fun x hx => by
    obtain ⟨j, hj, rfl⟩ := List.getElem_of_mem hx
    have := ho j hj
    rw [List.getD_eq_getElem?_getD, List.getElem?_eq_getElem hj] at this
    exact this)
  unfold ixI
  rw [this, if_neg (Nat.lt_irrefl _)]
end
/-- Those that go, the oldest ones first, but one, until what is held is no more than may be. -/
def fit (L : Lim) (f e i : Int) : Nat → List OA → List OA
  | 0, os => os
  | n + 1, os => if held os > L.by_ then fit L f e i n (os.eraseIdx (idx (fun o => !isK f e i o) os)) else os
/-- What a table is, and tells, behind a part that was taken. -/
def fin (L : Lim) (f e i : Int) (os : List OA) : List OA × List Int × Bool :=
  let os2 := fit L f e i os.length os
  match os2[idx (isK f e i) os2]? with
  | some o => if (o.ps.length : Int) = o.cnt then (os2.eraseIdx (idx (isK f e i) os2), whole o.ps o.cnt.toNat, true) else (os2, [], false)
  | none => (os2, [], false)
/-- What a table is, and tells, behind a part: the messages, the bytes, whether, and why not. -/
def put (L : Lim) (os : List OA) (f : Int) (g : GA) : List OA × List Int × Bool × Int :=
  let k := idx (isK f g.ep g.id) os
  match os[k]? with
  | some o =>
    if g.ix < g.cnt ∧ o.cnt = g.cnt ∧ o.ver = g.ver ∧ has o.ps g.ix = true then (os, [], false, 12)
    else if g.cnt ≤ g.ix then (os, [], false, 1)
    else if o.cnt ≠ g.cnt ∨ o.ver ≠ g.ver then (os, [], false, 3)
    else if size o.ps > L.by_ - g.body.length then (os.eraseIdx k, [], false, 10)
    else let r := fin L f g.ep g.id (os.set k { o with ps := o.ps ++ [(g.ix, g.body)] }); (r.1, r.2.1, r.2.2, 0)
  | none =>
    if g.cnt ≤ g.ix then (os, [], false, 1)
    else if 0 > L.by_ - g.body.length then (os, [], false, 10)
    else let os1 := if (os.length : Int) ≥ L.op then os.eraseIdx 0 else os
      let r := fin L f g.ep g.id (os1 ++ [⟨f, g.ep, g.id, g.cnt, g.ver, 0, [(g.ix, g.body)]⟩]); (r.1, r.2.1, r.2.2, 0)
def tick (L : Lim) (os : List OA) : List OA := (os.map fun o => { o with age := o.age + 1 }).filter fun o => decide (o.age ≤ L.ex)
end Go.Proofs.Ytaeelmkpjgmdlaa.Room
