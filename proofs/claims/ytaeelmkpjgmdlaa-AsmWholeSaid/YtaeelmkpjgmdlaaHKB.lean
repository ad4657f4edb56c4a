/- Mine. Chapters 22 and 23, by hand: the texts R, O, B, D, I, one behind the other. -/
import Derived.Test.YtaeelmkpjgmdlaaHKA
/- Mine. Chapter 22: what a table does, in plain Lean: messages that are open, each with its parts as they came. -/
namespace Go.Proofs.Ytaeelmkpjgmdlaa.Room
set_option linter.unusedVariables false
set_option linter.unusedSimpArgs false
/-- Parts: places and bytes, as they came. -/
abbrev Pt := List (Int × List Int)
def size (ps : Pt) : Int := (ps.map fun x => (x.2.length : Int)).sum
def has (ps : Pt) (i : Int) : Bool := ps.any fun x => x.1 == i
def at_ (ps : Pt) (i : Int) : List Int := ((ps.find? fun x => x.1 == i).map Prod.snd).getD []
def whole (ps : Pt) (n : Nat) : List Int := (List.range n).flatMap fun (i : Nat) => at_ ps i
theorem size_nn (ps : Pt) : 0 ≤ size ps := by
  unfold size
  induction ps with
  | nil => simp
  | cons x r ih => simp only [List.map_cons, List.sum_cons]; omega
theorem size_app (a b : Pt) : size (a ++ b) = size a + size b := by simp [size]
theorem size_snoc (a : Pt) (i : Int) (l : List Int) : size (a ++ [(i, l)]) = size a + l.length := by simp [size]
/-- An open message. -/
structure OA where
  fr : Int
  ep : Int
  id : Int
  cnt : Int
  ver : Int
  age : Int
  ps : Pt
structure Lim where
  op : Int
  by_ : Int
  ex : Int
/-- A datagram, as far as a table looks at it. -/
structure GA where
  ver : Int
  ep : Int
  id : Int
  ix : Int
  cnt : Int
  body : List Int
def isK (f e i : Int) (o : OA) : Bool := o.fr == f && o.ep == e && o.id == i
theorem isK_iff {f e i : Int} {o : OA} : isK f e i o = true ↔ o.fr = f ∧ o.ep = e ∧ o.id = i := by
  unfold isK; simp [and_assoc]
def held (os : List OA) : Int := (os.map fun o => size o.ps).sum
theorem held_nn (os : List OA) : 0 ≤ held os := by
  unfold held
  induction os with
  | nil => simp
  | cons x r ih => have := size_nn x.ps; simp only [List.map_cons, List.sum_cons]; omega
theorem held_app (a b : List OA) : held (a ++ b) = held a + held b := by simp [held]
theorem held_cons (o : OA) (r : List OA) : held (o :: r) = size o.ps + held r := by simp [held]
/-- The place of the first that is so; the length, if none is. -/
def idx {α : Type} (p : α → Bool) : List α → Nat
  | [] => 0
  | x :: r => if p x = true then 0 else idx p r + 1
section
variable {α : Type}
theorem idx_le (p : α → Bool) : ∀ os : List α, idx p os ≤ os.length
  | [] => Nat.le_refl _
  | x :: r => by
    unfold idx
    split
    · exact Nat.zero_le _
    · have := idx_le p r
      simp only [List.length_cons]; omega
theorem idx_lt {p : α → Bool} : ∀ {os : List α}, (∃ x ∈ os, p x = true) → idx p os < os.length
  | [], h => by obtain ⟨x, hx, _⟩ := h; simp at hx
  | x :: r, h => by
    unfold idx
    by_cases hp : p x = true
    · rw [if_pos hp]; simp
    · rw [if_neg hp]
      have : ∃ y ∈ r, p y = true := by
        obtain ⟨y, hy, hpy⟩ := h
        rcases List.mem_cons.1 hy with rfl | hy
        · exact absurd hpy hp
        · exact ⟨y, hy, hpy⟩
      have := idx_lt this
      simp only [List.length_cons]; omega
theorem idx_hit {p : α → Bool} : ∀ {os : List α} (h : idx p os < os.length), p os[idx p os] = true
  | [], h => absurd h (Nat.not_lt_zero _)
  | x :: r, h => by
    unfold idx at h
    by_cases hp : p x = true
    · simp only [idx, if_pos hp, List.getElem_cons_zero]; exact hp
    · have h' : idx p r < r.length := by rw [if_neg hp] at h; simpa using h
      simp only [idx, if_neg hp, List.getElem_cons_succ]
      exact idx_hit h'
theorem idx_no {p : α → Bool} : ∀ {os : List α}, idx p os = os.length → ∀ x ∈ os, p x = false
  | [], _, x, hx => by simp at hx
  | y :: r, h, x, hx => by
    unfold idx at h
    by_cases hp : p y = true
    · rw [if_pos hp] at h; simp at h
    · rw [if_neg hp] at h
      rcases List.mem_cons.1 hx with rfl | hx
      · simpa using hp
      · exact idx_no (by simpa using h) x hx
theorem idx_before {p : α → Bool} : ∀ {os : List α} (j : Nat) (hj : j < idx p os) (h : j < os.length), p os[j] = false
  | [], j, hj, h => absurd h (Nat.not_lt_zero _)
  | x :: r, j, hj, h => by
    unfold idx at hj
    by_cases hp : p x = true
    · rw [if_pos hp] at hj; omega
    · rw [if_neg hp] at hj
      cases j with
      | zero => simpa using hp
      | succ j => exact idx_before (os := r) j (by omega) (by simpa using h)
theorem idx_is {p : α → Bool} : ∀ {os : List α} (k : Nat) (hk : k < os.length), p os[k] = true → (∀ j, (hj : j < k) → p (os[j]'(by omega)) = false) → idx p os = k
  | [], k, hk, _, _ => absurd hk (Nat.not_lt_zero _)
  | x :: r, 0, hk, hp, _ => by unfold idx; exact if_pos hp
  | x :: r, k + 1, hk, hp, ho => by
    have h0 : ¬ p x = true := by have := ho 0 (by omega); simpa using this
    unfold idx
    rw [if_neg h0, idx_is (os := r) k (by simpa using hk) hp (fun j hj => ho (j + 1) (by omega))]
theorem idx_all {p : α → Bool} : ∀ {os : List α}, (∀ x ∈ os, p x = false) → idx p os = os.length
  | [], _ => rfl
  | x :: r, h => by
    unfold idx
    rw [if_neg (by have := h x (by simp); simp [this]), idx_all (os := r) (fun y hy => h y (by simp [hy]))]
    rfl
theorem idx_map {β : Type} (f : β → α) (p : α → Bool) : ∀ os : List β, idx p (os.map f) = idx (fun x => p (f x)) os
  | [] => rfl
  | x :: r => by rw [List.map_cons]; unfold idx; rw [idx_map f p r]
/-- The place, or -1. -/
def ixI (p : α → Bool) (os : List α) : Int := if idx p os < os.length then (idx p os : Int) else -1
theorem ixI_hit {p : α → Bool} {os : List α} (d : α) (k : Nat) (hk : k < os.length) (hp : p (os.getD k d) = true) (ho : ∀ j, j < k → p (os.getD j d) = false) : ixI p os = k := by
  have e : ∀ j (hj : j < os.length), os.getD j d = os[j] := fun j hj => by rw [List.getD_eq_getElem?_getD, List.getElem?_eq_getElem hj]; rfl
  have : idx p os = k := idx_is k hk (by rw [← e k hk]; exact hp) (fun j hj => by rw [← e j (by omega)]; exact ho j hj)
  unfold ixI
  rw [this, if_pos hk]
theorem ixI_miss {p : α → Bool} {os : List α} (d : α) (ho : ∀ j, j < os.length → p (os.getD j d) = false) : ixI p os = -1 := by
  have : idx p os = os.length := idx_all (fun x hx => by
    obtain ⟨j, hj, rfl⟩ := List.getElem_of_mem hx
    have := ho j hj
    rw [List.getD_eq_getElem?_getD, List.getElem?_eq_getElem hj] at this
    exact this)
  unfold ixI
  rw [this, if_neg (Nat.lt_irrefl _)]
end
/-- Those that go, the oldest ones first, but one, until what is held is no more than may be. -/
def fit (L : Lim) (f e i : Int) : Nat → List OA → List OA
  | 0, os => os
  | n + 1, os => if held os > L.by_ then fit L f e i n (os.eraseIdx (idx (fun o => !isK f e i o) os)) else os
/-- What a table is, and tells, behind a part that was taken. -/
def fin (L : Lim) (f e i : Int) (os : List OA) : List OA × List Int × Bool :=
  let os2 := fit L f e i os.length os
  match os2[idx (isK f e i) os2]? with
  | some o => if (o.ps.length : Int) = o.cnt then (os2.eraseIdx (idx (isK f e i) os2), whole o.ps o.cnt.toNat, true) else (os2, [], false)
  | none => (os2, [], false)
/-- What a table is, and tells, behind a part: the messages, the bytes, whether, and why not. -/
def put (L : Lim) (os : List OA) (f : Int) (g : GA) : List OA × List Int × Bool × Int :=
  let k := idx (isK f g.ep g.id) os
  match os[k]? with
  | some o =>
    if g.ix < g.cnt ∧ o.cnt = g.cnt ∧ o.ver = g.ver ∧ has o.ps g.ix = true then (os, [], false, 12)
    else if g.cnt ≤ g.ix then (os, [], false, 1)
    else if o.cnt ≠ g.cnt ∨ o.ver ≠ g.ver then (os, [], false, 3)
    else if size o.ps > L.by_ - g.body.length then (os.eraseIdx k, [], false, 10)
    else let r := fin L f g.ep g.id (os.set k { o with ps := o.ps ++ [(g.ix, g.body)] }); (r.1, r.2.1, r.2.2, 0)
  | none =>
    if g.cnt ≤ g.ix then (os, [], false, 1)
    else if 0 > L.by_ - g.body.length then (os, [], false, 10)
    else let os1 := if (os.length : Int) ≥ L.op then os.eraseIdx 0 else os
      let r := fin L f g.ep g.id (os1 ++ [⟨f, g.ep, g.id, g.cnt, g.ver, 0, [(g.ix, g.body)]⟩]); (r.1, r.2.1, r.2.2, 0)
def tick (L : Lim) (os : List OA) : List OA := (os.map fun o => { o with age := o.age + 1 }).filter fun o => decide (o.age ≤ L.ex)
end Go.Proofs.Ytaeelmkpjgmdlaa.Room

/- Mine. Chapters 22 and 23, by hand: parts as objects, told by their places and bytes; a row of open messages. -/
namespace Go.Proofs.Ytaeelmkpjgmdlaa.H
open Go Go.Proofs Go.RowKit Go.Lib Go.Proofs.Ytaeelmkpjgmdlaa.P Go.Proofs.YtaeelmkpjgmdlaaW.PrintWords Go.Proofs.YtaeelmkpjgmdlaaW.PrintLast Go.Proofs.YtaeelmkpjgmdlaaW.PrintMore Go.Proofs.YtaeelmkpjgmdlaaW.PrintFlat
set_option linter.unusedVariables false
set_option linter.unusedSimpArgs false
abbrev pt (q : Q) : Int × List Int := (q.i, q.bs)
theorem has_pt (qs : List Q) (i : Int) : (qs.any fun x => x.i == i) = Room.has (qs.map pt) i := by
  unfold Room.has
  rw [List.any_map]
  rfl
theorem tot_pt (qs : List Q) : tot qs = Room.size (qs.map pt) := by
  unfold tot Room.size
  rw [List.map_map]
  rfl
theorem bAt_pt (qs : List Q) (i : Int) : bAt qs i = Room.at_ (qs.map pt) i := by
  unfold bAt Room.at_
  rw [List.find?_map]
  show _ = ((Option.map pt (List.find? (fun x : Q => x.i == i) qs)).map Prod.snd).getD []
  cases List.find? (fun x : Q => x.i == i) qs <;> rfl
theorem whole_pt (qs : List Q) (n : Nat) : whole qs n = Room.whole (qs.map pt) n := by
  unfold whole Room.whole
  have : (fun (i : Nat) => bAt qs i) = fun (i : Nat) => Room.at_ (qs.map pt) i := funext fun i => bAt_pt qs i
  rw [this]
theorem places_pt (qs : List Q) : (qs.map pt).map Prod.fst = qs.map Q.i := by rw [List.map_map]; rfl
/-- The program's parts. -/
def PA (own : Nat → Prop) (p : Nat) (c : Int) (ps : Room.Pt) (W : World) : Prop := ∃ b qs, CS own p b c qs W ∧ qs.map pt = ps
theorem PA.frame {own S : Nat → Prop} {p : Nat} {c : Int} {ps : Room.Pt} {W W' : World} (h : PA own p c ps W) (hf : Fr S W W') (hd : ∀ k, own k → ¬ S k) : PA own p c ps W' := by
  obtain ⟨b, qs, h1, h2⟩ := h
  exact ⟨b, qs, h1.frame hf hd, h2⟩
theorem PA.lt {own : Nat → Prop} {p : Nat} {c : Int} {ps : Room.Pt} {W : World} (h : PA own p c ps W) : ∀ k, own k → k < W.heap.size := by
  obtain ⟨b, qs, h1, h2⟩ := h
  exact h1.lt
theorem PA.nd {own : Nat → Prop} {p : Nat} {c : Int} {ps : Room.Pt} {W : World} (h : PA own p c ps W) : (ps.map Prod.fst).Nodup := by
  obtain ⟨b, qs, h1, rfl⟩ := h
  rw [places_pt]; exact h1.nd
theorem PA.rg {own : Nat → Prop} {p : Nat} {c : Int} {ps : Room.Pt} {W : World} (h : PA own p c ps W) : ∀ x ∈ ps, 0 ≤ x.1 ∧ x.1 < c := by
  obtain ⟨b, qs, h1, rfl⟩ := h
  intro x hx
  obtain ⟨q, hq, rfl⟩ := List.mem_map.1 hx
  exact h1.rg q hq
theorem PA.op {own : Nat → Prop} {p : Nat} {c : Int} {ps : Room.Pt} {W : World} (h : PA own p c ps W) : own p := by
  obtain ⟨b, qs, h1, rfl⟩ := h
  exact h1.op
theorem pt_len {ps : Room.Pt} {c : Int} (hn : (ps.map Prod.fst).Nodup) (hr : ∀ x ∈ ps, 0 ≤ x.1 ∧ x.1 < c) (hc : 0 ≤ c) : (ps.length : Int) ≤ c := by
  have h := len_le_of_sub (ps.map Prod.fst) ((List.range c.toNat).map fun (n : Nat) => (n : Int)) hn (fun x hx => by
    obtain ⟨y, hy, rfl⟩ := List.mem_map.1 hx
    have := hr y hy
    exact List.mem_map.2 ⟨y.1.toNat, by simp; omega, by omega⟩)
  simp at h
  omega
theorem PA.len {own : Nat → Prop} {p : Nat} {c : Int} {ps : Room.Pt} {W : World} (h : PA own p c ps W) (hc : 0 ≤ c) : (ps.length : Int) ≤ c := pt_len h.nd h.rg hc
theorem has_ok {own : Nat → Prop} {p : Nat} {c : Int} {ps : Room.Pt} {W : World} (h : PA own p c ps W) (i : Int) (hi : (Lit.int .i64 i).wf = true) :
    Calls Try.prog 58 #[.pointer (some ⟨p, 0, none⟩), .int .i64 i] W fun e w' => e = .returned (.bool (Room.has ps i)) ∧ Below W.heap.size W w' := by
  obtain ⟨b, qs, h1, rfl⟩ := h
  refine (has_calls h1 i hi).mono ?_
  rintro e w' ⟨he, hb⟩
  exact ⟨by rw [he, has_pt], hb⟩
set_option maxRecDepth 100000 in
set_option maxHeartbeats 1000000 in
theorem has_same0 {own : Nat → Prop} {p b : Nat} {c : Int} {qs : List Q} {W : World} (h : CS own p b c qs W) (i : Int) (hi : (Lit.int .i64 i).wf = true) :
    Calls Try.prog 58 #[.pointer (some ⟨p, 0, none⟩), .int .i64 i] W fun e w' => e = .returned (.bool (qs.any fun x => x.i == i)) ∧ w' = W := by
  obtain ⟨g0, g1, g2, g3, _⟩ := h.cells
  have hmp := Aside0.mk h.mp
  have hk := Maps.keyOf_int_mk (P := Try.prog) Try.underlying3 hi
  have hz : ∀ w, (zeroValue 36).run Try.prog w = .ok (.slice none 0 0) w := fun w => Try.zeroValue36 w
  have hh := has_DD i qs
  have HB := Aside0.mk (Below.refl W.heap.size W)
  clear h
  go_enter Try.func58, Try.ntmps58
  go_wp2_with (first
    | (at_lookup; refine wpList_lookup_own_ok _ rfl _ _ 116 rfl 3 36 (Maps.int_keyed Try.underlying3) Try.underlying116 RV (hz _) (.held (.slice none 0 0)) [] rfl b _ _ rfl hmp.out _ _ rfl hk ?_; intro v ps hv; rw [hh])
    | go_in)
  go_ret
  exact ⟨rfl, rfl⟩
theorem has_same {own : Nat → Prop} {p : Nat} {c : Int} {ps : Room.Pt} {W : World} (h : PA own p c ps W) (i : Int) (hi : (Lit.int .i64 i).wf = true) :
    Calls Try.prog 58 #[.pointer (some ⟨p, 0, none⟩), .int .i64 i] W fun e w' => e = .returned (.bool (Room.has ps i)) ∧ w' = W := by
  obtain ⟨b, qs, h1, rfl⟩ := h
  refine (has_same0 h1 i hi).mono ?_
  rintro e w' ⟨he, hb⟩
  exact ⟨by rw [he, has_pt], hb⟩
theorem size_ok {own : Nat → Prop} {p : Nat} {c : Int} {ps : Room.Pt} {W : World} (h : PA own p c ps W) :
    Calls Try.prog 42 #[.pointer (some ⟨p, 0, none⟩)] W fun e w' => e = .returned (.int .i64 (Room.size ps)) ∧ Below W.heap.size W w' := by
  obtain ⟨b, qs, h1, rfl⟩ := h
  refine (size_calls h1).mono ?_
  rintro e w' ⟨he, hb⟩
  exact ⟨by rw [he, tot_pt], hb⟩
theorem add_ok {own : Nat → Prop} {p : Nat} {c : Int} {ps : Room.Pt} {W : World} (h : PA own p c ps W) (i : Int) (hi0 : 0 ≤ i) (hi1 : i < c) (hc : c ≤ 65535) (hh : Room.has ps i = false) (A : Option Addr) (cp : Nat) (l : List Int) (hcp : l.length ≤ cp)
    (hbody : ∀ V, Fr own W V → Kd.C (Kd.int .u8) V A l.length l) (hl : l.length ≤ 140737488355328) (ht : Room.size ps ≤ 4611686018427387904) :
    Calls Try.prog 33 #[.pointer (some ⟨p, 0, none⟩), .int .i64 i, .slice A l.length cp] W fun e w' => e = .returned (.int .i64 0) ∧ Fr own W w' ∧ PA (fun k => own k ∨ W.heap.size ≤ k ∧ k < w'.heap.size) p c (ps ++ [(i, l)]) w' := by
  have hlen := h.len (by omega)
  obtain ⟨b, qs, h1, rfl⟩ := h
  rw [← tot_pt] at ht
  rw [← has_pt] at hh
  have hq : qs.length ≤ 65535 := by rw [List.length_map] at hlen; omega
  have h0 : 0 ≤ tot qs := by rw [tot_pt]; exact Room.size_nn _
  refine (add_calls h1 i (by simp [Lit.wf, IntKind.min, IntKind.max, IntKind.bits, IntKind.signed]; omega) A cp l hcp hbody hl h0 ht hq).mono ?_
  rintro e w' ⟨hf, (⟨hb, _⟩ | ⟨_, hx, _⟩ | ⟨_, _, he, v, hCS⟩)⟩
  · omega
  · rw [hh] at hx; cases hx
  · exact ⟨he, hf, b, _, hCS, by rw [List.map_append]; rfl⟩
theorem whole_ok {own : Nat → Prop} {p : Nat} {c : Int} {ps : Room.Pt} {W : World} (h : PA own p c ps W) (hc : c ≤ 65535) (hc0 : 0 ≤ c) (ht : Room.size ps ≤ 4194304) :
    Calls Try.prog 35 #[.pointer (some ⟨p, 0, none⟩)] W fun e w' => Below W.heap.size W w' ∧
      (((ps.length : Int) < c ∧ e = .returned (.tuple #[.slice none 0 0, .bool false])) ∨ ((ps.length : Int) = c ∧ ∃ v, e = .returned (.tuple #[v, .bool true]) ∧ Kd.R (Kd.int .u8) 5 w' W.heap.size (fun _ => True) v (Room.whole ps c.toNat))) := by
  have hlen := h.len hc0
  obtain ⟨b, qs, h1, rfl⟩ := h
  rw [List.length_map] at hlen
  have h0 : 0 ≤ tot qs := by rw [tot_pt]; exact Room.size_nn _
  rw [← tot_pt] at ht
  refine (whole_calls h1 hc hc0 (by omega) ht h0).mono ?_
  rintro e w' ⟨hb, (⟨h2, he⟩ | ⟨h2, v, he, hR⟩)⟩
  · exact ⟨hb, .inl ⟨by rw [List.length_map]; exact h2, he⟩⟩
  · exact ⟨hb, .inr ⟨by rw [List.length_map]; omega, v, he, by rw [← whole_pt]; exact hR⟩⟩
theorem pnew_ok (c : Int) (W : World) (h0 : 1 ≤ c) (h1 : c ≤ 65535) : Calls Try.prog 60 #[.int .i64 c] W fun e w' => ∃ p, e = .returned (.tuple #[.pointer (some ⟨p, 0, none⟩), .int .i64 0]) ∧ Below W.heap.size W w' ∧ PA (fun k => W.heap.size ≤ k ∧ k < w'.heap.size) p c [] w' := by
  refine (new_calls c W).mono ?_
  rintro e w' ⟨hb, (⟨_, _, p, b, he, hp, hbb, hCS⟩ | ⟨h, _⟩)⟩
  · refine ⟨p, he, hb, b, [], ?_, rfl⟩
    have l1 := hCS.lt p (.inl rfl)
    have l2 := hCS.lt b (.inr rfl)
    exact { hCS with op := ⟨hp, l1⟩, ob := ⟨hbb, l2⟩, el := fun x hx => by simp at hx, lt := fun k hk => hk.2 }
  · omega
/-! the reference's parts -/
abbrev sOf (ps : Room.Pt) : List ByteArray := ps.map fun x => strOfNums x.2
abbrev qOf (ps : Room.Pt) : List Q := ps.map fun x => (⟨x.1, .slice none 0 0, x.2⟩ : Q)
theorem qOf_i (ps : Room.Pt) : psOf (qOf ps) = ps.map Prod.fst := by unfold psOf qOf; rw [List.map_map]; rfl
theorem qOf_s (ps : Room.Pt) : ssOf (qOf ps) = sOf ps := by unfold ssOf qOf sOf; rw [List.map_map]; rfl
theorem qOf_pt (ps : Room.Pt) : (qOf ps).map pt = ps := by unfold qOf; rw [List.map_map]; exact List.map_id _
structure PB (own : Nat → Prop) (p : Nat) (c : Int) (ps : Room.Pt) (W : World) : Prop where
  rs : RS own p c (ps.map Prod.fst) (sOf ps) W
  op : own p
  nd : (ps.map Prod.fst).Nodup
  rg : ∀ x ∈ ps, 0 ≤ x.1 ∧ x.1 < c
theorem PB.frame {own S : Nat → Prop} {p : Nat} {c : Int} {ps : Room.Pt} {W W' : World} (h : PB own p c ps W) (hf : Fr S W W') (hd : ∀ k, own k → ¬ S k) : PB own p c ps W' := ⟨h.rs.frame hf hd, h.op, h.nd, h.rg⟩
theorem PB.lt {own : Nat → Prop} {p : Nat} {c : Int} {ps : Room.Pt} {W : World} (h : PB own p c ps W) : ∀ k, own k → k < W.heap.size := h.rs.lt
theorem PB.len {own : Nat → Prop} {p : Nat} {c : Int} {ps : Room.Pt} {W : World} (h : PB own p c ps W) (hc : 0 ≤ c) : (ps.length : Int) ≤ c := pt_len h.nd h.rg hc
theorem sizes_pt (ps : Room.Pt) : sizes (sOf ps) = Room.size ps := by
  unfold sizes Room.size sOf
  rw [List.map_map]
  have : ((fun x : ByteArray => (x.size : Int)) ∘ fun x : Int × List Int => strOfNums x.2) = fun x => (x.2.length : Int) := funext fun x => by simp [strOfNums_size]
  rw [this]
theorem rhas_ok {own : Nat → Prop} {p : Nat} {c : Int} {ps : Room.Pt} {W : World} (h : PB own p c ps W) (i : Int) (hc : c ≤ 65535) (hc0 : 0 ≤ c) :
    Calls Try.prog 37 #[.pointer (some ⟨p, 0, none⟩), .int .i64 i] W fun e w' => e = .returned (.bool (Room.has ps i)) ∧ Below W.heap.size W w' := by
  refine (rhas_calls h.rs i (by have := h.len hc0; rw [List.length_map]; omega)).mono ?_
  rintro e w' ⟨he, hb⟩
  refine ⟨?_, hb⟩
  rw [he]
  unfold Room.has
  rw [List.any_map]
  rfl
theorem rsize_ok {own : Nat → Prop} {p : Nat} {c : Int} {ps : Room.Pt} {W : World} (h : PB own p c ps W) (hc : c ≤ 65535) (hc0 : 0 ≤ c) (ht : Room.size ps ≤ 4611686018427387904) :
    Calls Try.prog 38 #[.pointer (some ⟨p, 0, none⟩)] W fun e w' => e = .returned (.int .i64 (Room.size ps)) ∧ Below W.heap.size W w' := by
  rw [← sizes_pt] at ht ⊢
  exact rsize_calls h.rs (by have := h.len hc0; rw [List.length_map]; omega) ht
theorem radd_ok {own : Nat → Prop} {p : Nat} {c : Int} {ps : Room.Pt} {W : World} (h : PB own p c ps W) (i : Int) (hi0 : 0 ≤ i) (hi1 : i < c) (hc : c ≤ 65535) (hh : Room.has ps i = false) (l : List Int) :
    Calls Try.prog 40 #[.pointer (some ⟨p, 0, none⟩), .int .i64 i, .string (strOfNums l)] W fun e w' => e = .returned (.int .i64 0) ∧ Fr own W w' ∧ PB (fun k => own k ∨ W.heap.size ≤ k ∧ k < w'.heap.size) p c (ps ++ [(i, l)]) w' := by
  have hlen := h.len (by omega)
  have hh2 : ((ps.map Prod.fst).any fun x => x == i) = false := by rw [List.any_map]; exact hh
  refine (radd_calls h.rs i (strOfNums l) (by rw [List.length_map]; omega) (by rw [List.length_map]; omega)).mono ?_
  rintro e w' ⟨hf, (⟨hb, _⟩ | ⟨_, hx, _⟩ | ⟨_, _, he, hRS⟩)⟩
  · omega
  · rw [hh2] at hx; cases hx
  · refine ⟨he, hf, ⟨by simpa [sOf] using hRS, .inl h.op, ?_, fun x hx => ?_⟩⟩
    · rw [List.map_append, List.nodup_append]
      refine ⟨h.nd, by simp, fun a ha b hb e => ?_⟩
      subst e
      have hai : a = i := by simpa using hb
      subst hai
      obtain ⟨x, hx, hxi⟩ := List.mem_map.1 ha
      have : Room.has ps a = true := List.any_eq_true.2 ⟨x, hx, by simp [hxi]⟩
      rw [hh] at this; cases this
    · rcases List.mem_append.1 hx with hx | hx
      · exact h.rg x hx
      · obtain rfl : x = (i, l) := by simpa using hx
        exact ⟨hi0, hi1⟩
theorem rwhole_ok {own : Nat → Prop} {p : Nat} {c : Int} {ps : Room.Pt} {W : World} (h : PB own p c ps W) (hc : c ≤ 65535) (hc0 : 0 ≤ c) (ht : Room.size ps ≤ 4194304) :
    Calls Try.prog 41 #[.pointer (some ⟨p, 0, none⟩)] W fun e w' => Below W.heap.size W w' ∧
      (((ps.length : Int) < c ∧ e = .returned (.tuple #[.string ByteArray.empty, .bool false])) ∨ ((ps.length : Int) = c ∧ e = .returned (.tuple #[.string (strOfNums (Room.whole ps c.toNat)), .bool true]))) := by
  have hlen := h.len hc0
  have hrs : RS own p c (psOf (qOf ps)) (ssOf (qOf ps)) W := by rw [qOf_i, qOf_s]; exact h.rs
  have e1 : tot (qOf ps) = Room.size ps := by rw [tot_pt, qOf_pt]
  have e2 : (qOf ps).length = ps.length := List.length_map _
  refine (rwhole_calls hrs hc hc0 (by omega) (by rw [show (qOf ps).map Q.i = ps.map Prod.fst from qOf_i ps]; exact h.nd) (fun x hx => ?_) (by rw [e1]; exact ht) (by rw [e1]; exact Room.size_nn _)).mono ?_
  · obtain ⟨y, hy, rfl⟩ := List.mem_map.1 hx
    exact h.rg y hy
  · rintro e w' ⟨hb, (⟨h2, he⟩ | ⟨h2, he⟩)⟩
    · exact ⟨hb, .inl ⟨by omega, he⟩⟩
    · refine ⟨hb, .inr ⟨by omega, ?_⟩⟩
      rw [he, whole_pt, qOf_pt]
end Go.Proofs.Ytaeelmkpjgmdlaa.H

/- Mine. Chapters 22 and 23, by hand: rows of open messages, whose parts lie behind pointers. -/
namespace Go.Proofs.Ytaeelmkpjgmdlaa.H
open Go Go.Proofs Go.RowKit Go.Lib Go.Proofs.Ytaeelmkpjgmdlaa.P Go.Proofs.YtaeelmkpjgmdlaaW.PrintWords Go.Proofs.YtaeelmkpjgmdlaaW.PrintLast Go.Proofs.YtaeelmkpjgmdlaaW.PrintMore Go.Proofs.YtaeelmkpjgmdlaaW.PrintFlat
set_option linter.unusedVariables false
set_option linter.unusedSimpArgs false
/-- An open message: what it is, where its parts are, and which blocks are theirs. -/
structure OB where
  a : Room.OA
  p : Nat
  own : Nat → Prop
abbrev cellsB (o : OB) : List Value := [.int .u16 o.a.fr, .int .u32 o.a.ep, .int .u32 o.a.id, .int .u16 o.a.cnt, .int .u8 o.a.ver, .int .i64 o.a.age, .pointer (some ⟨o.p, 0, none⟩)]
abbrev valB (o : OB) : Value := .agg #[.int .u16 o.a.fr, .int .u32 o.a.ep, .int .u32 o.a.id, .int .u16 o.a.cnt, .int .u8 o.a.ver, .int .i64 o.a.age, .pointer (some ⟨o.p, 0, none⟩)]
def zB : OB := ⟨⟨0, 0, 0, 0, 0, 0, []⟩, 0, fun _ => False⟩
def k7 : Kd OB := Kd.iso (Kd.raw 7) cellsB
def rd7 (xs : List OB) (i : Int) : OB := xs.getD i.toNat zB
theorem rd7_eq {xs : List OB} {k : Nat} (h : k < xs.length) : rd7 xs (k : Int) = xs[k] := by
  unfold rd7
  rw [Int.toNat_natCast, List.getD_eq_getElem?_getD, List.getElem?_eq_getElem h]
  rfl
theorem k7_open {w : World} {x : OB} {cs : List Value} (h : k7.K w x cs) : cs = cellsB x := h.1
theorem k7_openM {w : World} {base : Nat} {ok : Nat → Prop} {x : OB} {cs : List Value} (h : k7.M w base ok x cs) : cs = cellsB x := h.1
theorem one7 (x : OB) : ∀ u ∈ cellsB x, u.oneCell' = true := by
  intro u hu
  simp only [cellsB, List.mem_cons, List.not_mem_nil, or_false] at hu
  rcases hu with rfl | rfl | rfl | rfl | rfl | rfl | rfl <;> rfl
theorem k7_mk (w : World) (x : OB) : k7.K w x (cellsB x) := ⟨rfl, rfl, one7 x⟩
theorem k7_mkM (w : World) (base : Nat) (ok : Nat → Prop) (x : OB) : k7.M w base ok x (cellsB x) := ⟨rfl, rfl, one7 x⟩
theorem at7 {w : World} {A : Option Addr} {n : Nat} {xs : List OB} (h : Kd.C k7 w A n xs) (i : Int) (h0 : 0 ≤ i) (h1 : i < n) : ∃ ad , A = some ad ∧
    w.cell? (ad.add (i.toNat * 7)) = some (.int .u16 (rd7 xs i).a.fr) ∧ w.cell? ⟨(ad.add (i.toNat * 7)).block, (ad.add (i.toNat * 7)).off + 1, none⟩ = some (.int .u32 (rd7 xs i).a.ep) ∧
    w.cell? ⟨(ad.add (i.toNat * 7)).block, (ad.add (i.toNat * 7)).off + 2, none⟩ = some (.int .u32 (rd7 xs i).a.id) ∧ w.cell? ⟨(ad.add (i.toNat * 7)).block, (ad.add (i.toNat * 7)).off + 3, none⟩ = some (.int .u16 (rd7 xs i).a.cnt) ∧
    w.cell? ⟨(ad.add (i.toNat * 7)).block, (ad.add (i.toNat * 7)).off + 4, none⟩ = some (.int .u8 (rd7 xs i).a.ver) ∧ w.cell? ⟨(ad.add (i.toNat * 7)).block, (ad.add (i.toNat * 7)).off + 5, none⟩ = some (.int .i64 (rd7 xs i).a.age) ∧
    w.cell? ⟨(ad.add (i.toNat * 7)).block, (ad.add (i.toNat * 7)).off + 6, none⟩ = some (.pointer (some ⟨(rd7 xs i).p, 0, none⟩)) := by
  obtain ⟨ad, c, e, _, hK, hc0⟩ := Kd.C_get h zB i h0 h1
  have hc : ∀ j u, c[j]? = some u → w.cell? (ad.add (i.toNat * 7 + j)) = some u := hc0
  obtain rfl := k7_open hK
  exact ⟨ad, e, hc 0 _ rfl, by rw [← add_field _ _ 1 (by omega)]; exact hc 1 _ rfl, by rw [← add_field _ _ 2 (by omega)]; exact hc 2 _ rfl, by rw [← add_field _ _ 3 (by omega)]; exact hc 3 _ rfl, by rw [← add_field _ _ 4 (by omega)]; exact hc 4 _ rfl, by rw [← add_field _ _ 5 (by omega)]; exact hc 5 _ rfl, by rw [← add_field _ _ 6 (by omega)]; exact hc 6 _ rfl⟩
/-- A row of open messages, each with parts of its own (OBJ). -/
structure Bag (OBJ : OB → World → Prop) (T : Nat) (own : Nat → Prop) (v : Value) (os : List OB) (W : World) : Prop where
  row : ∃ oL : Nat → Prop, k7.R T W 0 oL v os ∧ (∀ k, oL k → own k ∧ ∀ o ∈ os, ¬ o.own k)
  obj : ∀ o ∈ os, OBJ o W
  sub : ∀ o ∈ os, ∀ k, o.own k → own k
  apart : os.Pairwise fun a b => ∀ k, a.own k → ¬ b.own k
  lt : ∀ k, own k → k < W.heap.size
section
variable {OBJ : OB → World → Prop} {T : Nat} {own S : Nat → Prop} {v : Value} {os : List OB} {W W' : World}
theorem Bag.frame (h : Bag OBJ T own v os W) (hO : ∀ (o : OB) (W W' : World) (S : Nat → Prop), OBJ o W → Fr S W W' → (∀ k, o.own k → ¬ S k) → OBJ o W') (hf : Fr S W W') (hd : ∀ k, own k → ¬ S k) : Bag OBJ T own v os W' where
  row := by
    obtain ⟨oL, h1, h2⟩ := h.row
    exact ⟨oL, Kd.R_step h1 (fun k hk hlt => hf.block k hlt (hd k (h2 k hk).1)), h2⟩
  obj := fun o ho => hO o W W' S (h.obj o ho) hf (fun k hk => hd k (h.sub o ho k hk))
  sub := h.sub
  apart := h.apart
  lt := fun k hk => Nat.lt_of_lt_of_le (h.lt k hk) hf.size
theorem Bag.reads (h : Bag OBJ T own v os W) : ∃ A c, v = .slice A os.length c ∧ os.length ≤ c ∧ Kd.C k7 W A os.length os := by
  obtain ⟨oL, h1, h2⟩ := h.row
  exact Kd.R_reads h1
theorem Bag.mono {own' : Nat → Prop} (h : Bag OBJ T own v os W) (hs : ∀ k, own k → own' k) (hl : ∀ k, own' k → k < W.heap.size) : Bag OBJ T own' v os W where
  row := by
    obtain ⟨oL, h1, h2⟩ := h.row
    exact ⟨oL, h1, fun k hk => ⟨hs k (h2 k hk).1, (h2 k hk).2⟩⟩
  obj := h.obj
  sub := fun o ho k hk => hs k (h.sub o ho k hk)
  apart := h.apart
  lt := hl
/-- Behind a call that has written the row alone: fewer messages. -/
theorem Bag.sub_ (h : Bag OBJ T own v os W) (hO : ∀ (o : OB) (W W' : World) (S : Nat → Prop), OBJ o W → Fr S W W' → (∀ k, o.own k → ¬ S k) → OBJ o W') {oL : Nat → Prop} (hL : ∀ k, oL k → own k ∧ ∀ o ∈ os, ¬ o.own k) {g : Nat} (hg : oL g) {os' : List OB} {v' : Value} (hsub : os'.Sublist os)
    (hrow : k7.R T W' 0 oL v' os') (hgr : W.grownBy W' (some g)) : Bag OBJ T own v' os' W' where
  row := ⟨oL, hrow, fun k hk => ⟨(hL k hk).1, fun o ho => (hL k hk).2 o (hsub.subset ho)⟩⟩
  obj := fun o ho => hO o W W' (fun k => k = g) (h.obj o (hsub.subset ho)) (Fr.of_grown hgr rfl) (fun k hk e => (hL g hg).2 o (hsub.subset ho) (by rw [← e]; exact hk))
  sub := fun o ho => h.sub o (hsub.subset ho)
  apart := h.apart.sublist hsub
  lt := fun k hk => Nat.lt_of_lt_of_le (h.lt k hk) hgr.size
end
/-! the two kinds of objects -/
def OPA (o : OB) (W : World) : Prop := PA o.own o.p o.a.cnt o.a.ps W
def OPB (o : OB) (W : World) : Prop := PB o.own o.p o.a.cnt o.a.ps W
theorem OPA.fr (o : OB) (W W' : World) (S : Nat → Prop) (h : OPA o W) (hf : Fr S W W') (hd : ∀ k, o.own k → ¬ S k) : OPA o W' := PA.frame h hf hd
theorem OPB.fr (o : OB) (W W' : World) (S : Nat → Prop) (h : OPB o W) (hf : Fr S W W') (hd : ∀ k, o.own k → ¬ S k) : OPB o W' := PB.frame h hf hd
theorem i69 : (Try.prog.info? 69).map (fun i => (i.zero, i.size, i.bytes)) = some (some (.agg #[.int .u16 0, .int .u32 0, .int .u32 0, .int .u16 0, .int .u8 0, .int .i64 0, .pointer none]), 7, 32) := by kernel_rfl
theorem i74 : (Try.prog.info? 74).map (fun i => (i.zero, i.size, i.bytes)) = some (some (.agg #[.int .u16 0, .int .u32 0, .int .u32 0, .int .u16 0, .int .u8 0, .int .i64 0, .pointer none]), 7, 32) := by kernel_rfl
end Go.Proofs.Ytaeelmkpjgmdlaa.H

/- Mine: slices.Delete of one element, at a row that is one's own. -/
namespace Go.Proofs.Ytaeelmkpjgmdlaa.H
open Go Go.Proofs Go.RowKit Go.Lib Go.Proofs.Ytaeelmkpjgmdlaa.P Go.Proofs.YtaeelmkpjgmdlaaW.PrintWords Go.Proofs.YtaeelmkpjgmdlaaW.PrintLast Go.Proofs.YtaeelmkpjgmdlaaW.PrintMore Go.Proofs.YtaeelmkpjgmdlaaW.PrintFlat
set_option linter.unusedVariables false
set_option linter.unusedSimpArgs false
theorem run_clear_row (P : Program) (w : World) (t e ty : TypeId) (z : Value) (ht : P.underlying t = some (.slice e)) (hv : ∀ w, (zeroValue e).run P w = .ok z w) (h1 : ∀ v ∈ z.cells.toList, v.oneCell' = true) (g o n c : Nat) (hn : 0 < n) (cur : Array Value) (et : TypeId)
    (hg : w.heap[g]? = some (.cells cur et (0, 0))) (hfit : o + n * z.cells.size ≤ cur.size) :
    (Builtin.clear_ #[t] ty #[.slice (some ⟨g, o, none⟩) n c]).run P w = .ok (.tuple #[]) (w.setRow g (cur.toList.take o ++ (Builtin.zeroCells z.cells n).toList ++ cur.toList.drop (o + (Builtin.zeroCells z.cells n).toList.length)).toArray) := by
  have hl : (Builtin.zeroCells z.cells n).toList.length = n * z.cells.size := by simp [Builtin.zeroCells]
  have ho : ∀ v ∈ (Builtin.zeroCells z.cells n).toList, v.oneCell' = true := by
    intro v hv
    simp only [Builtin.zeroCells, Array.toList_map, List.mem_map] at hv
    obtain ⟨i, hi, rfl⟩ := hv
    have hi2 : i < n * z.cells.size := by simpa using hi
    have hs : 0 < z.cells.size := by
      rcases Nat.eq_zero_or_pos z.cells.size with h | h
      · rw [h] at hi2; omega
      · exact h
    rw [getElem!_pos z.cells (i % z.cells.size) (Nat.mod_lt _ hs)]
    exact h1 _ (by simp)
  have hst := run_storeCells_at P g o et (Builtin.zeroCells z.cells n).toList 0 cur w hg (by rw [hl]; simpa using hfit) ho
  obtain ⟨m, rfl⟩ : ∃ m, n = m + 1 := ⟨n - 1, by omega⟩
  simp only [Nat.add_zero] at hst
  simp [Builtin.clear_, run_underlying ht, hv, hst]
/-- A row of one's own stays what it is where only places behind its elements are written. -/
theorem R_tail {α : Type} {d : Kd α} {e : Nat} {w : World} {base : Nat} {ok : Nat → Prop} {g c m : Nat} {xs : List α} (h : d.R e w base ok (.slice (some ⟨g, 0, none⟩) m c) xs) {cur cur' : Array Value} (hb : w.heap[g]? = some (.cells cur e (0, 0)))
    (hs : cur'.size = cur.size) (ht : cur'.toList.take (m * d.sz) = cur.toList.take (m * d.sz)) : d.R e (w.setRow g cur') base ok (.slice (some ⟨g, 0, none⟩) m c) xs ∧ w.grownBy (w.setRow g cur') (some g) := by
  have hfar : ∀ k, k ≠ g → (w.setRow g cur').heap[k]? = w.heap[k]? := fun k hk => by
    show (w.heap.modify g _)[k]? = _
    rw [Array.getElem?_modify]
    rw [if_neg (fun e => hk e.symm)]
  have hsz : (w.setRow g cur').heap.size = w.heap.size := by show (w.heap.modify g _).size = _; simp
  obtain ⟨h0, inner, hown, hr⟩ := h
  refine ⟨⟨h0, inner, ⟨hown.1, ?_⟩, hr.imp_ (fun _ _ hp => d.M_move (fun k hk => hfar k (fun e => hk.2 (by rw [e]; rfl))) hp)⟩, rfl, rfl, rfl, by rw [hsz]; exact Nat.le_refl _, fun k hk hn => hfar k (fun e => hn (by rw [e]))⟩
  rcases hown.2 with ⟨hv, _⟩ | ⟨g', cap, cur0, hv, hg, hh, h3, h4, h5, h6⟩
  · cases hv
  · injection hv with ha hm hc
    injection ha with ha
    injection ha with hg'
    subst hg'
    subst hc
    rw [hb] at hh
    injection hh with hh
    injection hh with hcu _ _
    subst hcu
    subst hm
    refine .inr ⟨g, c, cur', rfl, hg, setRow_heap w g cur cur' e (0, 0) hb, h3, h4, by rw [hs, h5], ?_⟩
    rw [ht]
    exact h6
set_option maxRecDepth 100000 in
set_option maxHeartbeats 4000000 in
theorem del_calls {base g c k : Nat} {ok : Nat → Prop} {xs : List OB} {W : World} (hR : k7.R 69 W base ok (.slice (some ⟨g, 0, none⟩) xs.length c) xs) (hk : k < xs.length) (hbase : base ≤ W.heap.size) (hmax : xs.length ≤ 140737488355328) :
    Calls Try.prog 59 #[.slice (some ⟨g, 0, none⟩) xs.length c, .int .i64 k, .int .i64 ((k : Int) + 1)] W fun e w' => e = .returned (.slice (some ⟨g, 0, none⟩) (xs.length - 1) c) ∧ k7.R 69 w' base ok (.slice (some ⟨g, 0, none⟩) (xs.length - 1) c) (xs.eraseIdx k) ∧ W.grownBy w' (some g) := by
  have HR := Aside0.mk (Kd.R_below hR (Below.drew (Below.refl _ _)))
  have hlc := (Kd.R_reads' hR).2.1
  have HK := Aside0.mk hk
  have HBS : Aside0 (base ≤ W.drew.heap.size) := ⟨hbase⟩
  have hmix : Try.prog.follows .mixedOrders = true := by kernel_rfl
  clear hR
  have b0 : (0 ≤ (k : Int)) = True := eq_true (by omega)
  have b1 : (k ≤ c) = True := eq_true (by omega)
  have b2 : (0 ≤ (k : Int) + 1) = True := eq_true (by omega)
  have b3 : ((k : Int) + 1 ≤ (xs.length : Int)) = True := eq_true (by omega)
  have b4 : (k + 1 ≤ xs.length) = True := eq_true (by omega)
  have e0 : ((k : Int) == (k : Int) + 1) = false := by rw [beq_eq_false_iff_ne]; omega
  go_enter Try.func59, Try.ntmps59
  go_wp2_with fail
  refine start_ (n := 8) (S := fun _ => True) (ds := []) #[false, false, false, false, false, false, false, false] (by kernel_rfl) rfl rfl trivial (fun hHeld => ?_)
  refine pure_ (i := 0) (N := some 20) (v := ?_) (a' := ?_) #[true, false, false, false, false, false, false, false] rfl rfl (by kernel_rfl) (fun _ _ _ h => h) (Or.inl ⟨by rfl, ?_⟩) ?_ ?_
  rotate_left
  · intro w'
    go_simp
    with_reducible rfl
  rotate_left
  · simp only [Act.put, List.setIfInBounds_toArray, List.set_cons_zero, List.set_cons_succ, i64_w, i32_w]
    rfl
  refine pure_ (i := 1) (N := some 21) (v := ?_) (a' := ?_) #[true, true, false, false, false, false, false, false] rfl rfl (by kernel_rfl) (fun _ _ _ h => h) (Or.inl ⟨by rfl, ?_⟩) ?_ ?_
  rotate_left
  · intro w'
    go_simp
    with_reducible rfl
  rotate_left
  · simp only [Act.put, List.setIfInBounds_toArray, List.set_cons_zero, List.set_cons_succ, i64_w, i32_w]
    rfl
  refine pure_ (i := 2) (N := some 22) (v := ?_) (a' := ?_) #[true, true, true, false, false, false, false, false] rfl rfl (by kernel_rfl) (fun _ _ _ h => h) (Or.inl ⟨by rfl, ?_⟩) ?_ ?_
  rotate_left
  · intro w'
    go_simp
    with_reducible rfl
  rotate_left
  · simp only [Act.put, List.setIfInBounds_toArray, List.set_cons_zero, List.set_cons_succ, i64_w, i32_w]
    rfl
  refine pure_ (i := 3) (N := some 23) (v := ?_) (a' := ?_) #[true, true, true, true, false, false, false, false] rfl rfl (by kernel_rfl) (fun _ _ _ h => h) (Or.inl ⟨by rfl, ?_⟩) ?_ ?_
  rotate_left
  · intro w'
    go_simp
    with_reducible rfl
  rotate_left
  · simp only [Act.put, List.setIfInBounds_toArray, List.set_cons_zero, List.set_cons_succ, i64_w, i32_w]
    rfl
  refine pure_ (i := 4) (N := some 24) (v := ?_) (a' := ?_) #[true, true, true, true, true, false, false, false] rfl rfl (by kernel_rfl) (fun _ _ _ h => h) (Or.inl ⟨by rfl, ?_⟩) ?_ ?_
  rotate_left
  · intro w'
    go_simp
    with_reducible rfl
  rotate_left
  · simp only [Act.put, List.setIfInBounds_toArray, List.set_cons_zero, List.set_cons_succ, i64_w, i32_w]
    rfl
  refine pure_ (i := 5) (N := some 25) (v := ?_) (a' := ?_) #[true, true, true, true, true, true, false, false] rfl rfl (by kernel_rfl) (fun _ _ _ h => h) (Or.inl ⟨by rfl, ?_⟩) ?_ ?_
  rotate_left
  · intro w'
    go_simp
    with_reducible rfl
  rotate_left
  · simp only [Act.put, List.setIfInBounds_toArray, List.set_cons_zero, List.set_cons_succ, i64_w, i32_w]
    rfl
  refine one_ (i := 6) (N := some 26) #[true, true, true, true, true, true, true, false] rfl rfl (by kernel_rfl) (by decide) (fun K hK => ?_)
  refine Kd.R_delete_step (P := Try.prog) k7 (w0 := W.drew) base (by rfl) _ _ 62 69 rfl Try.underlying62 (by kernel_rfl) (xs := xs) (ok := ok) (k := k) (n := xs.length) (c := c) (A := if c = k + 1 then some ⟨g, 0, none⟩ else some ⟨g, (k + 1) * 7, none⟩) (m := xs.length - (k + 1)) (c2 := c - (k + 1)) rfl rfl ?hA rfl HR.out HK.out (Below.refl _ _) HBS.out ?_
  (case hA => show _ = if c = k + 1 then _ else (some (⟨g, 0, none⟩ : Addr)).map (fun a => a.add ((k + 1) * 7)); by_cases hh : c = k + 1 <;> simp [hh, Addr.add])
  intro w2 hR2 hb2 hg2
  refine hK.out _ _ trivial (fun _ => ?_)
  have HR2 := Aside0.mk hR2
  have HG2 := Aside0.mk hg2
  clear hR2 hb2 hg2
  clear hK K
  refine norm_ (a' := ?_) ?_ ?_
  rotate_left
  · show Act.put _ (some 26) _ = _
    simp only [Act.put, List.setIfInBounds_toArray, List.set_cons_zero, List.set_cons_succ, i64_w, i32_w]
    rfl
  refine pure_ (i := 7) (N := some 0) (v := ?_) (a' := ?_) #[true, true, true, true, true, true, true, true] rfl rfl (by kernel_rfl) (fun _ _ _ h => h) (Or.inl ⟨by rfl, ?_⟩) ?_ ?_
  rotate_left
  · intro w'
    go_simp
    with_reducible rfl
  rotate_left
  · simp only [Act.put, List.setIfInBounds_toArray, List.set_cons_zero, List.set_cons_succ, i64_w, i32_w]
    rfl
  refine done_ (by kernel_rfl) ?_
  generalize (if c = k + 1 then (some (⟨g, 0, none⟩ : Addr)) else some ⟨g, (k + 1) * 7, none⟩) = AA
  obtain ⟨cur, hcur, hcsz⟩ : ∃ cur, w2.heap[g]? = some (.cells cur 69 (0, 0)) ∧ cur.size = c * 7 := by
    obtain ⟨_, inner, hown, _⟩ := HR2.out
    rcases hown.2 with ⟨hv, _⟩ | ⟨g', cap, cur, hv, _, hh, _, _, h5, _⟩
    · cases hv
    · injection hv with ha _ hc
      injection ha with ha
      injection ha with hg'
      subst hg'
      subst hc
      exact ⟨cur, hh, h5⟩
  have hzs : ((.agg #[.int .u16 0, .int .u32 0, .int .u32 0, .int .u16 0, .int .u8 0, .int .i64 0, .pointer none]) : Value).cells.size = 7 := by decide
  have hcl : ∀ ty, (Builtin.clear_ #[62] ty #[.slice (some ⟨g, (xs.length - 1) * 7, none⟩) (xs.length - (xs.length - 1)) (c - (xs.length - 1))]).run Try.prog w2 = .ok (.tuple #[]) (w2.setRow g (cur.toList.take ((xs.length - 1) * 7) ++ (Builtin.zeroCells ((.agg #[.int .u16 0, .int .u32 0, .int .u32 0, .int .u16 0, .int .u8 0, .int .i64 0, .pointer none]) : Value).cells (xs.length - (xs.length - 1))).toList ++ cur.toList.drop ((xs.length - 1) * 7 + (Builtin.zeroCells ((.agg #[.int .u16 0, .int .u32 0, .int .u32 0, .int .u16 0, .int .u8 0, .int .i64 0, .pointer none]) : Value).cells (xs.length - (xs.length - 1))).toList.length)).toArray) :=
    fun ty => run_clear_row Try.prog w2 62 69 ty (.agg #[.int .u16 0, .int .u32 0, .int .u32 0, .int .u16 0, .int .u8 0, .int .i64 0, .pointer none]) Try.underlying62 (fun w => Try.zeroValue69 w) (by decide) g ((xs.length - 1) * 7) _ _ (by omega) cur 69 hcur (by rw [hzs, hcsz]; omega)
  have hzl : (Builtin.zeroCells ((.agg #[.int .u16 0, .int .u32 0, .int .u32 0, .int .u16 0, .int .u8 0, .int .i64 0, .pointer none]) : Value).cells (xs.length - (xs.length - 1))).toList.length = (xs.length - (xs.length - 1)) * 7 := by simp [Builtin.zeroCells, hzs]
  obtain ⟨R2, hR2⟩ : ∃ R2, (cur.toList.take ((xs.length - 1) * 7) ++ (Builtin.zeroCells ((.agg #[.int .u16 0, .int .u32 0, .int .u32 0, .int .u16 0, .int .u8 0, .int .i64 0, .pointer none]) : Value).cells (xs.length - (xs.length - 1))).toList ++ cur.toList.drop ((xs.length - 1) * 7 + (Builtin.zeroCells ((.agg #[.int .u16 0, .int .u32 0, .int .u32 0, .int .u16 0, .int .u8 0, .int .i64 0, .pointer none]) : Value).cells (xs.length - (xs.length - 1))).toList.length)).toArray = R2 := ⟨_, rfl⟩
  rw [hR2] at hcl
  have HT : Aside0 (k7.R 69 (w2.setRow g R2) base ok (.slice (some ⟨g, 0, none⟩) (xs.length - 1) c) (xs.eraseIdx k) ∧ w2.grownBy (w2.setRow g R2) (some g)) := ⟨by
    have hLc : cur.toList.length = c * 7 := by rw [← hcsz]; exact Array.length_toList
    have hle : (xs.length - 1) * 7 + (xs.length - (xs.length - 1)) * 7 ≤ c * 7 := by omega
    refine R_tail HR2.out hcur ?_ ?_
    · rw [← hR2]
      simp only [List.size_toArray, List.length_append, List.length_take, List.length_drop, hzl, hLc, hcsz]
      omega
    · rw [← hR2]
      show List.take ((xs.length - 1) * 7) _ = List.take ((xs.length - 1) * 7) _
      rw [List.toList_toArray, List.append_assoc, List.take_append_of_le_length (by rw [List.length_take, hLc]; omega), List.take_take, Nat.min_self]⟩
  clear hzs hzl hR2 hcur hcsz
  go_wp2
  go_ret
  exact ⟨rfl, HT.out.1, ⟨HT.out.2.os.trans HG2.out.os, HT.out.2.tape.trans HG2.out.tape, HT.out.2.output.trans HG2.out.output, Nat.le_trans HG2.out.size HT.out.2.size, fun q hq hn => (HT.out.2.block q (Nat.lt_of_lt_of_le hq HG2.out.size) hn).trans (HG2.out.block q hq hn)⟩⟩
#print axioms del_calls
end Go.Proofs.Ytaeelmkpjgmdlaa.H

/- Mine. Chapters 22 and 23, by hand: slices.IndexFunc at open messages, the closures, find. -/
namespace Go.Proofs.Ytaeelmkpjgmdlaa.H
open Go Go.Proofs Go.RowKit Go.Lib Go.Proofs.Ytaeelmkpjgmdlaa.P Go.Proofs.YtaeelmkpjgmdlaaW.PrintWords Go.Proofs.YtaeelmkpjgmdlaaW.PrintLast Go.Proofs.YtaeelmkpjgmdlaaW.PrintMore Go.Proofs.YtaeelmkpjgmdlaaW.PrintFlat
set_option linter.unusedVariables false
set_option linter.unusedSimpArgs false
theorem enters_of {f : Nat} {fn : Func} (hf : Try.prog.funcs[f]? = some fn) (hname : (fn.name == "runtime.NumGoroutine") = false) (hb : fn.body.isSome = true) : ∀ args w, (callFunc f args).run Try.prog w = .ok (.enter f args) w := fun args w => enters_ hf hname hb args w
set_option maxHeartbeats 2000000 in
set_option maxRecDepth 100000 in
theorem idx69 (p : OB → Bool) (g : Nat) (lb : Array Value) (eg : ∀ args w, (callFunc g args).run Try.prog w = .ok (.enter g args) w) (A0 : Option Addr) (c0 : Nat) (l0 : List OB) (w : World) (hr0 : Kd.C k7 w A0 l0.length l0)
    (hp : ∀ (W : World) (x : OB), Below w.heap.size w W → Calls Try.prog g (#[valB x] ++ lb) W fun e w' => e = .returned (.bool (p x)) ∧ Below W.heap.size W w') :
    Calls Try.prog 56 #[.slice A0 l0.length c0, .func (.func g) #[] lb] w fun e w' => e = .returned (.int .i64 (Room.ixI p l0)) ∧ Below w.heap.size w w' := by
  have hu := Try.underlying69
  have HR := Aside0.mk hr0
  have HP := Aside0.mk hp
  have HN : l0.length ≤ 9223372036854775807 := hr0.2.1
  clear hr0 hp
  go_enter Try.func56, Try.ntmps56
  go_wp2
  go_loopg [5, 8] l0.length (fun gg _ s8 wr => ∃ kk : Nat, kk ≤ l0.length ∧ l0.length - kk ≤ gg ∧ s8 = .int .i64 kk ∧ Aside0 (Below w.heap.size w wr) ∧ Aside0 (∀ j, j < kk → p (rd7 l0 j) = false))
  case atStart => exact ⟨0, Nat.zero_le _, by omega, rfl, ⟨Below.refl _ w⟩, ⟨fun j hj => absurd hj (Nat.not_lt_zero _)⟩⟩
  case round =>
    obtain ⟨kk, hkk, hg, rfl, HB, HO⟩ := hrel
    by_cases hlt : kk < l0.length
    · have p1 : 0 ≤ ((kk : Nat) : Int) := by omega
      have q1 : ((kk : Nat) : Int) < (l0.length : Int) := by omega
      obtain ⟨ad, e1, hx0, hx1, hx2, hx3, hx4, hx5, hx6⟩ := at7 HR.out kk p1 q1
      cases e1
      replace hx0 := (HB.out.cell (World.block_lt_of_cell? w _ hx0)).trans hx0
      replace hx1 := (HB.out.cell (World.block_lt_of_cell? w _ hx1)).trans hx1
      replace hx2 := (HB.out.cell (World.block_lt_of_cell? w _ hx2)).trans hx2
      replace hx3 := (HB.out.cell (World.block_lt_of_cell? w _ hx3)).trans hx3
      replace hx4 := (HB.out.cell (World.block_lt_of_cell? w _ hx4)).trans hx4
      replace hx5 := (HB.out.cell (World.block_lt_of_cell? w _ hx5)).trans hx5
      replace hx6 := (HB.out.cell (World.block_lt_of_cell? w _ hx6)).trans hx6
      simp only [Int.toNat_natCast] at hx0 hx1 hx2 hx3 hx4 hx5 hx6
      have hcall := HP.out wr (rd7 l0 kk) HB.out
      obtain ⟨y, hy⟩ : ∃ y, rd7 l0 kk = y := ⟨_, rfl⟩
      rw [hy] at hcall hx0 hx1 hx2 hx3 hx4 hx5 hx6
      have HY := Aside0.mk hy
      clear hy
      obtain ⟨b, hb0⟩ : ∃ b, p y = b := ⟨_, rfl⟩
      rw [hb0] at hcall
      have HPY := Aside0.mk hb0
      clear hb0
      have HC := Aside0.mk hcall
      clear hcall
      go_wp2_with fail
      refine HC.out.mono ?_
      rintro e w1 ⟨rfl, hb⟩
      have HB2 := Aside0.mk (below_then HB.out HB.out.size hb)
      clear hb HC HP hx0 hx1 hx2 hx3 hx4 hx5 hx6 eg
      cases b with
      | true =>
        go_wp2
        go_ret
        refine ⟨?_, HB2.out⟩
        have h := Room.ixI_hit (p := p) (os := l0) zB kk hlt (by have h := HPY.out; rw [← HY.out] at h; simpa [rd7] using h) (fun j hj => by have := HO.out j hj; simpa [rd7] using this)
        rw [h]
        rfl
      | false =>
        go_wp2
        go_roundg (l0.length - (kk + 1))
        case measure => omega
        case rel =>
          refine ⟨kk + 1, by omega, by omega, by go_num, HB2, ⟨fun j hj => ?_⟩⟩
          rcases Nat.lt_or_ge j kk with h | h
          · exact HO.out j h
          · obtain rfl : j = kk := by omega
            rw [HY.out]; exact HPY.out
    · have : kk = l0.length := by omega
      have hn : ¬ ((kk : Nat) : Int) < (l0.length : Int) := by omega
      go_wp2
      go_ret
      refine ⟨?_, HB.out⟩
      rw [Room.ixI_miss (p := p) (os := l0) zB (fun j hj => by have := HO.out j (by omega); simpa [rd7] using this)]
      rfl
set_option maxRecDepth 100000 in
theorem find_clo (x : OB) (f e i : Int) (B0 : Nat) (W : World) (hb0 : W.heap[B0]? = some (.cells #[.int .u16 f, .int .u32 e, .int .u32 i] 66 (0, 0))) :
    Calls Try.prog 57 #[valB x, .pointer (some ⟨B0, 0, none⟩)] W fun e' w' => e' = .returned (.bool (Room.isK f e i x.a)) ∧ Below W.heap.size W w' := by
  have hu := Try.underlying69
  have hu2 := Try.underlying66
  have hq : ∀ k u, W.cell? ⟨B0, k, none⟩ = some u → (W.alloc (.cells #[.int .u16 x.a.fr, .int .u32 x.a.ep, .int .u32 x.a.id, .int .u16 x.a.cnt, .int .u8 x.a.ver, .int .i64 x.a.age, .pointer (some ⟨x.p, 0, none⟩)] 69)).cell? ⟨B0, k, none⟩ = some u := fun k u h => pw_cell_below (below_alloc (Below.refl _ _) _) h
  have hp0 := hq 0 _ ((blk_cell hb0 0).trans rfl)
  have hp1 := hq 1 _ ((blk_cell hb0 1).trans rfl)
  have hp2 := hq 2 _ ((blk_cell hb0 2).trans rfl)
  clear hq hb0
  go_enter Try.func57, Try.ntmps57
  go_wp2
  all_goals go_ret
  all_goals exact ⟨by first | rfl | simp_all [Room.isK], below_alloc (Below.refl _ _) _⟩
set_option maxRecDepth 100000 in
theorem fit_clo (x : OB) (f e i : Int) (B0 : Nat) (W : World) (hb0 : W.heap[B0]? = some (.cells #[.int .u16 f, .int .u32 e, .int .u32 i] 66 (0, 0))) :
    Calls Try.prog 63 #[valB x, .pointer (some ⟨B0, 0, none⟩)] W fun e' w' => e' = .returned (.bool (!Room.isK f e i x.a)) ∧ Below W.heap.size W w' := by
  have hu := Try.underlying69
  have hu2 := Try.underlying66
  have hq : ∀ k u, W.cell? ⟨B0, k, none⟩ = some u → (W.alloc (.cells #[.int .u16 x.a.fr, .int .u32 x.a.ep, .int .u32 x.a.id, .int .u16 x.a.cnt, .int .u8 x.a.ver, .int .i64 x.a.age, .pointer (some ⟨x.p, 0, none⟩)] 69)).cell? ⟨B0, k, none⟩ = some u := fun k u h => pw_cell_below (below_alloc (Below.refl _ _) _) h
  have hp0 := hq 0 _ ((blk_cell hb0 0).trans rfl)
  have hp1 := hq 1 _ ((blk_cell hb0 1).trans rfl)
  have hp2 := hq 2 _ ((blk_cell hb0 2).trans rfl)
  clear hq hb0
  go_enter Try.func63, Try.ntmps63
  go_wp2
  all_goals go_ret
  all_goals exact ⟨by first | rfl | simp_all [Room.isK], below_alloc (Below.refl _ _) _⟩
/-- The program's table. -/
structure TS (own : Nat → Prop) (t : Nat) (L : Room.Lim) (os : List OB) (W : World) : Prop where
  ot : own t
  st : ∃ v oB, W.heap[t]? = some (.cells #[.bool true, .int .i64 L.op, .int .i64 L.by_, .int .i64 L.ex, v] 64 (0, 0)) ∧ Bag OPA 69 oB v os W ∧ ∀ k, oB k → own k ∧ k ≠ t
  lt : ∀ k, own k → k < W.heap.size
theorem TS.frame {own S : Nat → Prop} {t : Nat} {L : Room.Lim} {os : List OB} {W W' : World} (h : TS own t L os W) (hf : Fr S W W') (hd : ∀ k, own k → ¬ S k) : TS own t L os W' where
  ot := h.ot
  st := by
    obtain ⟨v, oB, h1, h2, h3⟩ := h.st
    exact ⟨v, oB, (hf.block t (h.lt t h.ot) (hd t h.ot)).trans h1, h2.frame OPA.fr hf (fun k hk => hd k (h3 k hk).1), h3⟩
  lt := fun k hk => Nat.lt_of_lt_of_le (h.lt k hk) hf.size
theorem TS.below {own : Nat → Prop} {t : Nat} {L : Room.Lim} {os : List OB} {W W' : World} (h : TS own t L os W) (hb : Below W.heap.size W W') : TS own t L os W' := h.frame (S := fun _ => False) (Fr.of_below hb) (fun _ _ h => h)
/-- What is read of a table. -/
theorem TS.reads {own : Nat → Prop} {t : Nat} {L : Room.Lim} {os : List OB} {W : World} (h : TS own t L os W) : ∃ A c, W.cell? ⟨t, 0, none⟩ = some (.bool true) ∧ W.cell? ⟨t, 1, none⟩ = some (.int .i64 L.op) ∧ W.cell? ⟨t, 2, none⟩ = some (.int .i64 L.by_) ∧ W.cell? ⟨t, 3, none⟩ = some (.int .i64 L.ex) ∧
    W.cell? ⟨t, 4, none⟩ = some (.slice A os.length c) ∧ os.length ≤ c ∧ Kd.C k7 W A os.length os := by
  obtain ⟨v, oB, h1, h2, h3⟩ := h.st
  obtain ⟨A, c, rfl, hl, hC⟩ := h2.reads
  exact ⟨A, c, (blk_cell h1 0).trans rfl, (blk_cell h1 1).trans rfl, (blk_cell h1 2).trans rfl, (blk_cell h1 3).trans rfl, (blk_cell h1 4).trans rfl, hl, hC⟩
theorem TS.obj {own : Nat → Prop} {t : Nat} {L : Room.Lim} {os : List OB} {W : World} (h : TS own t L os W) : ∀ o ∈ os, OPA o W := by
  obtain ⟨v, oB, h1, h2, h3⟩ := h.st
  exact h2.obj
theorem ixI_map (p : Room.OA → Bool) (os : List OB) : Room.ixI p (os.map OB.a) = Room.ixI (fun o => p o.a) os := by
  unfold Room.ixI
  rw [Room.idx_map, List.length_map]
set_option maxHeartbeats 1000000 in
set_option maxRecDepth 100000 in
theorem find_calls {own : Nat → Prop} {t : Nat} {L : Room.Lim} {os : List OB} {W : World} (h : TS own t L os W) (f e i : Int) :
    Calls Try.prog 28 #[.pointer (some ⟨t, 0, none⟩), .agg #[.int .u16 f, .int .u32 e, .int .u32 i]] W fun e' w' => e' = .returned (.int .i64 (Room.ixI (Room.isK f e i) (os.map OB.a))) ∧ Below W.heap.size W w' := by
  have hB : Below W.heap.size W (W.alloc (.cells #[.int .u16 f, .int .u32 e, .int .u32 i] 66)) := below_alloc (Below.refl _ _) _
  obtain ⟨A, c, _, _, _, _, g4, hl, hC⟩ := (h.below hB).reads
  have hc := idx69 (fun o => Room.isK f e i o.a) 57 #[.pointer (some ⟨W.heap.size, 0, none⟩)] (enters_of Try.func57 (by kernel_rfl) rfl) A c os (W.alloc (.cells #[.int .u16 f, .int .u32 e, .int .u32 i] 66)) hC (fun V x hb => find_clo x f e i W.heap.size V ((hb.block _ (by simp)).trans (heap_alloc_new W _)))
  rw [← ixI_map] at hc
  have HC := Aside0.mk hc
  have HB := Aside0.mk hB
  clear hc hB hC h
  go_enter Try.func28, Try.ntmps28
  go_wp2_with fail
  refine HC.out.mono ?_
  rintro e' w1 ⟨rfl, hb⟩
  have HB1 := Aside0.mk hb
  clear hb HC
  go_wp2
  go_ret
  exact ⟨rfl, below_then HB.out HB.out.size HB1.out⟩
set_option maxHeartbeats 1000000 in
set_option maxRecDepth 100000 in
theorem drop_calls {own : Nat → Prop} {t : Nat} {L : Room.Lim} {os : List OB} {W : World} (h : TS own t L os W) (k : Nat) (hk : k < os.length) (hmax : os.length ≤ 140737488355328) :
    Calls Try.prog 31 #[.pointer (some ⟨t, 0, none⟩), .int .i64 k] W fun e' w' => e' = .returned (.tuple #[]) ∧ Fr own W w' ∧ TS own t L (os.eraseIdx k) w' := by
  obtain ⟨v, oB, h1, h2, h3⟩ := h.st
  obtain ⟨oL, hR, hL⟩ := h2.row
  obtain ⟨A, c, rfl, hl, hC⟩ := Kd.R_reads hR
  obtain ⟨ad, rfl⟩ : ∃ ad, A = some ad := by
    obtain ⟨ad, e, _⟩ := hC.2.2 (by omega)
    exact ⟨ad, e⟩
  obtain ⟨g, rfl⟩ := Kd.R_head hR
  have g4 : W.cell? ⟨t, 4, none⟩ = some (.slice (some ⟨g, 0, none⟩) os.length c) := (blk_cell h1 4).trans rfl
  have hcall := del_calls hR hk (Nat.zero_le _) hmax
  have HH := Aside0.mk h
  have HCL := Aside0.mk hcall
  have H1 := Aside0.mk h1
  have H2 := Aside0.mk h2
  have H3 := Aside0.mk h3
  have HL := Aside0.mk hL
  have HG := Aside0.mk (hR.1 g rfl)
  clear hcall h h1 h2 h3 hR hL hC
  go_enter Try.func31, Try.ntmps31
  go_wp2_with fail
  refine HCL.out.mono ?_
  rintro e' w1 ⟨rfl, hR1, hg1⟩
  have hgt : t ≠ g := fun e => (H3.out g (HL.out g HG.out).1).2 e.symm
  have hb1 : w1.heap[t]? = some (.cells #[.bool true, .int .i64 L.op, .int .i64 L.by_, .int .i64 L.ex, .slice (some ⟨g, 0, none⟩) os.length c] 64 (0, 0)) := (hg1.block t (HH.out.lt t HH.out.ot) (fun e => hgt (Option.some.inj e))).trans H1.out
  have hf1 : w1.frozen? ⟨t, 4, none⟩ = false := blk_frozen hb1 4
  have hc1 : w1.cell? ⟨t, 4, none⟩ = some (.slice (some ⟨g, 0, none⟩) os.length c) := (blk_cell hb1 4).trans rfl
  have HB1 := Aside0.mk hb1
  have HR1 := Aside0.mk hR1
  have HG1 := Aside0.mk hg1
  have HGT := Aside0.mk hgt
  clear hb1 hR1 hg1 hgt HCL g4
  go_wp2
  go_end0
  have hblk := blk_set HB1.out 4 (.slice (some ⟨g, 0, none⟩) (os.length - 1) c)
  have hsz : (w1.setCell ⟨t, 4, none⟩ (.slice (some ⟨g, 0, none⟩) (os.length - 1) c)).heap.size = w1.heap.size := by simp [World.setCell]
  have hfr1 : Fr own W w1 := Fr.of_grown HG1.out (H3.out g (HL.out g HG.out).1).1
  have hfr2 : Fr (fun k => k = t) w1 (w1.setCell ⟨t, 4, none⟩ (.slice (some ⟨g, 0, none⟩) (os.length - 1) c)) := ⟨rfl, rfl, rfl, by rw [hsz]; exact Nat.le_refl _, fun k hk hn => Below.heap_setCell _ _ _ _ hn⟩
  have hbag : Bag OPA 69 oB (.slice (some ⟨g, 0, none⟩) (os.length - 1) c) (os.eraseIdx k) w1 := H2.out.sub_ OPA.fr HL.out HG.out (List.eraseIdx_sublist _ _) HR1.out HG1.out
  refine ⟨rfl, hfr1.then_ hfr2 (fun q _ hq => by rw [hq]; exact HH.out.ot), HH.out.ot, ⟨_, oB, ?_, hbag.frame OPA.fr hfr2 (fun q hq e => (H3.out q hq).2 e), H3.out⟩, fun q hq => ?_⟩
  · rw [hblk]; simp
  · rw [hsz]; exact Nat.lt_of_lt_of_le (HH.out.lt q hq) HG1.out.size
#print axioms drop_calls
end Go.Proofs.Ytaeelmkpjgmdlaa.H
