/- Mine. Chapter 23, plain: how many parts, and what becomes of them, taken in any order. -/
import Derived.Test.YtaeelmkpjgmdlaaHWD
namespace Go.Proofs.Ytaeelmkpjgmdlaa.H
open Go Go.Proofs Go.RowKit Go.Lib Go.Proofs.Ytaeelmkpjgmdlaa.P Go.Proofs.YtaeelmkpjgmdlaaW.PrintWords Go.Proofs.YtaeelmkpjgmdlaaW.PrintLast Go.Proofs.YtaeelmkpjgmdlaaW.PrintMore Go.Proofs.YtaeelmkpjgmdlaaW.PrintFlat Go.Proofs.Ytaeelmkpjgmdlaa.Seen
set_option linter.unusedVariables false
set_option linter.unusedSimpArgs false
theorem room_is {mtu : Int} (h : 32 ≤ mtu ∧ mtu ≤ 65507) : annuletref19_Room.f mtu = some (((mtu - 20).toNat : Nat) : Int) := by
  unfold annuletref19_Room.f
  rw [if_pos (by omega), if_pos h.2]
  have : wrap64 (mtu - 20) = (((mtu - 20).toNat : Nat) : Int) := by unfold wrap64; omega
  rw [this]
theorem room_no {mtu : Int} (h : ¬ (32 ≤ mtu ∧ mtu ≤ 65507)) : annuletref19_Room.f mtu = some 0 := by
  unfold annuletref19_Room.f
  by_cases h1 : mtu ≥ 32
  · rw [if_pos h1, if_neg (by omega)]
  · rw [if_neg h1]
theorem count_no {mtu n : Int} (h : annuletref19_Room.f mtu = some 0) : annuletref19_Count.f 3 mtu n = some (0, 1) := by
  unfold annuletref19_Count.f
  rw [h]
  rfl
def manyOf (n room : Nat) : Nat := if n % room > 0 ∨ n / room = 0 then n / room + 1 else n / room
theorem many_is {n room : Nat} (hn : n ≤ 1500) (hr : 12 ≤ room) : 1 ≤ manyOf n room ∧ manyOf n room ≤ 126 ∧ n ≤ manyOf n room * room ∧ (∀ k, k < manyOf n room → k * room ≤ n) ∧ manyOf n room * min room 1500 ≤ 3000 := by
  have h0 := Nat.div_add_mod n room
  have h1 : n / room ≤ 125 := by
    have := Nat.div_le_div_left hr (show 0 < 12 by decide) (a := n)
    omega
  have h2 := Nat.mod_lt n (show room > 0 by omega)
  have h3 : n / room * room ≤ n := Nat.div_mul_le_self n room
  have h4 : n / room * room = room * (n / room) := Nat.mul_comm _ _
  obtain ⟨q, hq⟩ : ∃ q, n / room = q := ⟨_, rfl⟩
  unfold manyOf
  rw [hq] at h0 h1 h3 h4 ⊢
  split
  · rename_i h
    refine ⟨by omega, by omega, by rw [Nat.add_mul, Nat.one_mul]; omega, fun k hk => Nat.le_trans (Nat.mul_le_mul_right room (show k ≤ q by omega)) h3, ?_⟩
    by_cases hq0 : q = 0
    · rw [hq0]; omega
    · have h5 : (q + 1) * min room 1500 ≤ (q + q) * room := Nat.mul_le_mul (by omega) (Nat.min_le_left _ _)
      have h6 : (q + q) * room = q * room + q * room := Nat.add_mul _ _ _
      omega
  · rename_i h
    refine ⟨by omega, by omega, by omega, fun k hk => Nat.le_trans (Nat.mul_le_mul_right room (show k ≤ q by omega)) h3, ?_⟩
    have h5 : q * min room 1500 ≤ q * room := Nat.mul_le_mul_left _ (Nat.min_le_left _ _)
    omega
theorem count_is {mtu : Int} {n room : Nat} (h : annuletref19_Room.f mtu = some (room : Int)) (hr : 12 ≤ room) (hr2 : room ≤ 65487) (hn : n ≤ 1500) : annuletref19_Count.f 3 mtu (n : Int) = some (((manyOf n room : Nat) : Int), 0) := by
  have h1 : n / room ≤ 125 := by
    have := Nat.div_le_div_left hr (show 0 < 12 by decide) (a := n)
    omega
  have e1 : Int.tdiv (n : Int) (room : Int) = ((n / room : Nat) : Int) := by rw [Int.tdiv_eq_ediv_of_nonneg (by omega)]; rfl
  have e2 : Int.tmod (n : Int) (room : Int) = ((n % room : Nat) : Int) := by rw [Int.tmod_eq_emod_of_nonneg (by omega)]; rfl
  obtain ⟨q, hq⟩ : ∃ q, n / room = q := ⟨_, rfl⟩
  obtain ⟨r, hr'⟩ : ∃ r, n % room = r := ⟨_, rfl⟩
  have w1 : wrap64 (q : Int) = (q : Int) := by unfold wrap64; omega
  have w2 : wrap64 ((q : Int) + 1) = (q : Int) + 1 := by unfold wrap64; omega
  unfold annuletref19_Count.f manyOf
  rw [h]
  simp only [Option.bind_some, annuletref19_Count.j0, annuletref19_Count.j1]
  rw [e1, e2, hq, hr', w1, w2, if_neg (by omega), if_neg (by simp), if_neg (by omega)]
  by_cases hr0 : r > 0
  · rw [if_pos (by omega), if_pos True.intro, if_neg (by omega), if_pos (.inl hr0)]
    rfl
  · rw [if_neg (by omega)]
    by_cases hq0 : q = 0
    · subst hq0
      rw [if_pos (by simp), if_neg (by omega), if_pos (.inr rfl)]
      simp
    · rw [if_neg (by simp; omega), if_neg (by omega), if_neg (by omega)]
/-! the messages -/
abbrev LW : Room.Lim := ⟨1, 65536, 1⟩
theorem LW_ok : LimOk LW := ⟨by decide, by decide, by decide, by decide, by decide, by decide⟩
theorem LW_b : limB LW = true := by decide
def ptP (body : List Int) (room : Nat) (picked : List Nat) : Room.Pt := picked.map fun (k : Nat) => ((k : Int), chunk body room k)
/-- What stands there behind the parts of picked. -/
def osP (body : List Int) (room many : Nat) (ver ep id : Int) (picked : List Nat) : List Room.OA :=
  if picked = [] ∨ picked.length = many then [] else [⟨7, ep, id, (many : Int), ver, 0, ptP body room picked⟩]
def gP (body : List Int) (room many : Nat) (ver ep id : Int) (k : Nat) : Room.GA := ⟨ver, ep, id, (k : Int), (many : Int), chunk body room k⟩
theorem sizeP (body : List Int) (room : Nat) (R : Nat) (hR : ∀ k, (chunk body room k).length ≤ R) : ∀ picked : List Nat, Room.size (ptP body room picked) ≤ ((picked.length * R : Nat) : Int)
  | [] => by simp [Room.size, ptP]
  | k :: r => by
    have h1 := sizeP body room R hR r
    have h2 := hR k
    unfold Room.size ptP at h1 ⊢
    simp only [List.map_cons, List.sum_cons, List.length_cons]
    rw [Nat.add_mul, Nat.one_mul]
    omega
theorem hasP (body : List Int) (room : Nat) (k : Nat) : ∀ picked : List Nat, Room.has (ptP body room picked) (k : Int) = decide (k ∈ picked)
  | [] => by simp [Room.has, ptP]
  | j :: r => by
    have h1 := hasP body room k r
    unfold Room.has ptP at h1 ⊢
    simp only [List.map_cons, List.any_cons, h1, List.mem_cons]
    by_cases h : k = j
    · subst h; simp
    · have h2 : ¬ ((j : Int) = (k : Int)) := by omega
      simp [h, h2]
theorem atP (body : List Int) (room : Nat) (k : Nat) : ∀ picked : List Nat, k ∈ picked → Room.at_ (ptP body room picked) (k : Int) = chunk body room k
  | [], h => by simp at h
  | j :: r, h => by
    unfold Room.at_ ptP
    simp only [List.map_cons, List.find?_cons]
    by_cases hj : k = j
    · subst hj; simp
    · have h2 : ((j : Int) == (k : Int)) = false := by simp; omega
      rw [h2]
      have h3 := atP body room k r ((List.mem_cons.1 h).resolve_left hj)
      unfold Room.at_ ptP at h3
      exact h3
theorem wholeP (body : List Int) (room many : Nat) (hm : body.length ≤ many * room) (picked : List Nat) (ha : ∀ k, k < many → k ∈ picked) : Room.whole (ptP body room picked) many = body := by
  unfold Room.whole
  have h1 : (List.range many).flatMap (fun (i : Nat) => Room.at_ (ptP body room picked) i) = (List.range many).flatMap (chunk body room) := by
    have : ∀ l : List Nat, (∀ k ∈ l, k < many) → l.flatMap (fun (i : Nat) => Room.at_ (ptP body room picked) i) = l.flatMap (chunk body room) := by
      intro l
      induction l with
      | nil => intro _; rfl
      | cons x r ih =>
        intro h
        rw [List.flatMap_cons, List.flatMap_cons, ih (fun k hk => h k (List.mem_cons_of_mem _ hk)), atP body room x picked (ha x (h x List.mem_cons_self))]
    exact this _ (fun k hk => List.mem_range.1 hk)
  rw [h1, chunks, List.take_of_length_le hm]
theorem le_many : ∀ (many : Nat) {picked : List Nat}, picked.Nodup → (∀ k ∈ picked, k < many) → picked.length ≤ many
  | 0, [], _, _ => Nat.le_refl _
  | 0, x :: r, _, h => absurd (h x List.mem_cons_self) (Nat.not_lt_zero _)
  | m + 1, l, hn, h => by
    by_cases hm : m ∈ l
    · have h1 := le_many m (picked := l.erase m) (hn.erase m) (fun k hk => by
        have h2 := (hn.mem_erase_iff).1 hk
        have h3 := h k h2.2
        have h4 := h2.1
        omega)
      rw [List.length_erase_of_mem hm] at h1
      omega
    · have h1 := le_many m (picked := l) hn (fun k hk => by
        have h3 := h k hk
        have h4 : k ≠ m := fun e => hm (e ▸ hk)
        omega)
      omega
theorem all_in {picked : List Nat} {many : Nat} (hn : picked.Nodup) (hl : ∀ k ∈ picked, k < many) (he : picked.length = many) : ∀ k, k < many → k ∈ picked := by
  intro k hk
  by_cases h : k ∈ picked
  · exact h
  · have h1 := le_many many (picked := k :: picked) (List.nodup_cons.2 ⟨h, hn⟩) (fun x hx => by
      rcases List.mem_cons.1 hx with e | e
      · omega
      · exact hl x e)
    rw [List.length_cons] at h1
    omega
theorem ptP_snoc (body : List Int) (room : Nat) (picked : List Nat) (k : Nat) : ptP body room (picked ++ [k]) = ptP body room picked ++ [((k : Int), chunk body room k)] := by unfold ptP; rw [List.map_append]; rfl
theorem isK_one {ep id c v a : Int} {ps : Room.Pt} : Room.idx (Room.isK 7 ep id) [⟨7, ep, id, c, v, a, ps⟩] = 0 := by
  have h : Room.isK 7 ep id ⟨7, ep, id, c, v, a, ps⟩ = true := Room.isK_iff.2 ⟨rfl, rfl, rfl⟩
  unfold Room.idx
  exact if_pos h
theorem fin_one {ep id c v a : Int} {ps : Room.Pt} (hs : Room.size ps ≤ 65536) : Room.fin LW 7 ep id [⟨7, ep, id, c, v, a, ps⟩] = if (ps.length : Int) = c then ([], Room.whole ps c.toNat, true) else ([⟨7, ep, id, c, v, a, ps⟩], [], false) := by
  obtain ⟨o, ho⟩ : ∃ o : Room.OA, o = ⟨7, ep, id, c, v, a, ps⟩ := ⟨_, rfl⟩
  have hk : Room.idx (Room.isK 7 ep id) [o] = 0 := by rw [ho]; exact isK_one
  have hps : o.ps = ps := by rw [ho]
  have hcn : o.cnt = c := by rw [ho]
  rw [← ho, ← hcn, ← hps]
  rw [← hps] at hs
  have hf : Room.fit LW 7 ep id [o].length [o] = [o] := by
    show Room.fit LW 7 ep id 1 [o] = [o]
    unfold Room.fit
    rw [if_neg]
    show ¬ (Room.held [o] > 65536)
    have : Room.held [o] = Room.size o.ps := by unfold Room.held; simp
    omega
  unfold Room.fin
  simp only [hf, hk]
  rfl
structure PkOk (body : List Int) (room many : Nat) (picked : List Nat) : Prop where
  nd : picked.Nodup
  lt : ∀ k ∈ picked, k < many
structure BdOk (body : List Int) (room many : Nat) : Prop where
  m1 : 1 ≤ many
  m2 : many ≤ 126
  bl : body.length ≤ 1500
  al : body.length ≤ many * room
  r2 : many * min room 1500 ≤ 3000
theorem BdOk.size {body : List Int} {room many : Nat} (h : BdOk body room many) {picked : List Nat} (hp : PkOk body room many picked) : Room.size (ptP body room picked) ≤ 3000 := by
  have h1 := sizeP body room (min room 1500) (fun k => by have := chunk_len body room k; have := h.bl; omega) picked
  have h2 := le_many many hp.nd hp.lt
  have h3 := Nat.mul_le_mul_right (min room 1500) h2
  have h4 := h.r2
  omega
theorem PkOk.snoc {body : List Int} {room many : Nat} {picked : List Nat} (h : PkOk body room many picked) {k : Nat} (hk : k < many) (hn : k ∉ picked) : PkOk body room many (picked ++ [k]) :=
  ⟨List.nodup_append.2 ⟨h.nd, by simp, fun a ha b hb e => by rw [List.mem_singleton.1 hb] at e; exact hn (e ▸ ha)⟩, fun j hj => by
    rcases List.mem_append.1 hj with h1 | h1
    · exact h.lt j h1
    · rw [List.mem_singleton.1 h1]; exact hk⟩
theorem play_old {body : List Int} {room many : Nat} {ver ep id : Int} {picked : List Nat} {k : Nat} (hk : k ∈ picked) (hkm : k < many) (hl : picked.length < many) : Room.put LW (osP body room many ver ep id picked) 7 (gP body room many ver ep id k) = (osP body room many ver ep id picked, [], false, 12) := by
  have hne : picked ≠ [] := fun e => by rw [e] at hk; simp at hk
  unfold osP
  rw [if_neg (by rintro (h | h); exact hne h; omega)]
  unfold Room.put
  simp only [gP, isK_one]
  show (if _ then _ else _) = _
  rw [if_pos]
  exact ⟨by omega, rfl, rfl, by rw [hasP]; simpa using hk⟩
theorem play_new {body : List Int} {room many : Nat} {ver ep id : Int} {picked : List Nat} {k : Nat} (hb : BdOk body room many) (hp : PkOk body room many picked) (hk : k ∉ picked) (hkm : k < many) (hl : picked.length < many) :
    Room.put LW (osP body room many ver ep id picked) 7 (gP body room many ver ep id k) = if picked.length + 1 = many then ([], body, true, 0) else (osP body room many ver ep id (picked ++ [k]), [], false, 0) := by
  have hp2 := hp.snoc hkm hk
  have hs2 := hb.size hp2
  have hs1 := hb.size hp
  have hlc := (chunk_len body room k).2
  have hbl := hb.bl
  have hfin : Room.fin LW 7 ep id [⟨7, ep, id, (many : Int), ver, 0, ptP body room (picked ++ [k])⟩] = if picked.length + 1 = many then ([], body, true) else (osP body room many ver ep id (picked ++ [k]), [], false) := by
    rw [fin_one (by omega)]
    have hlen : (ptP body room (picked ++ [k])).length = picked.length + 1 := by unfold ptP; simp
    show (if ((ptP body room (picked ++ [k])).length : Int) = (many : Int) then _ else _) = _
    rw [hlen]
    by_cases he : picked.length + 1 = many
    · rw [if_pos (by omega), if_pos he]
      show ([], Room.whole (ptP body room (picked ++ [k])) ((many : Int).toNat), true) = _
      rw [Int.toNat_natCast, wholeP body room many hb.al _ (all_in hp2.nd hp2.lt (by rw [List.length_append]; exact he))]
    · rw [if_neg (by omega), if_neg he]
      unfold osP
      rw [if_neg (by rintro (h | h); simp at h; (rw [List.length_append] at h; exact he h))]
  by_cases hne : picked = []
  · subst hne
    have e0 : osP body room many ver ep id [] = [] := by unfold osP; rw [if_pos (.inl rfl)]
    rw [e0]
    unfold Room.put
    show (if (many : Int) ≤ (k : Int) then _ else if (0 : Int) > 65536 - ((chunk body room k).length : Int) then _ else _) = _
    rw [if_neg (by omega), if_neg (by omega)]
    show ((Room.fin LW 7 ep id [⟨7, ep, id, (many : Int), ver, 0, ptP body room ([] ++ [k])⟩]).1, (Room.fin LW 7 ep id [⟨7, ep, id, (many : Int), ver, 0, ptP body room ([] ++ [k])⟩]).2.1, (Room.fin LW 7 ep id [⟨7, ep, id, (many : Int), ver, 0, ptP body room ([] ++ [k])⟩]).2.2, (0 : Int)) = _
    rw [hfin]
    by_cases he : ([] : List Nat).length + 1 = many
    · rw [if_pos he, if_pos he]
    · rw [if_neg he, if_neg he]
  · have e0 : osP body room many ver ep id picked = [⟨7, ep, id, (many : Int), ver, 0, ptP body room picked⟩] := by
      unfold osP
      rw [if_neg (by rintro (h | h); exact hne h; omega)]
    rw [e0]
    unfold Room.put
    simp only [gP, isK_one]
    show (if _ then _ else _) = _
    rw [if_neg (by rintro ⟨_, _, _, h⟩; rw [hasP] at h; exact hk (by simpa using h)), if_neg (by omega), if_neg (by rintro (h | h) <;> exact h rfl), if_neg (show ¬ Room.size (ptP body room picked) > 65536 - ((chunk body room k).length : Int) by omega)]
    show ((Room.fin LW 7 ep id [⟨7, ep, id, (many : Int), ver, 0, ptP body room picked ++ [((k : Int), chunk body room k)]⟩]).1, (Room.fin LW 7 ep id [⟨7, ep, id, (many : Int), ver, 0, ptP body room picked ++ [((k : Int), chunk body room k)]⟩]).2.1, (Room.fin LW 7 ep id [⟨7, ep, id, (many : Int), ver, 0, ptP body room picked ++ [((k : Int), chunk body room k)]⟩]).2.2, (0 : Int)) = _
    rw [← ptP_snoc, hfin]
    by_cases he : picked.length + 1 = many
    · rw [if_pos he, if_pos he]
    · rw [if_neg he, if_neg he]
/-- The memory behind the parts of picked. -/
def memP (many : Nat) (ep id : Int) (picked : List Nat) : Int → SS := if picked.length = many then upM (fun _ => s0) 7 (mks s0 ep.toNat id.toNat) else fun _ => s0
/-- What a part comes to, whichever was taken ahead of it. -/
theorem take_part {body : List Int} {room many : Nat} {ver ep id kd : Int} {picked : List Nat} {k : Nat} (hkd : kd = 1) (hb : BdOk body room many) (hp : PkOk body room many picked) (hkm : k < many) :
    ∃ picked', PkOk body room many picked' ∧ (∀ j, j ∈ picked' ↔ j ∈ picked ∨ j = k) ∧ picked'.length = (if k ∈ picked then picked.length else picked.length + 1) ∧
      (takeR LW (osP body room many ver ep id picked) (memP many ep id picked) 7 kd (gP body room many ver ep id k)).1 = (osP body room many ver ep id picked', memP many ep id picked') ∧
      ((k ∉ picked ∧ picked.length + 1 = many ∧ (takeR LW (osP body room many ver ep id picked) (memP many ep id picked) 7 kd (gP body room many ver ep id k)).2.1 = body ∧ (takeR LW (osP body room many ver ep id picked) (memP many ep id picked) 7 kd (gP body room many ver ep id k)).2.2.1 = true) ∨
        ((k ∈ picked ∨ picked.length + 1 ≠ many) ∧ (takeR LW (osP body room many ver ep id picked) (memP many ep id picked) 7 kd (gP body room many ver ep id k)).2.2.1 = false)) := by
  have hle := le_many many hp.nd hp.lt
  by_cases hw : picked.length = many
  · have hin := all_in hp.nd hp.lt hw k hkm
    have hfr : frs (memP many ep id picked 7) (gP body room many ver ep id k).ep.toNat (gP body room many ver ep id k).id.toNat ≠ 0 := by
      unfold memP
      rw [if_pos hw]
      unfold upM
      rw [if_pos rfl]
      exact marked s0 ep.toNat id.toNat
    refine ⟨picked, hp, fun j => ⟨.inl, fun h => h.elim (fun x => x) (fun e => e ▸ hin)⟩, by rw [if_pos hin], ?_, .inr ⟨.inl hin, ?_⟩⟩
    · unfold takeR
      rw [if_neg (by omega), if_pos hfr]
    · unfold takeR
      rw [if_neg (by omega), if_pos hfr]
  · have hlt : picked.length < many := by omega
    have hm0 : memP many ep id picked = fun _ => s0 := by unfold memP; rw [if_neg hw]
    have hfr : ¬ frs (memP many ep id picked 7) (gP body room many ver ep id k).ep.toNat (gP body room many ver ep id k).id.toNat ≠ 0 := by rw [hm0]; exact fun h => h rfl
    by_cases hin : k ∈ picked
    · have hpo := play_old (body := body) (room := room) (ver := ver) (ep := ep) (id := id) hin hkm hlt
      refine ⟨picked, hp, fun j => ⟨.inl, fun h => h.elim (fun x => x) (fun e => e ▸ hin)⟩, by rw [if_pos hin], ?_, .inr ⟨.inl hin, ?_⟩⟩
      · unfold takeR
        rw [if_neg (by omega), if_neg hfr]
        simp only [hpo]
        rfl
      · unfold takeR
        rw [if_neg (by omega), if_neg hfr]
        simp only [hpo]
    · have hpn := play_new (ver := ver) (ep := ep) (id := id) hb hp hin hkm hlt
      have hp2 := hp.snoc hkm hin
      refine ⟨picked ++ [k], hp2, fun j => by rw [List.mem_append, List.mem_singleton], by rw [if_neg hin, List.length_append]; rfl, ?_, ?_⟩
      · unfold takeR
        rw [if_neg (by omega), if_neg hfr]
        simp only [hpn]
        by_cases he : picked.length + 1 = many
        · rw [if_pos he]
          have e1 : osP body room many ver ep id (picked ++ [k]) = [] := by unfold osP; rw [if_pos (.inr (by rw [List.length_append]; exact he))]
          have e2 : memP many ep id (picked ++ [k]) = upM (fun _ => s0) 7 (mks s0 ep.toNat id.toNat) := by unfold memP; rw [if_pos (by rw [List.length_append]; exact he)]
          rw [e1, e2, hm0]
          rfl
        · rw [if_neg he]
          have e2 : memP many ep id (picked ++ [k]) = fun _ => s0 := by unfold memP; rw [if_neg (by rw [List.length_append]; exact he)]
          rw [e2, hm0]
          rfl
      · by_cases he : picked.length + 1 = many
        · refine .inl ⟨hin, he, ?_, ?_⟩
          · unfold takeR
            rw [if_neg (by omega), if_neg hfr]
            simp only [hpn]
            rw [if_pos he]
          · unfold takeR
            rw [if_neg (by omega), if_neg hfr]
            simp only [hpn]
            rw [if_pos he]
        · refine .inr ⟨.inr he, ?_⟩
          unfold takeR
          rw [if_neg (by omega), if_neg hfr]
          simp only [hpn]
          rw [if_neg he]
end Go.Proofs.Ytaeelmkpjgmdlaa.H
