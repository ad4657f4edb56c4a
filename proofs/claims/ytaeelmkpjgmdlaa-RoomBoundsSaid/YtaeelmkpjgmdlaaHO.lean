/- Mine. Chapters 22 and 23, by hand: parts as objects, told by their places and bytes; a row of open messages. -/
import Derived.Test.YtaeelmkpjgmdlaaHPF
import Derived.Test.YtaeelmkpjgmdlaaHR
namespace Go.Proofs.Ytaeelmkpjgmdlaa.H
open Go Go.Proofs Go.RowKit Go.Lib Go.Proofs.Ytaeelmkpjgmdlaa.P Go.Proofs.YtaeelmkpjgmdlaaW.PrintWords Go.Proofs.YtaeelmkpjgmdlaaW.PrintLast Go.Proofs.YtaeelmkpjgmdlaaW.PrintMore Go.Proofs.YtaeelmkpjgmdlaaW.PrintFlat
set_option linter.unusedVariables false
set_option linter.unusedSimpArgs false
abbrev pt (q : Q) : Int × List Int := (q.i, q.bs)
theorem has_pt (qs : List Q) (i : Int) : (qs.any fun x => x.i == i) = Room.has (qs.map pt) i := by
  unfold Room.has
  rw [List.any_map]
  rfl
theorem tot_pt (qs : List Q) : tot qs = Room.size (qs.map pt) := by
  unfold tot Room.size
  rw [List.map_map]
  rfl
theorem bAt_pt (qs : List Q) (i : Int) : bAt qs i = Room.at_ (qs.map pt) i := by
  unfold bAt Room.at_
  rw [List.find?_map]
  show _ = ((Option.map pt (List.find? (fun x : Q => x.i == i) qs)).map Prod.snd).getD []
  cases List.find? (fun x : Q => x.i == i) qs <;> rfl
theorem whole_pt (qs : List Q) (n : Nat) : whole qs n = Room.whole (qs.map pt) n := by
  unfold whole Room.whole
  have : (fun (i : Nat) => bAt qs i) = fun (i : Nat) => Room.at_ (qs.map pt) i := funext fun i => bAt_pt qs i
  rw [this]
theorem places_pt (qs : List Q) : (qs.map pt).map Prod.fst = qs.map Q.i := by rw [List.map_map]; rfl
/-- The program's parts. -/
def PA (own : Nat → Prop) (p : Nat) (c : Int) (ps : Room.Pt) (W : World) : Prop := ∃ b qs, CS own p b c qs W ∧ qs.map pt = ps
theorem PA.frame {own S : Nat → Prop} {p : Nat} {c : Int} {ps : Room.Pt} {W W' : World} (h : PA own p c ps W) (hf : Fr S W W') (hd : ∀ k, own k → ¬ S k) : PA own p c ps W' := by
  obtain ⟨b, qs, h1, h2⟩ := h
  exact ⟨b, qs, h1.frame hf hd, h2⟩
theorem PA.lt {own : Nat → Prop} {p : Nat} {c : Int} {ps : Room.Pt} {W : World} (h : PA own p c ps W) : ∀ k, own k → k < W.heap.size := by
  obtain ⟨b, qs, h1, h2⟩ := h
  exact h1.lt
theorem PA.nd {own : Nat → Prop} {p : Nat} {c : Int} {ps : Room.Pt} {W : World} (h : PA own p c ps W) : (ps.map Prod.fst).Nodup := by
  obtain ⟨b, qs, h1, rfl⟩ := h
  rw [places_pt]; exact h1.nd
theorem PA.rg {own : Nat → Prop} {p : Nat} {c : Int} {ps : Room.Pt} {W : World} (h : PA own p c ps W) : ∀ x ∈ ps, 0 ≤ x.1 ∧ x.1 < c := by
  obtain ⟨b, qs, h1, rfl⟩ := h
  intro x hx
  obtain ⟨q, hq, rfl⟩ := List.mem_map.1 hx
  exact h1.rg q hq
theorem PA.op {own : Nat → Prop} {p : Nat} {c : Int} {ps : Room.Pt} {W : World} (h : PA own p c ps W) : own p := by
  obtain ⟨b, qs, h1, rfl⟩ := h
  exact h1.op
theorem pt_len {ps : Room.Pt} {c : Int} (hn : (ps.map Prod.fst).Nodup) (hr : ∀ x ∈ ps, 0 ≤ x.1 ∧ x.1 < c) (hc : 0 ≤ c) : (ps.length : Int) ≤ c := by
  have h := len_le_of_sub (ps.map Prod.fst) ((List.range c.toNat).map fun (n : Nat) => (n : Int)) hn (fun x hx => by
    obtain ⟨y, hy, rfl⟩ := List.mem_map.1 hx
    have := hr y hy
    exact List.mem_map.2 ⟨y.1.toNat, by simp; omega, by omega⟩)
  simp at h
  omega
theorem PA.len {own : Nat → Prop} {p : Nat} {c : Int} {ps : Room.Pt} {W : World} (h : PA own p c ps W) (hc : 0 ≤ c) : (ps.length : Int) ≤ c := pt_len h.nd h.rg hc
theorem has_ok {own : Nat → Prop} {p : Nat} {c : Int} {ps : Room.Pt} {W : World} (h : PA own p c ps W) (i : Int) (hi : (Lit.int .i64 i).wf = true) :
    Calls Try.prog 58 #[.pointer (some ⟨p, 0, none⟩), .int .i64 i] W fun e w' => e = .returned (.bool (Room.has ps i)) ∧ Below W.heap.size W w' := by
  obtain ⟨b, qs, h1, rfl⟩ := h
  refine (has_calls h1 i hi).mono ?_
  rintro e w' ⟨he, hb⟩
  exact ⟨by rw [he, has_pt], hb⟩
set_option maxRecDepth 100000 in
set_option maxHeartbeats 1000000 in
theorem has_same0 {own : Nat → Prop} {p b : Nat} {c : Int} {qs : List Q} {W : World} (h : CS own p b c qs W) (i : Int) (hi : (Lit.int .i64 i).wf = true) :
    Calls Try.prog 58 #[.pointer (some ⟨p, 0, none⟩), .int .i64 i] W fun e w' => e = .returned (.bool (qs.any fun x => x.i == i)) ∧ w' = W := by
  obtain ⟨g0, g1, g2, g3, _⟩ := h.cells
  have hmp := Aside0.mk h.mp
  have hk := Maps.keyOf_int_mk (P := Try.prog) Try.underlying3 hi
  have hz : ∀ w, (zeroValue 36).run Try.prog w = .ok (.slice none 0 0) w := fun w => Try.zeroValue36 w
  have hh := has_DD i qs
  have HB := Aside0.mk (Below.refl W.heap.size W)
  clear h
  go_enter Try.func58, Try.ntmps58
  go_wp2_with (first
    | (at_lookup; refine wpList_lookup_own_ok _ rfl _ _ 116 rfl 3 36 (Maps.int_keyed Try.underlying3) Try.underlying116 RV (hz _) (.held (.slice none 0 0)) [] rfl b _ _ rfl hmp.out _ _ rfl hk ?_; intro v ps hv; rw [hh])
    | go_in)
  go_ret
  exact ⟨rfl, rfl⟩
theorem has_same {own : Nat → Prop} {p : Nat} {c : Int} {ps : Room.Pt} {W : World} (h : PA own p c ps W) (i : Int) (hi : (Lit.int .i64 i).wf = true) :
    Calls Try.prog 58 #[.pointer (some ⟨p, 0, none⟩), .int .i64 i] W fun e w' => e = .returned (.bool (Room.has ps i)) ∧ w' = W := by
  obtain ⟨b, qs, h1, rfl⟩ := h
  refine (has_same0 h1 i hi).mono ?_
  rintro e w' ⟨he, hb⟩
  exact ⟨by rw [he, has_pt], hb⟩
theorem size_ok {own : Nat → Prop} {p : Nat} {c : Int} {ps : Room.Pt} {W : World} (h : PA own p c ps W) :
    Calls Try.prog 42 #[.pointer (some ⟨p, 0, none⟩)] W fun e w' => e = .returned (.int .i64 (Room.size ps)) ∧ Below W.heap.size W w' := by
  obtain ⟨b, qs, h1, rfl⟩ := h
  refine (size_calls h1).mono ?_
  rintro e w' ⟨he, hb⟩
  exact ⟨by rw [he, tot_pt], hb⟩
theorem add_ok {own : Nat → Prop} {p : Nat} {c : Int} {ps : Room.Pt} {W : World} (h : PA own p c ps W) (i : Int) (hi0 : 0 ≤ i) (hi1 : i < c) (hc : c ≤ 65535) (hh : Room.has ps i = false) (A : Option Addr) (cp : Nat) (l : List Int) (hcp : l.length ≤ cp)
    (hbody : ∀ V, Fr own W V → Kd.C (Kd.int .u8) V A l.length l) (hl : l.length ≤ 140737488355328) (ht : Room.size ps ≤ 4611686018427387904) :
    Calls Try.prog 33 #[.pointer (some ⟨p, 0, none⟩), .int .i64 i, .slice A l.length cp] W fun e w' => e = .returned (.int .i64 0) ∧ Fr own W w' ∧ PA (fun k => own k ∨ W.heap.size ≤ k ∧ k < w'.heap.size) p c (ps ++ [(i, l)]) w' := by
  have hlen := h.len (by omega)
  obtain ⟨b, qs, h1, rfl⟩ := h
  rw [← tot_pt] at ht
  rw [← has_pt] at hh
  have hq : qs.length ≤ 65535 := by rw [List.length_map] at hlen; omega
  have h0 : 0 ≤ tot qs := by rw [tot_pt]; exact Room.size_nn _
  refine (add_calls h1 i (by simp [Lit.wf, IntKind.min, IntKind.max, IntKind.bits, IntKind.signed]; omega) A cp l hcp hbody hl h0 ht hq).mono ?_
  rintro e w' ⟨hf, (⟨hb, _⟩ | ⟨_, hx, _⟩ | ⟨_, _, he, v, hCS⟩)⟩
  · omega
  · rw [hh] at hx; cases hx
  · exact ⟨he, hf, b, _, hCS, by rw [List.map_append]; rfl⟩
theorem whole_ok {own : Nat → Prop} {p : Nat} {c : Int} {ps : Room.Pt} {W : World} (h : PA own p c ps W) (hc : c ≤ 65535) (hc0 : 0 ≤ c) (ht : Room.size ps ≤ 4194304) :
    Calls Try.prog 35 #[.pointer (some ⟨p, 0, none⟩)] W fun e w' => Below W.heap.size W w' ∧
      (((ps.length : Int) < c ∧ e = .returned (.tuple #[.slice none 0 0, .bool false])) ∨ ((ps.length : Int) = c ∧ ∃ v, e = .returned (.tuple #[v, .bool true]) ∧ Kd.R (Kd.int .u8) 5 w' W.heap.size (fun _ => True) v (Room.whole ps c.toNat))) := by
  have hlen := h.len hc0
  obtain ⟨b, qs, h1, rfl⟩ := h
  rw [List.length_map] at hlen
  have h0 : 0 ≤ tot qs := by rw [tot_pt]; exact Room.size_nn _
  rw [← tot_pt] at ht
  refine (whole_calls h1 hc hc0 (by omega) ht h0).mono ?_
  rintro e w' ⟨hb, (⟨h2, he⟩ | ⟨h2, v, he, hR⟩)⟩
  · exact ⟨hb, .inl ⟨by rw [List.length_map]; exact h2, he⟩⟩
  · exact ⟨hb, .inr ⟨by rw [List.length_map]; omega, v, he, by rw [← whole_pt]; exact hR⟩⟩
theorem pnew_ok (c : Int) (W : World) (h0 : 1 ≤ c) (h1 : c ≤ 65535) : Calls Try.prog 60 #[.int .i64 c] W fun e w' => ∃ p, e = .returned (.tuple #[.pointer (some ⟨p, 0, none⟩), .int .i64 0]) ∧ Below W.heap.size W w' ∧ PA (fun k => W.heap.size ≤ k ∧ k < w'.heap.size) p c [] w' := by
  refine (new_calls c W).mono ?_
  rintro e w' ⟨hb, (⟨_, _, p, b, he, hp, hbb, hCS⟩ | ⟨h, _⟩)⟩
  · refine ⟨p, he, hb, b, [], ?_, rfl⟩
    have l1 := hCS.lt p (.inl rfl)
    have l2 := hCS.lt b (.inr rfl)
    exact { hCS with op := ⟨hp, l1⟩, ob := ⟨hbb, l2⟩, el := fun x hx => by simp at hx, lt := fun k hk => hk.2 }
  · omega
/-! the reference's parts -/
abbrev sOf (ps : Room.Pt) : List ByteArray := ps.map fun x => strOfNums x.2
abbrev qOf (ps : Room.Pt) : List Q := ps.map fun x => (⟨x.1, .slice none 0 0, x.2⟩ : Q)
theorem qOf_i (ps : Room.Pt) : psOf (qOf ps) = ps.map Prod.fst := by unfold psOf qOf; rw [List.map_map]; rfl
theorem qOf_s (ps : Room.Pt) : ssOf (qOf ps) = sOf ps := by unfold ssOf qOf sOf; rw [List.map_map]; rfl
theorem qOf_pt (ps : Room.Pt) : (qOf ps).map pt = ps := by unfold qOf; rw [List.map_map]; exact List.map_id _
structure PB (own : Nat → Prop) (p : Nat) (c : Int) (ps : Room.Pt) (W : World) : Prop where
  rs : RS own p c (ps.map Prod.fst) (sOf ps) W
  op : own p
  nd : (ps.map Prod.fst).Nodup
  rg : ∀ x ∈ ps, 0 ≤ x.1 ∧ x.1 < c
theorem PB.frame {own S : Nat → Prop} {p : Nat} {c : Int} {ps : Room.Pt} {W W' : World} (h : PB own p c ps W) (hf : Fr S W W') (hd : ∀ k, own k → ¬ S k) : PB own p c ps W' := ⟨h.rs.frame hf hd, h.op, h.nd, h.rg⟩
theorem PB.lt {own : Nat → Prop} {p : Nat} {c : Int} {ps : Room.Pt} {W : World} (h : PB own p c ps W) : ∀ k, own k → k < W.heap.size := h.rs.lt
theorem PB.len {own : Nat → Prop} {p : Nat} {c : Int} {ps : Room.Pt} {W : World} (h : PB own p c ps W) (hc : 0 ≤ c) : (ps.length : Int) ≤ c := pt_len h.nd h.rg hc
theorem sizes_pt (ps : Room.Pt) : sizes (sOf ps) = Room.size ps := by
  unfold sizes Room.size sOf
  rw [List.map_map]
  have : ((fun x : ByteArray => (x.size : Int)) ∘ fun x : Int × List Int => strOfNums x.2) = fun x => (x.2.length : Int) := funext fun x => by simp [strOfNums_size]
  rw [this]
theorem rhas_ok {own : Nat → Prop} {p : Nat} {c : Int} {ps : Room.Pt} {W : World} (h : PB own p c ps W) (i : Int) (hc : c ≤ 65535) (hc0 : 0 ≤ c) :
    Calls Try.prog 37 #[.pointer (some ⟨p, 0, none⟩), .int .i64 i] W fun e w' => e = .returned (.bool (Room.has ps i)) ∧ Below W.heap.size W w' := by
  refine (rhas_calls h.rs i (by have := h.len hc0; rw [List.length_map]; omega)).mono ?_
  rintro e w' ⟨he, hb⟩
  refine ⟨?_, hb⟩
  rw [he]
  unfold Room.has
  rw [List.any_map]
  rfl
theorem rsize_ok {own : Nat → Prop} {p : Nat} {c : Int} {ps : Room.Pt} {W : World} (h : PB own p c ps W) (hc : c ≤ 65535) (hc0 : 0 ≤ c) (ht : Room.size ps ≤ 4611686018427387904) :
    Calls Try.prog 38 #[.pointer (some ⟨p, 0, none⟩)] W fun e w' => e = .returned (.int .i64 (Room.size ps)) ∧ Below W.heap.size W w' := by
  rw [← sizes_pt] at ht ⊢
  exact rsize_calls h.rs (by have := h.len hc0; rw [List.length_map]; omega) ht
theorem radd_ok {own : Nat → Prop} {p : Nat} {c : Int} {ps : Room.Pt} {W : World} (h : PB own p c ps W) (i : Int) (hi0 : 0 ≤ i) (hi1 : i < c) (hc : c ≤ 65535) (hh : Room.has ps i = false) (l : List Int) :
    Calls Try.prog 40 #[.pointer (some ⟨p, 0, none⟩), .int .i64 i, .string (strOfNums l)] W fun e w' => e = .returned (.int .i64 0) ∧ Fr own W w' ∧ PB (fun k => own k ∨ W.heap.size ≤ k ∧ k < w'.heap.size) p c (ps ++ [(i, l)]) w' := by
  have hlen := h.len (by omega)
  have hh2 : ((ps.map Prod.fst).any fun x => x == i) = false := by rw [List.any_map]; exact hh
  refine (radd_calls h.rs i (strOfNums l) (by rw [List.length_map]; omega) (by rw [List.length_map]; omega)).mono ?_
  rintro e w' ⟨hf, (⟨hb, _⟩ | ⟨_, hx, _⟩ | ⟨_, _, he, hRS⟩)⟩
  · omega
  · rw [hh2] at hx; cases hx
  · refine ⟨he, hf, ⟨by simpa [sOf] using hRS, .inl h.op, ?_, fun x hx => ?_⟩⟩
    · rw [List.map_append, List.nodup_append]
      refine ⟨h.nd, by simp, fun a ha b hb e => ?_⟩
      subst e
      have hai : a = i := by simpa using hb
      subst hai
      obtain ⟨x, hx, hxi⟩ := List.mem_map.1 ha
      have : Room.has ps a = true := List.any_eq_true.2 ⟨x, hx, by simp [hxi]⟩
      rw [hh] at this; cases this
    · rcases List.mem_append.1 hx with hx | hx
      · exact h.rg x hx
      · obtain rfl : x = (i, l) := by simpa using hx
        exact ⟨hi0, hi1⟩
theorem rwhole_ok {own : Nat → Prop} {p : Nat} {c : Int} {ps : Room.Pt} {W : World} (h : PB own p c ps W) (hc : c ≤ 65535) (hc0 : 0 ≤ c) (ht : Room.size ps ≤ 4194304) :
    Calls Try.prog 41 #[.pointer (some ⟨p, 0, none⟩)] W fun e w' => Below W.heap.size W w' ∧
      (((ps.length : Int) < c ∧ e = .returned (.tuple #[.string ByteArray.empty, .bool false])) ∨ ((ps.length : Int) = c ∧ e = .returned (.tuple #[.string (strOfNums (Room.whole ps c.toNat)), .bool true]))) := by
  have hlen := h.len hc0
  have hrs : RS own p c (psOf (qOf ps)) (ssOf (qOf ps)) W := by rw [qOf_i, qOf_s]; exact h.rs
  have e1 : tot (qOf ps) = Room.size ps := by rw [tot_pt, qOf_pt]
  have e2 : (qOf ps).length = ps.length := List.length_map _
  refine (rwhole_calls hrs hc hc0 (by omega) (by rw [show (qOf ps).map Q.i = ps.map Prod.fst from qOf_i ps]; exact h.nd) (fun x hx => ?_) (by rw [e1]; exact ht) (by rw [e1]; exact Room.size_nn _)).mono ?_
  · obtain ⟨y, hy, rfl⟩ := List.mem_map.1 hx
    exact h.rg y hy
  · rintro e w' ⟨hb, (⟨h2, he⟩ | ⟨h2, he⟩)⟩
    · exact ⟨hb, .inl ⟨by omega, he⟩⟩
    · refine ⟨hb, .inr ⟨by omega, ?_⟩⟩
      rw [he, whole_pt, qOf_pt]
end Go.Proofs.Ytaeelmkpjgmdlaa.H
