/- Mine. Chapters 22 and 23, by hand: the texts PA, PB, PC, PD, PE, PF, one behind the other. -/
import Derived.Test.YtaeelmkpjgmdlaaPx1
import Derived.Test.YtaeelmkpjgmdlaaWFlat
import Derived.Maps.OwnSet
import Derived.Maps.OwnOps
import Derived.Maps.Views
/- Mine. Chapters 22 and 23, by hand (turned from chapter 21): the state of a message's parts (a struct with a map from places to slices) as a list of (place, header, bytes). -/
namespace Go.Proofs.Ytaeelmkpjgmdlaa.H
open Go Go.Proofs Go.RowKit Go.Lib Go.Proofs.Ytaeelmkpjgmdlaa.P Go.Proofs.YtaeelmkpjgmdlaaW.PrintWords Go.Proofs.YtaeelmkpjgmdlaaW.PrintLast Go.Proofs.YtaeelmkpjgmdlaaW.PrintMore Go.Proofs.YtaeelmkpjgmdlaaW.PrintFlat
set_option linter.unusedVariables false
set_option linter.unusedSimpArgs false

/-! what stays -/
structure Fr (own : Nat → Prop) (w w' : World) : Prop where
  os : w'.os = w.os
  tape : w'.tape = w.tape
  output : w'.output = w.output
  size : w.heap.size ≤ w'.heap.size
  block : ∀ k, k < w.heap.size → ¬ own k → w'.heap[k]? = w.heap[k]?
theorem Fr.refl (own : Nat → Prop) (w : World) : Fr own w w := ⟨rfl, rfl, rfl, Nat.le_refl _, fun _ _ _ => rfl⟩
theorem Fr.of_below {own : Nat → Prop} {w w' : World} (h : Below w.heap.size w w') : Fr own w w' := ⟨h.os, h.tape, h.output, h.size, fun k hk _ => h.block k hk⟩
theorem Fr.mono {own own' : Nat → Prop} {w w' : World} (h : Fr own w w') (hs : ∀ k, k < w.heap.size → own k → own' k) : Fr own' w w' := ⟨h.os, h.tape, h.output, h.size, fun k hk hn => h.block k hk (fun ho => hn (hs k hk ho))⟩
theorem Fr.then_ {own own' : Nat → Prop} {w w1 w2 : World} (h : Fr own w w1) (k : Fr own' w1 w2) (hs : ∀ q, q < w.heap.size → own' q → own q) : Fr own w w2 :=
  ⟨k.os.trans h.os, k.tape.trans h.tape, k.output.trans h.output, Nat.le_trans h.size k.size, fun q hq hn => (k.block q (Nat.lt_of_lt_of_le hq h.size) (fun ho => hn (hs q hq ho))).trans (h.block q hq hn)⟩
theorem Fr.of_grown {w w' : World} {b : Nat} {own : Nat → Prop} (h : w.grownBy w' (some b)) (hb : own b) : Fr own w w' := ⟨h.os, h.tape, h.output, h.size, fun k hk hn => h.block k hk (fun e => hn (by cases e; exact hb))⟩
theorem Fr.below {own : Nat → Prop} {w w' : World} {B : Nat} (h : Fr own w w') (hB : B ≤ w.heap.size) (ho : ∀ k, own k → B ≤ k) : Below B w w' := ⟨h.os, h.tape, h.output, h.size, fun k hk => h.block k (Nat.lt_of_lt_of_le hk hB) (fun hk2 => by have := ho k hk2; omega)⟩

/-! the map, as a list of what was put -/
abbrev RV : Value → Option (DataW Value × List MemPlace) := fun v => some (.held v, [])
/-- A part: its place, its slice's value, its bytes. -/
structure Q where
  i : Int
  v : Value
  bs : List Int
def DD (qs : List Q) : DataW Value := qs.foldl (fun D h => D.put (.int .i64 h.i) (.held h.v)) (.map [])
theorem DD_snoc (qs : List Q) (h : Q) : DD (qs ++ [h]) = (DD qs).put (.int .i64 h.i) (.held h.v) := by simp [DD, List.foldl_append]
theorem key (i : Int) : WideAt.IsKeyLit (.int .i64 i) := by simp [WideAt.IsKeyLit]
theorem DD_tidy (qs : List Q) : Maps.Tidy (DD qs) := by
  unfold DD
  have : ∀ (l : List Q) (D : DataW Value), Maps.Tidy D → Maps.Tidy (l.foldl (fun D h => D.put (.int .i64 h.i) (.held h.v)) D) := by
    intro l
    induction l with
    | nil => intro D h; exact h
    | cons x r ih => intro D h; exact ih _ (h.put (key x.i) _)
  exact this qs _ Maps.tidy_empty
theorem snocInd {α : Type} {p : List α → Prop} (h0 : p []) (h1 : ∀ l x, p l → p (l ++ [x])) (l : List α) : p l := by
  rw [← List.reverse_reverse l]
  generalize l.reverse = m
  induction m with
  | nil => exact h0
  | cons x r ih => rw [List.reverse_cons]; exact h1 _ _ ih
theorem has_DD (i : Int) (qs : List Q) : Maps.has (DD qs) (.int .i64 i) = qs.any (fun x => x.i == i) := by
  refine snocInd (p := fun qs => Maps.has (DD qs) (.int .i64 i) = qs.any (fun x => x.i == i)) rfl ?_ qs
  intro l x ih
  rw [DD_snoc, List.any_append]
  by_cases h : x.i = i
  · rw [h, Maps.has_put_same (DD_tidy l).isMap (key i)]
    simp [h]
  · rw [Maps.has_put_other (by intro e; injection e with _ e; exact h e.symm), ih]
    simp [h]
theorem size_DD (qs : List Q) (hn : (qs.map Q.i).Nodup) : Maps.size (DD qs) = qs.length := by
  revert hn
  refine snocInd (p := fun qs => (qs.map Q.i).Nodup → Maps.size (DD qs) = qs.length) (fun _ => rfl) ?_ qs
  intro l x ih hn
  rw [List.map_append, List.nodup_append] at hn
  have hx : l.any (fun y => y.i == x.i) = false := by
    rw [Bool.eq_false_iff]
    intro h
    obtain ⟨y, hy, he⟩ := List.any_eq_true.1 h
    exact hn.2.2 y.i (List.mem_map.2 ⟨y, hy, rfl⟩) x.i (by simp) (by simpa using he)
  rw [DD_snoc, Maps.size_put (DD_tidy l), has_DD, hx, ih hn.1]
  simp
theorem at_DD (z : DataW Value) (i : Int) (qs : List Q) (hn : (qs.map Q.i).Nodup) : (∀ x ∈ qs, x.i = i → (DD qs).atKey (.int .i64 i) z = .held x.v) ∧ ((∀ x ∈ qs, x.i ≠ i) → (DD qs).atKey (.int .i64 i) z = z) := by
  revert hn
  refine snocInd (p := fun qs => (qs.map Q.i).Nodup → (∀ x ∈ qs, x.i = i → (DD qs).atKey (.int .i64 i) z = .held x.v) ∧ ((∀ x ∈ qs, x.i ≠ i) → (DD qs).atKey (.int .i64 i) z = z)) (fun _ => ⟨fun x hx => by simp at hx, fun _ => rfl⟩) ?_ qs
  intro l y ih hn
  rw [List.map_append, List.nodup_append] at hn
  obtain ⟨h1, h2⟩ := ih hn.1
  rw [DD_snoc]
  constructor
  · intro x hx hi
    rcases List.mem_append.1 hx with hx | hx
    · have hne : y.i ≠ i := fun e => hn.2.2 x.i (List.mem_map.2 ⟨x, hx, rfl⟩) y.i (by simp) (by rw [hi, e])
      rw [Maps.atKey_put_other (by intro e; injection e with _ e; exact hne e.symm)]
      exact h1 x hx hi
    · obtain rfl : x = y := by simpa using hx
      rw [hi, Maps.atKey_put_same (DD_tidy l).isMap (key i)]
  · intro hx
    have hne : y.i ≠ i := hx y (by simp)
    rw [Maps.atKey_put_other (by intro e; injection e with _ e; exact hne e.symm)]
    exact h2 (fun x hx' => hx x (by simp [hx']))

/-! the state -/
def tot (qs : List Q) : Int := (qs.map fun x => (x.bs.length : Int)).sum
structure CS (own : Nat → Prop) (p b : Nat) (c : Int) (qs : List Q) (W : World) : Prop where
  op : own p
  ob : own b
  ne : p ≠ b
  st : W.heap[p]? = some (.cells #[.bool true, .int .i64 c, .int .i64 (tot qs), .map (some b)] 118 (0, 0))
  mp : W.ownsMap Try.prog 3 RV b qs.length (DD qs)
  el : ∀ x ∈ qs, Kd.R (Kd.int .u8) 5 W 0 (fun k => own k ∧ k ≠ p ∧ k ≠ b) x.v x.bs
  nd : (qs.map Q.i).Nodup
  rg : ∀ x ∈ qs, 0 ≤ x.i ∧ x.i < c
  lt : ∀ k, own k → k < W.heap.size
theorem CS.frame {own S : Nat → Prop} {p b : Nat} {c : Int} {qs : List Q} {W W' : World} (h : CS own p b c qs W) (hf : Fr S W W') (hd : ∀ k, own k → ¬ S k) : CS own p b c qs W' where
  op := h.op
  ob := h.ob
  ne := h.ne
  st := (hf.block p (h.lt p h.op) (hd p h.op)).trans h.st
  mp := by
    obtain ⟨es, clock, hb, r⟩ := h.mp
    exact ⟨es, clock, (hf.block b (h.lt b h.ob) (hd b h.ob)).trans hb, r⟩
  el := fun x hx => Kd.R_step (h.el x hx) (fun k hk hlt => hf.block k hlt (hd k hk.1))
  nd := h.nd
  rg := h.rg
  lt := fun k hk => Nat.lt_of_lt_of_le (h.lt k hk) hf.size
theorem CS.cells {own : Nat → Prop} {p b : Nat} {c : Int} {qs : List Q} {W : World} (h : CS own p b c qs W) :
    W.cell? ⟨p, 0, none⟩ = some (.bool true) ∧ W.cell? ⟨p, 1, none⟩ = some (.int .i64 c) ∧ W.cell? ⟨p, 2, none⟩ = some (.int .i64 (tot qs)) ∧ W.cell? ⟨p, 3, none⟩ = some (.map (some b)) ∧ W.frozen? ⟨p, 2, none⟩ = false := by
  refine ⟨?_, ?_, ?_, ?_, ?_⟩
  all_goals first | (unfold World.cell?; rw [h.st]; rfl) | (unfold World.frozen?; rw [h.st]; simp)

set_option maxRecDepth 100000 in
set_option maxHeartbeats 1000000 in
theorem has_calls {own : Nat → Prop} {p b : Nat} {c : Int} {qs : List Q} {W : World} (h : CS own p b c qs W) (i : Int) (hi : (Lit.int .i64 i).wf = true) :
    Calls Try.prog 58 #[.pointer (some ⟨p, 0, none⟩), .int .i64 i] W fun e w' => e = .returned (.bool (qs.any fun x => x.i == i)) ∧ Below W.heap.size W w' := by
  obtain ⟨g0, g1, g2, g3, _⟩ := h.cells
  have hmp := Aside0.mk h.mp
  have hk := Maps.keyOf_int_mk (P := Try.prog) Try.underlying3 hi
  have hz : ∀ w, (zeroValue 36).run Try.prog w = .ok (.slice none 0 0) w := fun w => Try.zeroValue36 w
  have hh := has_DD i qs
  have HB := Aside0.mk (Below.refl W.heap.size W)
  clear h
  go_enter Try.func58, Try.ntmps58
  go_wp2_with (first
    | (at_lookup; refine wpList_lookup_own_ok _ rfl _ _ 116 rfl 3 36 (Maps.int_keyed Try.underlying3) Try.underlying116 RV (hz _) (.held (.slice none 0 0)) [] rfl b _ _ rfl hmp.out _ _ rfl hk ?_; intro v ps hv; rw [hh])
    | go_in)
  go_ret
  exact ⟨rfl, HB.out⟩
end Go.Proofs.Ytaeelmkpjgmdlaa.H

/- Mine. Chapters 22 and 23, by hand (turned from chapter 21): New, Missing, Size, Add of the parts. -/
namespace Go.Proofs.Ytaeelmkpjgmdlaa.H
open Go Go.Proofs Go.RowKit Go.Lib Go.Proofs.Ytaeelmkpjgmdlaa.P Go.Proofs.YtaeelmkpjgmdlaaW.PrintWords Go.Proofs.YtaeelmkpjgmdlaaW.PrintLast Go.Proofs.YtaeelmkpjgmdlaaW.PrintMore Go.Proofs.YtaeelmkpjgmdlaaW.PrintFlat
set_option linter.unusedVariables false
set_option linter.unusedSimpArgs false
theorem i5 : (Try.prog.info? 5).map (fun i => (i.zero, i.size, i.bytes)) = some (some (.int .u8 0), 1, 1) := by kernel_rfl
set_option maxHeartbeats 1000000 in
set_option maxRecDepth 100000 in
theorem clone_calls (A0 : Option Addr) (c0 : Nat) (l0 : List Int) (w : World) (hr0 : Kd.C (Kd.int .u8) w A0 l0.length l0) (hc0 : l0.length ≤ c0) (hb : l0.length * 1 ≤ 140737488355328) :
    Calls Try.prog 62 #[.slice A0 l0.length c0] w fun e w' => ∃ v0_ : Value, e = .returned v0_ ∧ Kd.R (Kd.int .u8) 5 w' w.heap.size (fun _ => True) v0_ l0 ∧ Below w.heap.size w w' := by
  have q22 : ∀ (w : World) (a : Option Addr) (n c n' c' : Nat), (binOp .eql 36 (.slice a n c) (.slice none n' c')).run Try.prog w = .ok (.bool a.isNone) w := fun w a n c n' c' => Lib.run_eql_slice_nil w _ _ a n c n' c' Try.underlying36
  cases A0 with
  | none =>
    obtain rfl : l0 = [] := by
      rcases Nat.eq_zero_or_pos l0.length with h0 | h0
      · exact List.eq_nil_of_length_eq_zero h0
      · obtain ⟨_, h1, _⟩ := hr0.2.2 h0
        cases h1
    clear hr0 hc0 hb
    go_enter Try.func62, Try.ntmps62
    go_wp2
    go_ret
    exact ⟨_, rfl, Kd.R_nil _ _ _ _ _, Below.refl _ _⟩
  | some a0 =>
    have HR := Aside0.mk (show ReadsRow ((Kd.int .u8).K w) 1 (w.alloc (.cells #[] 5)) (some a0) l0.length l0 from hr0.imp_ (below_alloc (Below.refl _ _) _) (fun _ _ h => h))
    have HL := Aside0.mk hb
    have HO := Aside0.mk (show Kd.R (Kd.int .u8) 5 (w.alloc (.cells #[] 5)) w.heap.size (fun _ => True) (.slice (some ⟨w.heap.size, 0, none⟩) 0 0) [] from ⟨fun _ _ => trivial, [], World.ownsRow_made w #[] 0 (Nat.le_refl _) (by decide) (by simp), Reps.none _ _⟩)
    have HB := Aside0.mk (below_alloc (Below.refl w.heap.size w) (.cells #[] 5))
    clear hr0 hc0 hb
    go_enter Try.func62, Try.ntmps62
    go_wp2_with (at_builtin; refine Kd.R_append_rows (Kd.int .u8) (Rr := (Kd.int .u8).K w) w.heap.size rfl _ _ 36 5 _ 1 rfl Try.underlying36 i5 rfl (by decide) (by decide) _ [] l0 _ _ _ (fun _ => True) (fun _ => False) rfl rfl HO.out HR.out (fun _ _ h => h) (fun _ h => h.elim) (fun _ _ => trivial) HB.out (by simp) (by simpa using HL.out) ?_; intro v1 w1 hown hB hg hat)
    go_wp2
    go_ret
    exact ⟨v1, rfl, hown, hB⟩
theorem skip_step {P : Program} {o : Oper} {ops : Array Oper} {a : Act} {W w1 : World} {Kc : Act → World → Prop} {Q : Exit → Act → World → Prop} (hw : Region.wanted o (yielded ops a.tmps) = true) (hrun : (execOp a.eval o).run P W = .ok .skip w1) (h : Kc (a.put o.dst undef) w1) : if Region.wanted o (yielded ops a.tmps) = true then Oper.wp P o a W Kc Q else Kc (a.put o.dst undef) W := by
  rw [if_pos hw]
  unfold Oper.wp
  rw [hrun]
  exact h
theorem map_below {W W' : World} {b n : Nat} {D : DataW Value} (h : W.ownsMap Try.prog 3 RV b n D) (hb : Below W.heap.size W W') : W'.ownsMap Try.prog 3 RV b n D := by
  have hlt := h.lt
  obtain ⟨es, clock, h1, r⟩ := h
  exact ⟨es, clock, (hb.block b hlt).trans h1, r⟩
set_option maxRecDepth 100000 in
set_option maxHeartbeats 1000000 in
theorem missing_calls {own : Nat → Prop} {p b : Nat} {c : Int} {qs : List Q} {W : World} (h : CS own p b c qs W) (hc : c ≤ 65535) (hc0 : 0 ≤ c) (hl : qs.length ≤ 65535) :
    Calls Try.prog 64 #[.pointer (some ⟨p, 0, none⟩)] W fun e w' => e = .returned (.int .i64 (c - qs.length)) ∧ Below W.heap.size W w' := by
  obtain ⟨g0, g1, g2, g3, _⟩ := h.cells
  have hmp := Aside0.mk h.mp
  have hh := size_DD qs h.nd
  have HB := Aside0.mk (Below.refl W.heap.size W)
  have hw : wrap64 (c - (qs.length : Int)) = c - (qs.length : Int) := by unfold wrap64; omega
  clear h
  go_enter Try.func64, Try.ntmps64
  go_wp2
  have HS : (fun V : World => V.cell? ⟨p, 1, none⟩ = some (.int .i64 c) ∧ V.cell? ⟨p, 3, none⟩ = some (.map (some b)) ∧ V.ownsMap Try.prog 3 RV b qs.length (DD qs)) W.drew := ⟨g1, g3, hmp.out.drew⟩
  refine start_ (n := 11) (S := fun V : World => V.cell? ⟨p, 1, none⟩ = some (.int .i64 c) ∧ V.cell? ⟨p, 3, none⟩ = some (.map (some b)) ∧ V.ownsMap Try.prog 3 RV b qs.length (DD qs)) (ds := []) #[false, false, false, false, false, false, false, false, false, false, false] (by kernel_rfl) rfl rfl HS (fun hHeld => ?_)
  clear HS
  refine pure_ (i := 0) (N := some 5) (v := ?_) (a' := ?_) #[true, false, false, false, false, false, false, false, false, false, false] rfl rfl (by kernel_rfl) (fun _ _ _ h => h) (Or.inl ⟨by rfl, ?_⟩) ?_ ?_
  rotate_left
  · intro w'
    go_simp
    with_reducible rfl
  rotate_left
  · simp only [Act.put, List.setIfInBounds_toArray, List.set_cons_zero, List.set_cons_succ, i64_w, i32_w]
    rfl
  refine pure_ (i := 1) (N := some 6) (v := ?_) (a' := ?_) #[true, true, false, false, false, false, false, false, false, false, false] rfl rfl (by kernel_rfl) (fun _ _ _ h => h) (Or.inl ⟨by rfl, ?_⟩) ?_ ?_
  rotate_left
  · intro w'
    go_simp
    with_reducible rfl
  rotate_left
  · simp only [Act.put, List.setIfInBounds_toArray, List.set_cons_zero, List.set_cons_succ, i64_w, i32_w]
    rfl
  refine pure_ (i := 2) (N := some 7) (v := ?_) (a' := ?_) #[true, true, true, false, false, false, false, false, false, false, false] rfl rfl (by kernel_rfl) (fun _ _ _ h => h) (Or.inl ⟨by rfl, ?_⟩) ?_ ?_
  rotate_left
  · intro w'
    go_simp
    with_reducible rfl
  rotate_left
  · simp only [Act.put, List.setIfInBounds_toArray, List.set_cons_zero, List.set_cons_succ, i64_w, i32_w]
    rfl
  refine take_ (i := 3) (N := some 8) (v := ?_) (a' := ?_) #[true, true, true, true, false, false, false, false, false, false, false] rfl rfl (by kernel_rfl) (fun _ _ _ h => h) (Or.inl ⟨by rfl, ?_⟩) hHeld ?_ ?_
  rotate_left
  · rintro w' ⟨s0, s1, s2⟩; have hl_ := fun ty => World.ownsMap.len s2 Try.underlying116 ty; rw [hh] at hl_
    go_simp
    with_reducible rfl
  rotate_left
  · simp only [Act.put, List.setIfInBounds_toArray, List.set_cons_zero, List.set_cons_succ, i64_w, i32_w]
    rfl
  refine pure_ (i := 4) (N := some 9) (v := ?_) (a' := ?_) #[true, true, true, true, true, false, false, false, false, false, false] rfl rfl (by kernel_rfl) (fun _ _ _ h => h) (Or.inl ⟨by rfl, ?_⟩) ?_ ?_
  rotate_left
  · intro w'
    go_simp
    with_reducible rfl
  rotate_left
  · simp only [Act.put, List.setIfInBounds_toArray, List.set_cons_zero, List.set_cons_succ, i64_w, i32_w]
    rfl
  refine pure_ (i := 5) (N := some 10) (v := ?_) (a' := ?_) #[true, true, true, true, true, true, false, false, false, false, false] rfl rfl (by kernel_rfl) (fun _ _ _ h => h) (Or.inl ⟨by rfl, ?_⟩) ?_ ?_
  rotate_left
  · intro w'
    go_simp
    with_reducible rfl
  rotate_left
  · simp only [Act.put, List.setIfInBounds_toArray, List.set_cons_zero, List.set_cons_succ, i64_w, i32_w]
    rfl
  refine pure_ (i := 6) (N := some 11) (v := ?_) (a' := ?_) #[true, true, true, true, true, true, true, false, false, false, false] rfl rfl (by kernel_rfl) (fun _ _ _ h => h) (Or.inl ⟨by rfl, ?_⟩) ?_ ?_
  rotate_left
  · intro w'
    go_simp
    with_reducible rfl
  rotate_left
  · simp only [Act.put, List.setIfInBounds_toArray, List.set_cons_zero, List.set_cons_succ, i64_w, i32_w]
    rfl
  refine take_ (i := 7) (N := some 12) (v := ?_) (a' := ?_) #[true, true, true, true, true, true, true, true, false, false, false] rfl rfl (by kernel_rfl) (fun _ _ _ h => h) (Or.inl ⟨by rfl, ?_⟩) hHeld ?_ ?_
  rotate_left
  · rintro w' ⟨s0, s1, s2⟩; have hl_ := fun ty => World.ownsMap.len s2 Try.underlying116 ty; rw [hh] at hl_
    go_simp
    with_reducible rfl
  rotate_left
  · simp only [Act.put, List.setIfInBounds_toArray, List.set_cons_zero, List.set_cons_succ, i64_w, i32_w]
    rfl
  refine take_ (i := 8) (N := some 13) (v := ?_) (a' := ?_) #[true, true, true, true, true, true, true, true, true, false, false] rfl rfl (by kernel_rfl) (fun _ _ _ h => h) (Or.inl ⟨by rfl, ?_⟩) hHeld ?_ ?_
  rotate_left
  · rintro w' ⟨s0, s1, s2⟩; have hl_ := fun ty => World.ownsMap.len s2 Try.underlying116 ty; rw [hh] at hl_
    go_simp
    with_reducible rfl
  rotate_left
  · simp only [Act.put, List.setIfInBounds_toArray, List.set_cons_zero, List.set_cons_succ, i64_w, i32_w]
    rfl
  refine pure_ (i := 9) (N := some 14) (v := ?_) (a' := ?_) #[true, true, true, true, true, true, true, true, true, true, false] rfl rfl (by kernel_rfl) (fun _ _ _ h => h) (Or.inl ⟨by rfl, ?_⟩) ?_ ?_
  rotate_left
  · intro w'
    go_simp
    with_reducible rfl
  rotate_left
  · simp only [Act.put, List.setIfInBounds_toArray, List.set_cons_zero, List.set_cons_succ, i64_w, i32_w]
    rfl
  refine pure_ (i := 10) (N := some 2) (v := ?_) (a' := ?_) #[true, true, true, true, true, true, true, true, true, true, true] rfl rfl (by kernel_rfl) (fun _ _ _ h => h) (Or.inl ⟨by rfl, ?_⟩) ?_ ?_
  rotate_left
  · intro w'
    go_simp
    with_reducible rfl
  rotate_left
  · simp only [Act.put, List.setIfInBounds_toArray, List.set_cons_zero, List.set_cons_succ, i64_w, i32_w]
    rfl
  refine done_ (by kernel_rfl) ?_
  go_wp2
  rw [hw]
  go_ret
  exact ⟨rfl, HB.out.drew⟩
set_option maxRecDepth 100000 in
set_option maxHeartbeats 1000000 in
theorem size_calls {own : Nat → Prop} {p b : Nat} {c : Int} {qs : List Q} {W : World} (h : CS own p b c qs W) :
    Calls Try.prog 42 #[.pointer (some ⟨p, 0, none⟩)] W fun e w' => e = .returned (.int .i64 (tot qs)) ∧ Below W.heap.size W w' := by
  obtain ⟨g0, g1, g2, g3, _⟩ := h.cells
  have HB := Aside0.mk (Below.refl W.heap.size W)
  clear h
  go_enter Try.func42, Try.ntmps42
  go_wp2
  go_ret
  exact ⟨rfl, HB.out⟩
def NewP (c : Int) (W : World) (e : Ending) (w' : World) : Prop := Below W.heap.size W w' ∧ ((1 ≤ c ∧ c ≤ 65535 ∧ ∃ p b, e = .returned (.tuple #[.pointer (some ⟨p, 0, none⟩), .int .i64 0]) ∧ W.heap.size ≤ p ∧ W.heap.size ≤ b ∧ CS (fun k => k = p ∨ k = b) p b c [] w') ∨ ((c < 1 ∨ c > 65535) ∧ e = .returned (.tuple #[.pointer none, .int .i64 1])))
set_option maxRecDepth 100000 in
set_option maxHeartbeats 1000000 in
theorem new_calls (c : Int) (W : World) : Calls Try.prog 60 #[.int .i64 c] W (NewP c W) := by
  have HB := Aside0.mk (Below.refl W.heap.size W)
  by_cases h1 : c < 1
  · go_enter Try.func60, Try.ntmps60
    go_wp2
    go_ret2
    exact ⟨HB.out, .inr ⟨.inl h1, rfl⟩⟩
  · by_cases h2 : 65535 < c
    · go_enter Try.func60, Try.ntmps60
      go_wp2
      go_ret2
      exact ⟨HB.out, .inr ⟨.inr h2, rfl⟩⟩
    · go_enter Try.func60, Try.ntmps60
      go_wp2
      rw [show (Instr.makeMap 116 none).run Try.prog W = .ok (.map (some W.heap.size)) (W.alloc (.map #[] 0)) from rfl]
      simp only [Result.andThen_ok]
      go_wp2
      go_ret2
      have e1 : (W.alloc (.map #[] 0)).heap.size = W.heap.size + 1 := by simp
      refine ⟨below_alloc (below_alloc HB.out _) _, .inl ⟨by omega, by omega, W.heap.size + 1, W.heap.size, rfl, by omega, Nat.le_refl _, ?_⟩⟩
      refine ⟨.inl rfl, .inr rfl, by omega, ?_, ?_, fun x hx => by simp at hx, by simp, fun x hx => by simp at hx, fun k hk => by simp; omega⟩
      · have := heap_alloc_new (W.alloc (.map #[] 0)) (.cells #[.bool true, .int .i64 c, .int .i64 0, .map (some W.heap.size)] 118)
        rw [e1] at this
        exact this
      · exact (World.ownsMap_made W Try.prog 3 RV).alloc _
def AddP (own : Nat → Prop) (p b : Nat) (c : Int) (qs : List Q) (W : World) (i : Int) (l : List Int) (e : Ending) (w' : World) : Prop := Fr own W w' ∧
      (((i < 0 ∨ c ≤ i) ∧ e = .returned (.int .i64 1) ∧ CS own p b c qs w') ∨
       ((0 ≤ i ∧ i < c) ∧ (qs.any fun x => x.i == i) = true ∧ e = .returned (.int .i64 12) ∧ CS own p b c qs w') ∨
       ((0 ≤ i ∧ i < c) ∧ (qs.any fun x => x.i == i) = false ∧ e = .returned (.int .i64 0) ∧ ∃ v, CS (fun k => own k ∨ W.heap.size ≤ k ∧ k < w'.heap.size) p b c (qs ++ [⟨i, v, l⟩]) w'))
set_option maxRecDepth 100000 in
set_option maxHeartbeats 4000000 in
theorem add_calls {own : Nat → Prop} {p b : Nat} {c : Int} {qs : List Q} {W : World} (h : CS own p b c qs W) (i : Int) (hi : (Lit.int .i64 i).wf = true) (A : Option Addr) (cp : Nat) (l : List Int) (hcp : l.length ≤ cp)
    (hbody : ∀ V, Fr own W V → Kd.C (Kd.int .u8) V A l.length l) (hl : l.length ≤ 140737488355328) (ht0 : 0 ≤ tot qs) (ht : tot qs ≤ 4611686018427387904) (hq : qs.length ≤ 65535) :
    Calls Try.prog 33 #[.pointer (some ⟨p, 0, none⟩), .int .i64 i, .slice A l.length cp] W (AddP own p b c qs W i l) := by
  obtain ⟨g0, g1, g2, g3, _⟩ := h.cells
  have HH := Aside0.mk h
  have HFR := Aside0.mk (Fr.refl own W)
  by_cases hi0 : i < 0
  · clear h
    go_enter Try.func33, Try.ntmps33
    go_wp2
    go_ret
    exact ⟨HFR.out, .inl ⟨.inl hi0, rfl, HH.out⟩⟩
  by_cases hi1 : c ≤ i
  · clear h
    go_enter Try.func33, Try.ntmps33
    go_wp2
    go_ret
    exact ⟨HFR.out, .inl ⟨.inr hi1, rfl, HH.out⟩⟩
  have hi2 : ¬ (i ≥ c) := hi1
  have hhas := has_calls h i hi
  have HHAS := Aside0.mk hhas
  clear hhas
  cases hany : (qs.any fun x => x.i == i) with
  | true =>
    rw [hany] at HHAS
    have HA := Aside0.mk hany
    clear h hany
    go_enter Try.func33, Try.ntmps33
    go_wp2_with (first | (go_at_call 58; refine HHAS.out.mono ?_; rintro e w1 ⟨rfl, hb1⟩; have HB1 := Aside0.mk hb1; clear hb1) | go_in)
    go_ret
    exact ⟨Fr.of_below HB1.out, .inr (.inl ⟨by omega, HA.out, rfl, HH.out.frame (S := fun _ => False) (Fr.of_below HB1.out) (fun _ _ h => h)⟩)⟩
  | false =>
    rw [hany] at HHAS
    have HA := Aside0.mk hany
    have HBODY := Aside0.mk hbody
    have HT := Aside0.mk (And.intro ht0 (And.intro ht (And.intro hl hq)))
    have HIC := Aside0.mk (And.intro (Int.not_lt.1 hi0) (Int.not_le.1 hi1))
    have HCP := Aside0.mk hcp
    have HKEY := Aside0.mk (Maps.keyOf_int_mk (P := Try.prog) Try.underlying3 hi)
    have HN : Aside0 (qs.length < maxLen) := ⟨by unfold maxLen; omega⟩
    clear h hany hbody ht ht0 hl hq hcp
    go_enter Try.func33, Try.ntmps33
    go_wp2_with (first | (go_at_call 58; refine HHAS.out.mono ?_; rintro e w1 ⟨rfl, hb1⟩; have HB1 := Aside0.mk hb1; clear hb1) | go_in)
    have hF1 : Fr own W w1 := Fr.of_below HB1.out
    have hp3 : w1.cell? ⟨p, 3, none⟩ = some (.map (some b)) := (HB1.out.cell (World.block_lt_of_cell? _ _ g3)).trans g3
    have HS : (fun V : World => Fr own W V ∧ V.cell? ⟨p, 3, none⟩ = some (.map (some b))) w1.drew := ⟨⟨hF1.os, hF1.tape, hF1.output, hF1.size, hF1.block⟩, hp3⟩
    have HCL : Aside0 (∀ V, Fr own W V → Calls Try.prog 62 #[.slice A l.length cp] V fun e w' => ∃ v0_ : Value, e = .returned v0_ ∧ Kd.R (Kd.int .u8) 5 w' V.heap.size (fun _ => True) v0_ l ∧ Below V.heap.size V w') := ⟨fun V hV => clone_calls A cp l V (HBODY.out V hV) HCP.out (by have := HT.out.2.2.1; omega)⟩
    have HS2 : Aside0 (∀ V w2 : World, (fun V : World => Fr own W V ∧ V.cell? ⟨p, 3, none⟩ = some (.map (some b))) V → Below V.heap.size V w2 → (fun V : World => Fr own W V ∧ V.cell? ⟨p, 3, none⟩ = some (.map (some b))) w2) := ⟨fun V w2 hV hb => ⟨hV.1.then_ (Fr.of_below (own := own) hb) (fun _ _ h => h), (hb.cell (World.block_lt_of_cell? _ _ hV.2)).trans hV.2⟩⟩
    have HS3 : Aside0 (∀ V w3 : World, (fun V : World => Fr own W V ∧ V.cell? ⟨p, 3, none⟩ = some (.map (some b))) V → V.mapTurned w3 b → (fun V : World => Fr own W V ∧ V.cell? ⟨p, 3, none⟩ = some (.map (some b))) w3) := ⟨fun V w3 hV hb => ⟨hV.1.then_ (Fr.of_grown (own := own) hb.grown HH.out.ob) (fun _ _ h => h), by
      rw [World.cell?_of_block (w := V) (hb.grown.block p (World.block_lt_of_cell? _ _ hV.2) (fun e => HH.out.ne (by cases e; rfl)))]; exact hV.2⟩⟩
    have HMP : Aside0 (w1.drew.ownsMap Try.prog 3 RV b qs.length (DD qs)) := ⟨(map_below HH.out.mp HB1.out).drew⟩
    clear hF1 hp3
    refine start_ (n := 8) (S := fun V : World => Fr own W V ∧ V.cell? ⟨p, 3, none⟩ = some (.map (some b))) (ds := []) #[false, false, false, false, false, false, false, false] (by kernel_rfl) rfl rfl HS (fun hHeld => ?_)
    clear HS
    refine pure_ (i := 0) (N := some 24) (v := ?_) (a' := ?_) #[true, false, false, false, false, false, false, false] rfl rfl (by kernel_rfl) (fun _ _ _ h => h) (Or.inl ⟨by rfl, ?_⟩) ?_ ?_
    rotate_left
    · intro w'
      go_simp
      with_reducible rfl
    rotate_left
    · simp only [Act.put, List.setIfInBounds_toArray, List.set_cons_zero, List.set_cons_succ, i64_w, i32_w]
      rfl
    refine pure_ (i := 1) (N := some 25) (v := ?_) (a' := ?_) #[true, true, false, false, false, false, false, false] rfl rfl (by kernel_rfl) (fun _ _ _ h => h) (Or.inl ⟨by rfl, ?_⟩) ?_ ?_
    rotate_left
    · intro w'
      go_simp
      with_reducible rfl
    rotate_left
    · simp only [Act.put, List.setIfInBounds_toArray, List.set_cons_zero, List.set_cons_succ, i64_w, i32_w]
      rfl
    refine pure_ (i := 2) (N := some 26) (v := ?_) (a' := ?_) #[true, true, true, false, false, false, false, false] rfl rfl (by kernel_rfl) (fun _ _ _ h => h) (Or.inl ⟨by rfl, ?_⟩) ?_ ?_
    rotate_left
    · intro w'
      go_simp
      with_reducible rfl
    rotate_left
    · simp only [Act.put, List.setIfInBounds_toArray, List.set_cons_zero, List.set_cons_succ, i64_w, i32_w]
      rfl
    refine take_ (i := 3) (N := some 27) (v := ?_) (a' := ?_) #[true, true, true, true, false, false, false, false] rfl rfl (by kernel_rfl) (fun _ _ _ h => h) (Or.inl ⟨by rfl, ?_⟩) hHeld ?_ ?_
    rotate_left
    · rintro w' ⟨s0, s1⟩
      go_simp
      with_reducible rfl
    rotate_left
    · simp only [Act.put, List.setIfInBounds_toArray, List.set_cons_zero, List.set_cons_succ, i64_w, i32_w]
      rfl
    refine pure_ (i := 4) (N := some 28) (v := ?_) (a' := ?_) #[true, true, true, true, true, false, false, false] rfl rfl (by kernel_rfl) (fun _ _ _ h => h) (Or.inl ⟨by rfl, ?_⟩) ?_ ?_
    rotate_left
    · intro w'
      go_simp
      with_reducible rfl
    rotate_left
    · simp only [Act.put, List.setIfInBounds_toArray, List.set_cons_zero, List.set_cons_succ, i64_w, i32_w]
      rfl
    refine pure_ (i := 5) (N := some 29) (v := ?_) (a' := ?_) #[true, true, true, true, true, true, false, false] rfl rfl (by kernel_rfl) (fun _ _ _ h => h) (Or.inl ⟨by rfl, ?_⟩) ?_ ?_
    rotate_left
    · intro w'
      go_simp
      with_reducible rfl
    rotate_left
    · simp only [Act.put, List.setIfInBounds_toArray, List.set_cons_zero, List.set_cons_succ, i64_w, i32_w]
      rfl
    refine one_ (i := 6) (N := some 30) #[true, true, true, true, true, true, true, false] rfl rfl (by kernel_rfl) (by decide) (fun K hK => ?_)
    refine goes_ Try.func62 (by kernel_rfl) rfl #[.slice A l.length cp] (by rfl) rfl rfl (by (try simp only [List.map_toArray, List.map_cons, List.map_nil]); first | done | rfl) ?_
    refine (HCL.out _ hHeld.1).mono ?_
    rintro e w2 ⟨v2, rfl, hO2, hb2⟩
    refine ⟨_, rfl, ?_⟩
    have hS2 := HS2.out _ _ hHeld hb2
    have hm2 := map_below HMP.out hb2
    have HM2 := Aside0.mk hm2
    clear hm2
    refine hK.out _ _ hS2 (fun hHeld2 => ?_)
    have HO2 := Aside0.mk hO2
    have HBb := Aside0.mk hb2
    clear hO2 hb2 hHeld hS2
    clear hK K
    refine norm_ (a' := ?_) ?_ ?_
    rotate_left
    · show Act.put _ (some 30) _ = _
      simp only [Act.put, List.setIfInBounds_toArray, List.set_cons_zero, List.set_cons_succ, i64_w, i32_w]
      rfl
    refine one_ (i := 7) (N := none) #[true, true, true, true, true, true, true, true] rfl rfl (by kernel_rfl) (by decide) (fun K hK => ?_)
    obtain ⟨w3, hrun, r1, r2⟩ := HM2.out.store (Maps.int_keyed Try.underlying3) Try.underlying116 HN.out HKEY.out (show RV v2 = some (.held v2, []) from rfl)
    refine skip_step (by rfl) (w1 := w3) (by simp [execOp, Act.eval, hrun, Result.andThen]) ?_
    have hS3 := HS3.out _ _ hHeld2 r2
    refine hK.out _ _ hS3 (fun hHeld3 => ?_)
    have HR1 := Aside0.mk r1
    have HR2 := Aside0.mk r2
    clear r1 r2 hrun hS3 hHeld2
    clear hK K
    refine norm_ (a' := ?_) ?_ ?_
    rotate_left
    · show Act.put _ (none) _ = _
      simp only [Act.put, List.setIfInBounds_toArray, List.set_cons_zero, List.set_cons_succ, i64_w, i32_w]
      rfl
    refine done_ (by kernel_rfl) ?_
    have hp2 : w3.heap[p]? = some (.cells #[.bool true, .int .i64 c, .int .i64 (tot qs), .map (some b)] 118 (0, 0)) := by
      have e1 := HR2.out.grown.block p (by have h1 := World.block_lt_of_cell? _ _ g3; exact Nat.lt_of_lt_of_le (Nat.lt_of_lt_of_le h1 HB1.out.size) HBb.out.size) (fun e => HH.out.ne (by cases e; rfl))
      rw [e1, HBb.out.block p (Nat.lt_of_lt_of_le (World.block_lt_of_cell? _ _ g3) HB1.out.size)]
      exact (HB1.out.block p (World.block_lt_of_cell? _ _ g3)).trans HH.out.st
    have HP2 := Aside0.mk hp2
    have k0 : w3.cell? ⟨p, 2, none⟩ = some (.int .i64 (tot qs)) := by unfold World.cell?; rw [hp2]; rfl
    have k1 : w3.frozen? ⟨p, 2, none⟩ = false := by unfold World.frozen?; rw [hp2]; simp
    have hwr : wrap64 (tot qs + (l.length : Int)) = tot qs + (l.length : Int) := by have := HT.out; unfold wrap64; omega
    clear hp2
    go_wp2
    go_ret
    have hS := hHeld3.1
    have hb1 := HB1.out
    have hb2 : Below w1.heap.size w1 w2 := ⟨HBb.out.os, HBb.out.tape, HBb.out.output, HBb.out.size, HBb.out.block⟩
    have hb3 := HR2.out.grown
    have hz3 : (w3.setCell ⟨p, 2, none⟩ (.int .i64 (tot qs + (l.length : Int)))).heap.size = w3.heap.size := by simp [World.setCell]
    have hne := HH.out.ne
    have hmove : ∀ k, k < W.heap.size → k ≠ p → k ≠ b → (w3.setCell ⟨p, 2, none⟩ (.int .i64 (tot qs + (l.length : Int)))).heap[k]? = W.heap[k]? := fun k hk h1 h2 => by
      rw [Below.heap_setCell _ _ _ _ h1, hb3.block k (Nat.lt_of_lt_of_le (Nat.lt_of_lt_of_le hk hb1.size) hb2.size) (fun e => h2 (by cases e; rfl)), hb2.block k (Nat.lt_of_lt_of_le hk hb1.size), hb1.block k hk]
    have hmove2 : ∀ k, k < w2.heap.size → k ≠ p → k ≠ b → (w3.setCell ⟨p, 2, none⟩ (.int .i64 (tot qs + (l.length : Int)))).heap[k]? = w2.heap[k]? := fun k hk h1 h2 => by
      rw [Below.heap_setCell _ _ _ _ h1, hb3.block k hk (fun e => h2 (by cases e; rfl))]
    refine ⟨⟨hS.os, hS.tape, hS.output, by rw [hz3]; exact hS.size, fun k hk ho => ?_⟩, .inr (.inr ⟨HIC.out, HA.out, rfl, v2, ?_⟩)⟩
    · rw [Below.heap_setCell _ _ _ _ (fun e => ho (by rw [e]; exact HH.out.op))]
      exact hS.block k hk ho
    · have hpl := HH.out.lt p HH.out.op
      have hbl := HH.out.lt b HH.out.ob
      refine ⟨.inl HH.out.op, .inl HH.out.ob, hne, ?_, ?_, ?_, ?_, ?_, ?_⟩
      · have h1 := blk_set HP2.out 2 (.int .i64 (tot qs + (l.length : Int)))
        rw [h1]
        simp [tot]
      · rw [DD_snoc, List.length_append, List.length_singleton]
        exact HR1.out.setCell (fun e => hne e.symm) _
      · intro x hx
        rcases List.mem_append.1 hx with hx | hx
        · exact Kd.R_mono (Kd.R_step (HH.out.el x hx) (fun k hk hlt => hmove k hlt hk.2.1 hk.2.2)) (fun k hk => ⟨.inl hk.1, hk.2⟩)
        · obtain rfl : x = ⟨i, v2, l⟩ := by simpa using hx
          have h1 := Kd.R_bound HO2.out
          have h2 : Kd.R (Kd.int .u8) 5 w2 0 (fun k => (own k ∨ W.heap.size ≤ k ∧ k < w3.heap.size) ∧ k ≠ p ∧ k ≠ b) v2 l := Kd.R_lower (Kd.R_mono h1 (fun k hk => by
            obtain ⟨_, h3, h4, _⟩ := hk
            have h5 : W.heap.size ≤ k := Nat.le_trans hb1.size h3
            exact ⟨.inr ⟨h5, Nat.lt_of_lt_of_le h4 hb3.size⟩, by omega, by omega⟩)) (Nat.zero_le _)
          exact Kd.R_mono (Kd.R_step h2 (fun k hk hlt => hmove2 k hlt hk.2.1 hk.2.2)) (fun k hk => by rw [hz3]; exact hk)
      · rw [List.map_append, List.nodup_append]
        refine ⟨HH.out.nd, by simp, fun a ha c hc => ?_⟩
        obtain rfl : c = i := by simpa using hc
        obtain ⟨y, hy, rfl⟩ := List.mem_map.1 ha
        intro e
        have := HA.out
        rw [List.any_eq_false] at this
        exact this y hy (by simp [e])
      · intro x hx
        rcases List.mem_append.1 hx with hx | hx
        · exact HH.out.rg x hx
        · obtain rfl : x = ⟨i, v2, l⟩ := by simpa using hx
          exact HIC.out
      · intro k hk
        rw [hz3]
        rcases hk with hk | hk
        · exact Nat.lt_of_lt_of_le (HH.out.lt k hk) (Nat.le_trans hb1.size (Nat.le_trans hb2.size hb3.size))
        · rw [hz3] at hk; exact hk.2
#print axioms new_calls
#print axioms missing_calls
#print axioms size_calls
#print axioms add_calls
end Go.Proofs.Ytaeelmkpjgmdlaa.H

/- Mine. Chapters 22 and 23, by hand (turned from chapter 21): Whole of the parts. -/
namespace Go.Proofs.Ytaeelmkpjgmdlaa.H
open Go Go.Proofs Go.RowKit Go.Lib Go.Proofs.Ytaeelmkpjgmdlaa.P Go.Proofs.YtaeelmkpjgmdlaaW.PrintWords Go.Proofs.YtaeelmkpjgmdlaaW.PrintLast Go.Proofs.YtaeelmkpjgmdlaaW.PrintMore Go.Proofs.YtaeelmkpjgmdlaaW.PrintFlat
set_option linter.unusedVariables false
set_option linter.unusedSimpArgs false
def nilS : Value := .slice none 0 0
def vAt (qs : List Q) (i : Int) : Value := ((qs.find? fun x => x.i == i).map Q.v).getD nilS
def bAt (qs : List Q) (i : Int) : List Int := ((qs.find? fun x => x.i == i).map Q.bs).getD []
def whole (qs : List Q) (n : Nat) : List Int := (List.range n).flatMap fun (i : Nat) => bAt qs i
theorem whole_succ (qs : List Q) (n : Nat) : whole qs (n + 1) = whole qs n ++ bAt qs n := by simp [whole, List.range_succ]
theorem at_is (qs : List Q) (hn : (qs.map Q.i).Nodup) (i : Int) : (DD qs).atKey (.int .i64 i) (.held nilS) = .held (vAt qs i) := by
  obtain ⟨h1, h2⟩ := at_DD (.held nilS) i qs hn
  unfold vAt
  cases hf : qs.find? (fun x => x.i == i) with
  | none =>
    rw [List.find?_eq_none] at hf
    exact h2 (fun x hx he => hf x hx (by simp [he]))
  | some x =>
    have hx := List.mem_of_find?_eq_some hf
    have he := List.find?_some hf
    exact h1 x hx (by simpa using he)
theorem wpList_lookup {P : Program} (w : World) {ops : Array Oper} {rest : List Oper} {o : Oper} {a : Act} {Q : Exit → Act → World → Prop} (hg : o.guard = none) (m x : Operand) (t : TypeId) (hop : o.op = Op.lookup t m x false)
    (v : Value) (key : Value) (b : Nat) (hm : a.eval m = .map (some b)) (hx : a.eval x = key) (hrun : (Instr.lookup t (.map (some b)) key false).run P w = .ok v w)
    (hK : wpList P ops Q rest (a.put o.dst v) w) : wpList P ops Q (o :: rest) a w := by
  refine wpList_plain hg fun K' hK' => ?_
  unfold Oper.wp
  simp [execOp, hop, hm, hx, hrun, Result.andThen]
  exact hK' _ _ hK
def WholeP (c : Int) (qs : List Q) (W : World) (e : Ending) (w' : World) : Prop := Below W.heap.size W w' ∧
  (((qs.length : Int) < c ∧ e = .returned (.tuple #[.slice none 0 0, .bool false])) ∨ (c ≤ qs.length ∧ ∃ v, e = .returned (.tuple #[v, .bool true]) ∧ Kd.R (Kd.int .u8) 5 w' W.heap.size (fun _ => True) v (whole qs c.toNat)))
theorem look_run {own : Nat → Prop} {p b : Nat} {c : Int} {qs : List Q} {W : World} (h : CS own p b c qs W) (i : Int) (hi : (Lit.int .i64 i).wf = true) : (Instr.lookup 116 (.map (some b)) (.int .i64 i) false).run Try.prog W = .ok (vAt qs i) W := by
  obtain ⟨v, ps, hrun, hv⟩ := h.mp.lookup (Maps.int_keyed Try.underlying3) Try.underlying116 (Try.zeroValue36 W) (zd := .held nilS) (zp := []) rfl (Maps.keyOf_int_mk (P := Try.prog) Try.underlying3 hi)
  rw [at_is qs h.nd] at hv
  have : v = vAt qs i := by
    have h1 := congrArg (fun z : Option (DataW Value × List MemPlace) => z.map Prod.fst) hv
    simpa using h1
  rw [← this]
  exact hrun
theorem at_reads {own : Nat → Prop} {p b : Nat} {c : Int} {qs : List Q} {W : World} (h : CS own p b c qs W) (i : Int) : ∃ A cc, vAt qs i = .slice A (bAt qs i).length cc ∧ (bAt qs i).length ≤ cc ∧ Kd.C (Kd.int .u8) W A (bAt qs i).length (bAt qs i) := by
  unfold vAt bAt
  cases hf : qs.find? (fun x => x.i == i) with
  | none => exact ⟨none, 0, rfl, Nat.le_refl _, ⟨rfl, Nat.zero_le _, fun h => absurd h (Nat.lt_irrefl _)⟩⟩
  | some x => exact Kd.R_reads (h.el x (List.mem_of_find?_eq_some hf))
theorem bAt_le (qs : List Q) (i : Int) : ((bAt qs i).length : Int) ≤ tot qs := by
  unfold bAt
  cases hf : qs.find? (fun x => x.i == i) with
  | none =>
    have : ∀ l : List Q, 0 ≤ tot l := fun l => by
      unfold tot
      induction l with
      | nil => simp
      | cons x r ih => simp only [List.map_cons, List.sum_cons]; omega
    simpa using this qs
  | some x =>
    have hx := List.mem_of_find?_eq_some hf
    have : ∀ l : List Q, x ∈ l → (x.bs.length : Int) ≤ tot l ∧ 0 ≤ tot l := fun l => by
      unfold tot
      induction l with
      | nil => intro h; simp at h
      | cons y r ih =>
        intro h
        have h0 : 0 ≤ (r.map fun x => (x.bs.length : Int)).sum := by
          clear ih h
          induction r with
          | nil => simp
          | cons z t ih => simp only [List.map_cons, List.sum_cons]; omega
        simp only [List.map_cons, List.sum_cons]
        rcases List.mem_cons.1 h with rfl | h
        · omega
        · have := (ih h).1; omega
    exact (this qs hx).1
theorem whole_le (qs : List Q) (n : Nat) : ((whole qs n).length : Int) ≤ n * tot qs := by
  induction n with
  | zero => simp [whole]
  | succ n ih =>
    rw [whole_succ, List.length_append]
    have := bAt_le qs n
    rw [show ((n + 1 : Nat) : Int) = (n : Int) + 1 by omega, Int.add_mul, Int.one_mul]
    omega
set_option maxRecDepth 100000 in
set_option maxHeartbeats 2000000 in
theorem whole_calls {own : Nat → Prop} {p b : Nat} {c : Int} {qs : List Q} {W : World} (h : CS own p b c qs W) (hc : c ≤ 65535) (hc0 : 0 ≤ c) (hl : qs.length ≤ 65535) (ht : tot qs ≤ 4194304) (ht0 : 0 ≤ tot qs) :
    Calls Try.prog 35 #[.pointer (some ⟨p, 0, none⟩)] W (WholeP c qs W) := by
  obtain ⟨g0, g1, g2, g3, _⟩ := h.cells
  have hmis := missing_calls h hc hc0 hl
  have HM := Aside0.mk hmis
  have HH := Aside0.mk h
  have HB := Aside0.mk (Below.refl W.heap.size W)
  by_cases hlt : (qs.length : Int) < c
  · have hm1 : 0 < c - (qs.length : Int) := by omega
    clear h hmis
    go_enter Try.func35, Try.ntmps35
    go_wp2_with (first | (go_at_call 64; refine HM.out.mono ?_; rintro e w1 ⟨rfl, hb1⟩; have HB1 := Aside0.mk hb1; clear hb1) | go_in)
    go_ret2
    exact ⟨HB1.out, .inl ⟨hlt, rfl⟩⟩
  · have hm1 : ¬ (0 < c - (qs.length : Int)) := by omega
    have HT := Aside0.mk (And.intro ht ht0)
    clear h hmis ht ht0
    go_enter Try.func35, Try.ntmps35
    go_wp2_with (first | (go_at_call 64; refine HM.out.mono ?_; rintro e w1 ⟨rfl, hb1⟩; have HB1 := Aside0.mk hb1; have hH1 := HH.out.frame (S := fun _ => False) (Fr.of_below hb1) (fun _ _ h => h); obtain ⟨j0, j1, j2, j3, _⟩ := hH1.cells; have HH1 := Aside0.mk hH1; clear hb1 hH1) | go_in)
    obtain ⟨T, hT⟩ : ∃ T : Nat, tot qs = T := ⟨(tot qs).toNat, by have := HT.out; omega⟩
    obtain ⟨i0, hi, hz0, hz1, hz2⟩ := info_parts i5
    obtain ⟨w2, hmk, hown2, hg2⟩ := run_make_own w1 W.heap.size 36 5 i0 _ 1 Try.underlying36 hi hz0 hz1 .i64 .i64 T (by rw [hz2]; have := HT.out; omega) (by unfold maxLen; have := HT.out; omega) HB1.out.size
    rw [← hT] at hmk
    rw [hmk]
    simp only [Result.andThen_ok]
    have hb2 : Below w1.heap.size w1 w2 := ⟨hg2.os, hg2.tape, hg2.output, hg2.size, fun k hk => hg2.block k hk (by simp)⟩
    have hR2 : Kd.R (Kd.int .u8) 5 w2 W.heap.size (fun _ => True) (.slice (some ⟨w1.heap.size, 0, none⟩) 0 T) [] := ⟨fun _ _ => trivial, [], hown2, Reps.none _ _⟩
    have HR2 := Aside0.mk hR2
    have hH2 := HH1.out.frame (S := fun _ => False) (Fr.of_below hb2) (fun _ _ h => h)
    have HH2 := Aside0.mk hH2
    have HB2 := Aside0.mk (below_then HB1.out HB1.out.size hb2)
    have y1 := (hb2.cell (World.block_lt_of_cell? _ _ j1)).trans j1
    clear hown2 hg2 hmk hb2 hR2 hH2 hi hz0 hz1 hz2 j0 j1 j2 j3
    go_wp2
    have HC := Aside0.mk (And.intro hc (And.intro hc0 hl))
    go_loopg [4, 5, 22] c.toNat (fun gg s4 _ s22 wr => ∃ k : Nat, k ≤ c.toNat ∧ c.toNat - k ≤ gg ∧ s22 = .int .i64 k ∧ Aside0 (Below W.heap.size W wr) ∧ Aside0 (Kd.R (Kd.int .u8) 5 wr W.heap.size (fun _ => True) s4 (whole qs k)))
    case atStart => exact ⟨0, Nat.zero_le _, by omega, rfl, HB2, HR2⟩
    case round =>
      obtain ⟨k, hk, hgg, rfl, HBk, HRk⟩ := hrel
      have hHk := HH.out.frame (S := fun _ => False) (Fr.of_below HBk.out) (fun _ _ h => h)
      obtain ⟨q0, q1, q2, q3, _⟩ := hHk.cells
      obtain ⟨A4, c4, rfl, hlc4, _⟩ := Kd.R_reads HRk.out
      by_cases hlt : k < c.toNat
      · have hkc : (k : Int) < c := by omega
        have hlook := look_run hHk (k : Int) (by simp [Lit.wf, IntKind.min, IntKind.max, IntKind.bits, IntKind.signed]; omega)
        obtain ⟨A5, c5, hv5, hlc5, hC5⟩ := at_reads hHk (k : Int)
        rw [hv5] at hlook
        have HC5 := Aside0.mk hC5
        have hsz : ((whole qs k).length + (bAt qs k).length) * 1 ≤ 140737488355328 := by
          have h1 := whole_le qs k
          have h2 := bAt_le qs k
          have h3 := HT.out
          have h4 : (k : Int) * tot qs ≤ 65535 * 4194304 := Int.mul_le_mul (by omega) h3.1 h3.2 (by omega)
          omega
        have HSZ := Aside0.mk hsz
        clear hC5 hHk hsz hv5
        go_wp2_with (first
          | (at_lookup; refine wpList_lookup _ rfl _ _ 116 rfl _ _ b rfl rfl hlook ?_)
          | (at_builtin; refine Kd.R_append_rows (Kd.int .u8) (Rr := (Kd.int .u8).K wr) (w0 := W) W.heap.size rfl _ _ 36 5 _ 1 rfl Try.underlying36 i5 rfl (by decide) (by decide) _ (whole qs k) (bAt qs k) _ _ _ (fun _ => True) (fun _ => False) rfl rfl HRk.out HC5.out (fun _ _ h => h) (fun _ h => h.elim) (fun _ _ => trivial) HBk.out HBk.out.size HSZ.out ?_; intro v1 w3 hown3 hb3 hg3 hat3; have HO3 := Aside0.mk hown3; have HB3 := Aside0.mk hb3; clear hown3 hb3 hg3 hat3))
        go_roundg (c.toNat - (k + 1))
        case measure => omega
        case rel =>
          refine ⟨k + 1, by omega, by omega, by go_num, HB3, ⟨?_⟩⟩
          rw [whole_succ]
          exact HO3.out
      · have hkc : ¬ ((k : Int) < c) := by omega
        have hkk : k = c.toNat := by omega
        clear hHk
        go_wp2
        go_ret2
        refine ⟨HBk.out, .inr ⟨by omega, _, rfl, ?_⟩⟩
        rw [← hkk]
        exact HRk.out
#print axioms whole_calls
end Go.Proofs.Ytaeelmkpjgmdlaa.H

/- Mine. Chapters 22 and 23, by hand (turned from chapter 21): the reference's parts (a struct with two rows of its own). -/
namespace Go.Proofs.Ytaeelmkpjgmdlaa.H
open Go Go.Proofs Go.RowKit Go.Lib Go.Proofs.Ytaeelmkpjgmdlaa.P Go.Proofs.YtaeelmkpjgmdlaaW.PrintWords Go.Proofs.YtaeelmkpjgmdlaaW.PrintLast Go.Proofs.YtaeelmkpjgmdlaaW.PrintMore Go.Proofs.YtaeelmkpjgmdlaaW.PrintFlat
set_option linter.unusedVariables false
set_option linter.unusedSimpArgs false
theorem i3 : (Try.prog.info? 3).map (fun i => (i.zero, i.size, i.bytes)) = some (some (.int .i64 0), 1, 8) := by kernel_rfl
theorem i9 : (Try.prog.info? 9).map (fun i => (i.zero, i.size, i.bytes)) = some (some (.string ByteArray.empty), 1, 16) := by kernel_rfl
def RS (own : Nat → Prop) (g : Nat) (c : Int) (ps : List Int) (ss : List ByteArray) (W : World) : Prop :=
  ∃ (oP oB : Nat → Prop) (vp vb : Value), (∀ k, oP k → own k ∧ k ≠ g ∧ ¬ oB k) ∧ (∀ k, oB k → own k ∧ k ≠ g) ∧ own g ∧
    W.heap[g]? = some (.cells #[.int .i64 c, vp, vb] 87 (0, 0)) ∧ Kd.R (Kd.int .i64) 3 W 0 oP vp ps ∧ Kd.R Kd.string 9 W 0 oB vb ss ∧ (∀ k, own k → k < W.heap.size)
theorem RS.frame {own S : Nat → Prop} {g : Nat} {c : Int} {ps : List Int} {ss : List ByteArray} {W W' : World} (h : RS own g c ps ss W) (hf : Fr S W W') (hd : ∀ k, own k → ¬ S k) : RS own g c ps ss W' := by
  obtain ⟨oP, oB, vp, vb, h1, h2, h3, h4, h5, h6, h7⟩ := h
  refine ⟨oP, oB, vp, vb, h1, h2, h3, (hf.block g (h7 g h3) (hd g h3)).trans h4, Kd.R_step h5 (fun k hk hlt => hf.block k hlt (hd k (h1 k hk).1)), Kd.R_step h6 (fun k hk hlt => hf.block k hlt (hd k (h2 k hk).1)), fun k hk => Nat.lt_of_lt_of_le (h7 k hk) hf.size⟩
theorem RS.lt {own : Nat → Prop} {g : Nat} {c : Int} {ps : List Int} {ss : List ByteArray} {W : World} (h : RS own g c ps ss W) : ∀ k, own k → k < W.heap.size := by
  obtain ⟨oP, oB, vp, vb, h1, h2, h3, h4, h5, h6, h7⟩ := h
  exact h7
/-- What is read. -/
theorem RS.reads {own : Nat → Prop} {g : Nat} {c : Int} {ps : List Int} {ss : List ByteArray} {W : World} (h : RS own g c ps ss W) :
    ∃ A1 c1 A2 c2, W.cell? ⟨g, 0, none⟩ = some (.int .i64 c) ∧ W.cell? ⟨g, 1, none⟩ = some (.slice A1 ps.length c1) ∧ W.cell? ⟨g, 2, none⟩ = some (.slice A2 ss.length c2) ∧ Kd.C (Kd.int .i64) W A1 ps.length ps ∧ Kd.C Kd.string W A2 ss.length ss := by
  obtain ⟨oP, oB, vp, vb, h1, h2, h3, h4, h5, h6, h7⟩ := h
  obtain ⟨A1, c1, rfl, _, k1⟩ := Kd.R_reads h5
  obtain ⟨A2, c2, rfl, _, k2⟩ := Kd.R_reads h6
  refine ⟨A1, c1, A2, c2, ?_, ?_, ?_, k1, k2⟩
  all_goals (unfold World.cell?; rw [h4]; rfl)
def PlaceP (ps : List Int) (i : Int) (r : Int) : Prop := (r = -1 ∧ i ∉ ps) ∨ ∃ k : Nat, k < ps.length ∧ r = k ∧ ps[k]? = some i
set_option maxRecDepth 100000 in
set_option maxHeartbeats 2000000 in
theorem place_calls {own : Nat → Prop} {g : Nat} {c : Int} {ps : List Int} {ss : List ByteArray} {W : World} (h : RS own g c ps ss W) (i : Int) (hl : ps.length ≤ 65535) :
    Calls Try.prog 65 #[.pointer (some ⟨g, 0, none⟩), .int .i64 i] W fun e w' => Below W.heap.size W w' ∧ ∃ r, e = .returned (.int .i64 r) ∧ PlaceP ps i r := by
  have HH := Aside0.mk h
  have HB := Aside0.mk (Below.refl W.heap.size W)
  clear h
  go_enter Try.func65, Try.ntmps65
  go_wp2
  go_loopg [5] ps.length (fun gg s5 wr => ∃ k : Nat, k ≤ ps.length ∧ ps.length - k ≤ gg ∧ s5 = .int .i64 k ∧ Aside0 (Below W.heap.size W wr) ∧ Aside0 (∀ j, j < k → ps[j]? ≠ some i))
  case atStart => exact ⟨0, Nat.zero_le _, by omega, rfl, HB, ⟨fun j hj => by omega⟩⟩
  case round =>
    obtain ⟨k, hk, hgg, rfl, HBk, HN⟩ := hrel
    have hHk := HH.out.frame (S := fun _ => False) (Fr.of_below HBk.out) (fun _ _ h => h)
    obtain ⟨A1, c1, A2, c2, q0, q1, q2, hC1, hC2⟩ := hHk.reads
    by_cases hlt : k < ps.length
    · obtain ⟨ad, rfl, hx⟩ := Kd.at_int hC1 (k : Int) (by omega) (by omega)
      rw [Int.toNat_natCast] at hx
      have hrd : ps[k]? = some (rd ps (k : Int)) := by
        unfold rd
        simp [List.getD_eq_getElem?_getD, hlt]
      have p0 : (0 ≤ (k : Int)) = True := eq_true (by omega)
      have p1 : ((k : Int) < (ps.length : Int)) = True := eq_true (by omega)
      clear hHk hC1 hC2
      by_cases he : rd ps (k : Int) = i
      · have c5b0 : (rd ps (k : Int) == i) = true := beq_iff_eq.mpr he
        have HRD := Aside0.mk hrd
        clear hrd
        go_wp2
        go_ret
        exact ⟨HBk.out, _, rfl, .inr ⟨k, hlt, rfl, by rw [HRD.out, he]⟩⟩
      · have c5b0 : (rd ps (k : Int) == i) = false := beq_eq_false_iff_ne.mpr he
        have HRD := Aside0.mk hrd
        clear hrd
        go_wp2
        go_roundg (ps.length - (k + 1))
        case measure => omega
        case rel =>
          refine ⟨k + 1, by omega, by omega, by go_num, HBk, ⟨fun j hj => ?_⟩⟩
          by_cases hjk : j = k
          · subst hjk
            rw [HRD.out]
            intro e
            injection e with e
            exact he e
          · exact HN.out j (by omega)
    · have p1 : ¬ ((k : Int) < (ps.length : Int)) := by omega
      clear hHk hC1 hC2
      go_wp2
      go_ret
      refine ⟨HBk.out, _, rfl, .inl ⟨rfl, fun hm => ?_⟩⟩
      obtain ⟨j, hj⟩ := List.getElem?_of_mem hm
      have hj1 : j < ps.length := by
        rw [List.getElem?_eq_some_iff] at hj
        exact hj.1
      exact HN.out j (by omega) hj
set_option maxRecDepth 100000 in
set_option maxHeartbeats 2000000 in
theorem rmissing_calls {own : Nat → Prop} {g : Nat} {c : Int} {ps : List Int} {ss : List ByteArray} {W : World} (h : RS own g c ps ss W) (hc : c ≤ 65535) (hc0 : 0 ≤ c) (hl : ps.length ≤ 65535) :
    Calls Try.prog 66 #[.pointer (some ⟨g, 0, none⟩)] W fun e w' => e = .returned (.int .i64 (c - ps.length)) ∧ Below W.heap.size W w' := by
  have HB := Aside0.mk (Below.refl W.heap.size W)
  obtain ⟨A1, c1, A2, c2, q0, q1, q2, hC1, hC2⟩ := h.reads
  have hw : wrap64 (c - (ps.length : Int)) = c - (ps.length : Int) := by unfold wrap64; omega
  clear h hC1 hC2
  go_enter Try.func66, Try.ntmps66
  go_wp2
  repeat (go_quiet (fail); try go_wp2)
  go_ret
  exact ⟨rfl, pw_below_drewN HB.out _⟩
def sizes (ss : List ByteArray) : Int := (ss.map fun x => (x.size : Int)).sum
theorem sizes_nn (ss : List ByteArray) : 0 ≤ sizes ss := by
  unfold sizes
  induction ss with
  | nil => simp
  | cons x r ih => simp only [List.map_cons, List.sum_cons]; omega
theorem sizes_append (a b : List ByteArray) : sizes (a ++ b) = sizes a + sizes b := by simp [sizes]
theorem sizes_take (ss : List ByteArray) (k : Nat) (hk : k < ss.length) : sizes (ss.take (k + 1)) = sizes (ss.take k) + ((rdOf ByteArray.empty ss (k : Int)).size : Int) := by
  rw [List.take_add_one, sizes_append]
  unfold rdOf
  simp [sizes, hk, List.getD_eq_getElem?_getD]
theorem sizes_take_le (ss : List ByteArray) (k : Nat) : sizes (ss.take k) ≤ sizes ss := by
  have h := sizes_append (ss.take k) (ss.drop k)
  rw [List.take_append_drop] at h
  have := sizes_nn (ss.drop k)
  omega
set_option maxRecDepth 100000 in
set_option maxHeartbeats 2000000 in
theorem rsize_calls {own : Nat → Prop} {g : Nat} {c : Int} {ps : List Int} {ss : List ByteArray} {W : World} (h : RS own g c ps ss W) (hl : ss.length ≤ 65535) (ht : sizes ss ≤ 4611686018427387904) :
    Calls Try.prog 38 #[.pointer (some ⟨g, 0, none⟩)] W fun e w' => e = .returned (.int .i64 (sizes ss)) ∧ Below W.heap.size W w' := by
  have HH := Aside0.mk h
  have HB := Aside0.mk (Below.refl W.heap.size W)
  have HT := Aside0.mk ht
  clear h ht
  go_enter Try.func38, Try.ntmps38
  go_wp2
  go_loopg [3, 4] ss.length (fun gg s3 s4 wr => ∃ k : Nat, k ≤ ss.length ∧ ss.length - k ≤ gg ∧ s3 = .int .i64 (sizes (ss.take k)) ∧ s4 = .int .i64 k ∧ Aside0 (Below W.heap.size W wr))
  case atStart => exact ⟨0, Nat.zero_le _, by omega, by simp [sizes], rfl, HB⟩
  case round =>
    obtain ⟨k, hk, hgg, rfl, rfl, HBk⟩ := hrel
    have hHk := HH.out.frame (S := fun _ => False) (Fr.of_below HBk.out) (fun _ _ h => h)
    obtain ⟨A1, c1, A2, c2, q0, q1, q2, hC1, hC2⟩ := hHk.reads
    by_cases hlt : k < ss.length
    · obtain ⟨ad, rfl, hx⟩ := Kd.at_string hC2 (k : Int) (by omega) (by omega)
      rw [Int.toNat_natCast] at hx
      have p0 : (0 ≤ (k : Int)) = True := eq_true (by omega)
      have p1 : ((k : Int) < (ss.length : Int)) = True := eq_true (by omega)
      clear hHk hC1 hC2
      go_wp2
      go_roundg (ss.length - (k + 1))
      case measure => omega
      case rel =>
        refine ⟨k + 1, by omega, by omega, ?_, by go_num, HBk⟩
        have e1 := sizes_take ss k hlt
        have e2 := sizes_take_le ss (k + 1)
        have e3 := sizes_nn (ss.take k)
        have e4 := HT.out
        have e5 : wrap64 (sizes (ss.take k) + ((rdOf ByteArray.empty ss (k : Int)).size : Int)) = sizes (ss.take (k + 1)) := by rw [← e1]; have := sizes_nn (ss.take (k + 1)); unfold wrap64; omega
        first | rw [e5] | (simp only [e5])
    · have p1 : ¬ ((k : Int) < (ss.length : Int)) := by omega
      have hkk : k = ss.length := by omega
      clear hHk hC1 hC2
      go_wp2
      go_ret
      exact ⟨by first | rfl | (rw [hkk, List.take_length]; done) | (simp; done), HBk.out⟩
set_option maxRecDepth 100000 in
set_option maxHeartbeats 2000000 in
theorem rhas_calls {own : Nat → Prop} {g : Nat} {c : Int} {ps : List Int} {ss : List ByteArray} {W : World} (h : RS own g c ps ss W) (i : Int) (hl : ps.length ≤ 65535) :
    Calls Try.prog 37 #[.pointer (some ⟨g, 0, none⟩), .int .i64 i] W fun e w' => e = .returned (.bool (ps.any fun x => x == i)) ∧ Below W.heap.size W w' := by
  have HP := Aside0.mk (place_calls h i hl)
  clear h
  go_enter Try.func37, Try.ntmps37
  go_wp2_with (first | (go_at_call 65; refine HP.out.mono ?_; rintro e w1 ⟨hb1, r, rfl, hr⟩; have HB1 := Aside0.mk hb1; have HR := Aside0.mk hr; clear hb1 hr) | go_in)
  go_ret
  refine ⟨?_, HB1.out⟩
  rcases HR.out with ⟨rfl, hm⟩ | ⟨k, hk, rfl, hk2⟩
  · have : (ps.any fun x => x == i) = false := by
      rw [List.any_eq_false]
      intro x hx he
      exact hm (by have := beq_iff_eq.1 he; rw [← this]; exact hx)
    rw [this]
    rfl
  · have : (ps.any fun x => x == i) = true := by
      rw [List.any_eq_true]
      exact ⟨i, List.mem_of_getElem? hk2, by simp⟩
    rw [this]
    simp
#print axioms place_calls
#print axioms rsize_calls
#print axioms rhas_calls
end Go.Proofs.Ytaeelmkpjgmdlaa.H

/- Mine. Chapters 22 and 23, by hand (turned from chapter 21): Add and Whole of the reference's parts. -/
namespace Go.Proofs.Ytaeelmkpjgmdlaa.H
open Go Go.Proofs Go.RowKit Go.Lib Go.Proofs.Ytaeelmkpjgmdlaa.P Go.Proofs.YtaeelmkpjgmdlaaW.PrintWords Go.Proofs.YtaeelmkpjgmdlaaW.PrintLast Go.Proofs.YtaeelmkpjgmdlaaW.PrintMore Go.Proofs.YtaeelmkpjgmdlaaW.PrintFlat
set_option linter.unusedVariables false
set_option linter.unusedSimpArgs false
def RAddP (own : Nat → Prop) (g : Nat) (c : Int) (ps : List Int) (ss : List ByteArray) (W : World) (i : Int) (s : ByteArray) (e : Ending) (w' : World) : Prop := Fr own W w' ∧
      (((i < 0 ∨ c ≤ i) ∧ e = .returned (.int .i64 1) ∧ RS own g c ps ss w') ∨
       ((0 ≤ i ∧ i < c) ∧ (ps.any fun x => x == i) = true ∧ e = .returned (.int .i64 12) ∧ RS own g c ps ss w') ∨
       ((0 ≤ i ∧ i < c) ∧ (ps.any fun x => x == i) = false ∧ e = .returned (.int .i64 0) ∧ RS (fun k => own k ∨ W.heap.size ≤ k ∧ k < w'.heap.size) g c (ps ++ [i]) (ss ++ [s]) w'))
theorem any_place {ps : List Int} {i r : Int} (h : PlaceP ps i r) : (0 ≤ r ∧ (ps.any fun x => x == i) = true) ∨ (r = -1 ∧ (ps.any fun x => x == i) = false) := by
  rcases h with ⟨rfl, hm⟩ | ⟨k, hk, rfl, hk2⟩
  · refine .inr ⟨rfl, ?_⟩
    rw [List.any_eq_false]
    intro x hx he
    exact hm (by have := beq_iff_eq.1 he; rw [← this]; exact hx)
  · refine .inl ⟨by omega, ?_⟩
    rw [List.any_eq_true]
    exact ⟨i, List.mem_of_getElem? hk2, by simp⟩
set_option maxRecDepth 100000 in
set_option maxHeartbeats 4000000 in
theorem radd_calls {own : Nat → Prop} {g : Nat} {c : Int} {ps : List Int} {ss : List ByteArray} {W : World} (h : RS own g c ps ss W) (i : Int) (s : ByteArray) (hl : ps.length ≤ 65535) (hl2 : ss.length ≤ 65535) :
    Calls Try.prog 40 #[.pointer (some ⟨g, 0, none⟩), .int .i64 i, .string s] W (RAddP own g c ps ss W i s) := by
  have HH := Aside0.mk h
  have HFR := Aside0.mk (Fr.refl own W)
  obtain ⟨A1, c1, A2, c2, q0, q1, q2, hC1, hC2⟩ := h.reads
  have HP := Aside0.mk (place_calls h i hl)
  clear h hC1 hC2
  by_cases hi0 : i < 0
  · go_enter Try.func40, Try.ntmps40
    go_wp2
    go_ret
    exact ⟨HFR.out, .inl ⟨.inl hi0, rfl, HH.out⟩⟩
  by_cases hi1 : c ≤ i
  · go_enter Try.func40, Try.ntmps40
    go_wp2
    go_ret
    exact ⟨HFR.out, .inl ⟨.inr hi1, rfl, HH.out⟩⟩
  have hi2 : ¬ (i ≥ c) := hi1
  have HL := Aside0.mk (And.intro hl hl2)
  have HIC := Aside0.mk (And.intro (Int.not_lt.1 hi0) (Int.not_le.1 hi1))
  clear hl hl2
  cases hany : (ps.any fun x => x == i) with
  | true =>
    have HA := Aside0.mk hany
    clear hany
    go_enter Try.func40, Try.ntmps40
    go_wp2_with (first | (go_at_call 65; refine HP.out.mono ?_; rintro e w1 ⟨hb1, r, rfl, hr⟩; have HB1 := Aside0.mk hb1; obtain ⟨hr0, _⟩ : 0 ≤ r ∧ True := (by rcases any_place hr with ⟨h1, _⟩ | ⟨_, h2⟩; exact ⟨h1, trivial⟩; exact absurd (HA.out.symm.trans h2) (by simp)); clear hb1 hr) | go_in)
    go_ret
    exact ⟨Fr.of_below HB1.out, .inr (.inl ⟨HIC.out, HA.out, rfl, HH.out.frame (S := fun _ => False) (Fr.of_below HB1.out) (fun _ _ h => h)⟩)⟩
  | false =>
    have HA := Aside0.mk hany
    clear hany
    have HP2 : Aside0 (Calls Try.prog 65 #[.pointer (some ⟨g, 0, none⟩), .int .i64 i] W fun e w1 => e = .returned (.int .i64 (-1)) ∧ Below W.heap.size W w1 ∧ ∃ (oP oB : Nat → Prop) (B1 : Option Addr) (d1 : Nat) (B2 : Option Addr) (d2 : Nat), w1.cell? ⟨g, 1, none⟩ = some (.slice B1 ps.length d1) ∧ (∀ k, oP k → own k ∧ k ≠ g ∧ ¬ oB k) ∧ (∀ k, oB k → own k ∧ k ≠ g) ∧ own g ∧
        w1.heap[g]? = some (.cells #[.int .i64 c, .slice B1 ps.length d1, .slice B2 ss.length d2] 87 (0, 0)) ∧ Kd.R (Kd.int .i64) 3 w1 0 oP (.slice B1 ps.length d1) ps ∧ Kd.R Kd.string 9 w1 0 oB (.slice B2 ss.length d2) ss ∧ (∀ k, own k → k < w1.heap.size)) := by
      refine ⟨HP.out.mono ?_⟩
      rintro e w1 ⟨hb1, r, rfl, hr⟩
      rcases any_place hr with ⟨_, h2⟩ | ⟨rfl, _⟩
      · exact absurd (HA.out.symm.trans h2) (by simp)
      obtain ⟨oP, oB, vp, vb, h1, h2, h3, h4, h5, h6, h7⟩ := HH.out.frame (S := fun _ => False) (Fr.of_below hb1) (fun _ _ h => h)
      obtain ⟨B1, d1, rfl, hd1, _⟩ := Kd.R_reads h5
      obtain ⟨B2, d2, rfl, hd2, _⟩ := Kd.R_reads h6
      exact ⟨rfl, hb1, oP, oB, B1, d1, B2, d2, by unfold World.cell?; rw [h4]; rfl, h1, h2, h3, h4, h5, h6, h7⟩
    clear HP
    go_enter Try.func40, Try.ntmps40
    go_wp2_with (first
      | (go_at_call 65; refine HP2.out.mono ?_; rintro e w1 ⟨rfl, hb1, oP, oB, B1, d1, B2, d2, hp1, hrest⟩; have HB1 := Aside0.mk hb1; have HR := Aside0.mk hrest; clear hb1 hrest)
      | (at_builtin; with_reducible refine Kd.R_append (Kd.int .i64) (w0 := w1) 0 rfl _ _ 50 3 _ 8 rfl Try.underlying50 i3 rfl (by decide) (by decide) (.slice B1 ps.length d1) ps i [.int .i64 i] (fun k => oP k ∨ w1.heap.size ≤ k) (fun _ => False) rfl rfl ?hp ?hokp ?hfresh ?hO ?hB (Nat.zero_le _) ?hl ?_
         (case hp => rfl)
         (case hokp => exact fun _ h => h.elim)
         (case hfresh => exact fun _ h => .inr h)
         (case hO => exact Kd.R_mono HR.out.2.2.2.2.1 (fun k hk => .inl hk))
         (case hB => exact Below.refl _ _)
         (case hl => have := HL.out; omega)
         intro v1 w2 hO1 hb2 hg2 hat2
         obtain ⟨C1, e1, hv1, hle1, _⟩ := Kd.R_reads hO1
         rw [show (ps ++ [i]).length = ps.length + 1 from by simp] at hv1
         subst hv1
         have hne : some g ≠ (Value.slice B1 ps.length d1).ownBlock := fun e => (HR.out.1 g (HR.out.2.2.2.2.1.1 g e.symm)).2.1 rfl
         have hgb : w2.heap[g]? = some (.cells #[.int .i64 c, .slice B1 ps.length d1, .slice B2 ss.length d2] 87 (0, 0)) := (hg2.block g (HR.out.2.2.2.2.2.2 g HR.out.2.2.1) hne).trans HR.out.2.2.2.1
         have hV2 : Kd.R Kd.string 9 (w2.setCell ⟨g, 1, none⟩ (.slice C1 (ps.length + 1) e1)) 0 (fun k => oB k ∨ w2.heap.size ≤ k) (.slice B2 ss.length d2) ss := Kd.R_mono (Kd.R_step HR.out.2.2.2.2.2.1 (fun k hk hlt => by
           rw [Below.heap_setCell _ _ _ _ (HR.out.2.1 k hk).2]
           exact hg2.block k hlt (fun e => (HR.out.1 k (HR.out.2.2.2.2.1.1 k e.symm)).2.2 hk))) (fun k hk => .inl hk)
         have hf1 : w2.frozen? ⟨g, 1, none⟩ = false := by (unfold World.frozen?; rw [hgb]; simp)
         have hc1 : w2.cell? ⟨g, 1, none⟩ = some (.slice B1 ps.length d1) := by (unfold World.cell?; rw [hgb]; rfl)
         have hblk := blk_set hgb 1 (.slice C1 (ps.length + 1) e1)
         have hc2 : (w2.setCell ⟨g, 1, none⟩ (.slice C1 (ps.length + 1) e1)).cell? ⟨g, 2, none⟩ = some (.slice B2 ss.length d2) := by (unfold World.cell?; rw [hblk]; rfl)
         have hf2 : (w2.setCell ⟨g, 1, none⟩ (.slice C1 (ps.length + 1) e1)).frozen? ⟨g, 2, none⟩ = false := by (unfold World.frozen?; rw [hblk]; simp)
         have HO1 := Aside0.mk hO1; have HB2 := Aside0.mk hb2; have HG2 := Aside0.mk hg2; have HAT2 := Aside0.mk hat2; have HBLK := Aside0.mk hblk; have HV2 := Aside0.mk hV2; have HGB := Aside0.mk hgb
         clear hO1 hb2 hg2 hat2 hblk hV2 hne hgb)
      | (at_builtin; with_reducible refine Kd.R_append Kd.string (w0 := w2.setCell ⟨g, 1, none⟩ (.slice C1 (ps.length + 1) e1)) 0 rfl _ _ 85 9 _ 16 rfl Try.underlying85 i9 rfl (by decide) (by decide) (.slice B2 ss.length d2) ss s [.string s] (fun k => oB k ∨ w2.heap.size ≤ k) (fun _ => False) rfl ?hx ?hp ?hokp ?hfresh ?hO ?hB (Nat.zero_le _) ?hl ?_
         (case hx => exact congrArg (fun n => Value.slice (some ⟨n, 0, none⟩) 1 1) (show w2.heap.size = (w2.setCell ⟨g, 1, none⟩ (.slice C1 (ps.length + 1) e1)).heap.size by simp [World.setCell]))
         (case hp => rfl)
         (case hokp => exact fun _ h => h.elim)
         (case hfresh => exact fun k h => .inr (by simpa [World.setCell] using h))
         (case hO => exact HV2.out)
         (case hB => exact Below.refl _ _)
         (case hl => have := HL.out; omega)
         intro v3 w3 hO3 hb3 hg3 hat3
         obtain ⟨C2, e2, hv3, hle2, _⟩ := Kd.R_reads hO3
         rw [show (ss ++ [s]).length = ss.length + 1 from by simp] at hv3
         subst hv3
         have hne : some g ≠ (Value.slice B2 ss.length d2).ownBlock := fun e => (HR.out.2.1 g (HR.out.2.2.2.2.2.1.1 g e.symm)).2 rfl
         have hgb : w3.heap[g]? = some (.cells #[.int .i64 c, .slice C1 (ps.length + 1) e1, .slice B2 ss.length d2] 87 (0, 0)) := (hg3.block g (by have h1 := HR.out.2.2.2.2.2.2 g HR.out.2.2.1; have h2 := HG2.out.size; simp [World.setCell]; omega) hne).trans HBLK.out
         have hf3 : w3.frozen? ⟨g, 2, none⟩ = false := by (unfold World.frozen?; rw [hgb]; simp)
         have hc3 : w3.cell? ⟨g, 2, none⟩ = some (.slice B2 ss.length d2) := by (unfold World.cell?; rw [hgb]; rfl)
         have HO3 := Aside0.mk hO3; have HB3 := Aside0.mk hb3; have HG3 := Aside0.mk hg3; have HAT3 := Aside0.mk hat3; have HGB3 := Aside0.mk hgb
         clear hO3 hb3 hg3 hat3 hne hgb)
      | fail)
    go_ret
    obtain ⟨r1, r2, r3, r4, r5, r6, r7⟩ := HR.out
    have hb1 := HB1.out
    have hg2 := HG2.out
    have hg3 := HG3.out
    have hz2 : (w2.setCell ⟨g, 1, none⟩ (.slice C1 (ps.length + 1) e1)).heap.size = w2.heap.size := by simp [World.setCell]
    have hz3 : (w3.setCell ⟨g, 2, none⟩ (.slice C2 (ss.length + 1) e2)).heap.size = w3.heap.size := by simp [World.setCell]
    have s12 := hg2.size
    have s23 : w2.heap.size ≤ w3.heap.size := by have := hg3.size; rw [hz2] at this; exact this
    have s01 := hb1.size
    have hgl := r7 g r3
    have far : ∀ k, k < w2.heap.size → k ≠ g → ¬ oB k → (w3.setCell ⟨g, 2, none⟩ (.slice C2 (ss.length + 1) e2)).heap[k]? = w2.heap[k]? := fun k hk h1 h2 => by
      rw [Below.heap_setCell _ _ _ _ h1, hg3.block k (by rw [hz2]; exact hk) (fun e => h2 (r6.1 k e.symm)), Below.heap_setCell _ _ _ _ h1]
    refine ⟨⟨?_, ?_, ?_, ?_, fun k hk ho => ?_⟩, .inr (.inr ⟨HIC.out, HA.out, rfl, (fun k => (oP k ∨ w1.heap.size ≤ k) ∧ k < w2.heap.size), (fun k => (oB k ∨ w2.heap.size ≤ k) ∧ k < w3.heap.size), .slice C1 (ps.length + 1) e1, .slice C2 (ss.length + 1) e2, ?_, ?_, .inl r3, ?_, ?_, ?_, ?_⟩)⟩
    · exact hg3.os.trans (hg2.os.trans hb1.os)
    · exact hg3.tape.trans (hg2.tape.trans hb1.tape)
    · exact hg3.output.trans (hg2.output.trans hb1.output)
    · rw [hz3]; omega
    · rw [far k (by omega) (fun e => ho (by rw [e]; exact r3)) (fun h => ho (r2 k h).1), hg2.block k (by omega) (fun e => ho (r1 k (r5.1 k e.symm)).1), hb1.block k hk]
    · intro k ⟨h1, h2⟩
      rw [hz3]
      rcases h1 with h1 | h1
      · refine ⟨.inl (r1 k h1).1, (r1 k h1).2.1, fun h3 => ?_⟩
        rcases h3.1 with h3 | h3
        · exact (r1 k h1).2.2 h3
        · omega
      · refine ⟨.inr ⟨by omega, by omega⟩, by omega, fun h3 => ?_⟩
        rcases h3.1 with h3 | h3
        · have := r7 k (r2 k h3).1
          omega
        · omega
    · intro k ⟨h1, h2⟩
      rw [hz3]
      rcases h1 with h1 | h1
      · exact ⟨.inl (r2 k h1).1, (r2 k h1).2⟩
      · exact ⟨.inr ⟨by omega, by omega⟩, by omega⟩
    · have h1 := blk_set HGB3.out 2 (.slice C2 (ss.length + 1) e2)
      rw [h1]
      simp
    · have h1 := Kd.R_bound HO1.out
      exact Kd.R_step (Kd.R_mono h1 (fun k hk => (⟨hk.1, hk.2.2.1⟩ : (oP k ∨ w1.heap.size ≤ k) ∧ k < w2.heap.size))) (fun k hk hlt => far k hlt (fun e => by
        rcases hk.1 with h | h
        · exact (r1 k h).2.1 e
        · omega) (fun h3 => by
        rcases hk.1 with h | h
        · exact (r1 k h).2.2 h3
        · have := r7 k (r2 k h3).1
          omega))
    · have h1 := Kd.R_bound HO3.out
      exact Kd.R_step (Kd.R_mono h1 (fun k hk => (⟨hk.1, hk.2.2.1⟩ : (oB k ∨ w2.heap.size ≤ k) ∧ k < w3.heap.size))) (fun k hk hlt => by
        refine Below.heap_setCell _ _ _ _ (fun e => ?_)
        have e' : k = g := e
        rcases hk.1 with h | h
        · exact (r2 k h).2 e'
        · omega)
    · intro k hk
      rw [hz3] at hk ⊢
      rcases hk with hk | hk
      · have := r7 k hk
        omega
      · exact hk.2
#print axioms radd_calls
end Go.Proofs.Ytaeelmkpjgmdlaa.H

/- Mine. Chapters 22 and 23, by hand (turned from chapter 21): Whole of the reference's parts. -/
namespace Go.Proofs.Ytaeelmkpjgmdlaa.H
open Go Go.Proofs Go.RowKit Go.Lib Go.Proofs.Ytaeelmkpjgmdlaa.P Go.Proofs.YtaeelmkpjgmdlaaW.PrintWords Go.Proofs.YtaeelmkpjgmdlaaW.PrintLast Go.Proofs.YtaeelmkpjgmdlaaW.PrintMore Go.Proofs.YtaeelmkpjgmdlaaW.PrintFlat
set_option linter.unusedVariables false
set_option linter.unusedSimpArgs false
theorem strOfNums_app (a b : List Int) : strOfNums (a ++ b) = strOfNums a ++ strOfNums b := by
  apply ByteArray.ext
  simp [strOfNums]
theorem strOfNums_zero : strOfNums [] = ByteArray.empty := rfl
theorem len_le_of_sub : ∀ (l m : List Int), l.Nodup → (∀ x ∈ l, x ∈ m) → l.length ≤ m.length
  | [], _, _, _ => Nat.zero_le _
  | x :: r, m, hn, hs => by
    have hx := hs x (by simp)
    have ih := len_le_of_sub r (m.erase x) (List.nodup_cons.1 hn).2 (fun y hy => by
      have hne : y ≠ x := fun e => (List.nodup_cons.1 hn).1 (e ▸ hy)
      exact (List.mem_erase_of_ne hne).2 (hs y (by simp [hy])))
    rw [List.length_erase_of_mem hx] at ih
    have : 0 < m.length := List.length_pos_of_mem hx
    simp only [List.length_cons]
    omega
theorem full_of_len {l : List Int} {c : Int} (hn : l.Nodup) (hr : ∀ x ∈ l, 0 ≤ x ∧ x < c) (hl : c ≤ l.length) (i : Int) (h0 : 0 ≤ i) (h1 : i < c) : i ∈ l := by
  by_cases hm : i ∈ l
  · exact hm
  · exfalso
    have h := len_le_of_sub (i :: l) ((List.range c.toNat).map fun (n : Nat) => (n : Int)) (List.nodup_cons.2 ⟨hm, hn⟩) (fun x hx => by
      have hx' : 0 ≤ x ∧ x < c := by
        rcases List.mem_cons.1 hx with rfl | hx
        · exact ⟨h0, h1⟩
        · exact hr x hx
      exact List.mem_map.2 ⟨x.toNat, by simp; omega, by omega⟩)
    simp at h
    omega
abbrev psOf (qs : List Q) : List Int := qs.map Q.i
abbrev ssOf (qs : List Q) : List ByteArray := qs.map fun q => strOfNums q.bs
theorem at_place {qs : List Q} {i : Int} {k : Nat} (hn : (qs.map Q.i).Nodup) (h : (psOf qs)[k]? = some i) : rdOf ByteArray.empty (ssOf qs) (k : Int) = strOfNums (bAt qs i) := by
  rw [List.getElem?_map] at h
  obtain ⟨q, hq, rfl⟩ := Option.map_eq_some_iff.1 h
  have h1 : rdOf ByteArray.empty (ssOf qs) (k : Int) = strOfNums q.bs := by
    unfold rdOf
    rw [Int.toNat_natCast, List.getD_eq_getElem?_getD, List.getElem?_map, hq]
    rfl
  have hm := List.mem_of_getElem? hq
  have h2 : bAt qs q.i = q.bs := by
    unfold bAt
    have : qs.find? (fun x => x.i == q.i) = some q := by
      clear h h1 hq
      induction qs with
      | nil => simp at hm
      | cons y r ih =>
        rw [List.map_cons, List.nodup_cons] at hn
        rcases List.mem_cons.1 hm with rfl | hm
        · simp
        · have hne : ¬ (y.i == q.i) = true := fun e => hn.1 (List.mem_map.2 ⟨q, hm, (beq_iff_eq.1 e).symm⟩)
          rw [List.find?_cons, show (y.i == q.i) = false by simpa using hne]
          exact ih hn.2 hm
    rw [this]
    rfl
  rw [h1, h2]
theorem place_one {ps : List Int} {i r : Int} {k : Nat} (hn : ps.Nodup) (hk : ps[k]? = some i) (h : PlaceP ps i r) : r = k := by
  rcases h with ⟨rfl, hm⟩ | ⟨j, hj, rfl, hj2⟩
  · exact absurd (List.mem_of_getElem? hk) hm
  · have : j = k := by
      have h1 := (List.getElem?_eq_some_iff.1 hk).1
      rw [List.getElem?_eq_getElem hj] at hj2
      rw [List.getElem?_eq_getElem h1] at hk
      injection hj2 with e1
      injection hk with e2
      exact (List.getElem_inj hn).1 (e1.trans e2.symm)
    rw [this]
def RWholeP (c : Int) (qs : List Q) (W : World) (e : Ending) (w' : World) : Prop := Below W.heap.size W w' ∧
  (((qs.length : Int) < c ∧ e = .returned (.tuple #[.string ByteArray.empty, .bool false])) ∨ (c ≤ qs.length ∧ e = .returned (.tuple #[.string (strOfNums (whole qs c.toNat)), .bool true])))
set_option maxRecDepth 100000 in
set_option maxHeartbeats 2000000 in
theorem rwhole_calls {own : Nat → Prop} {g : Nat} {c : Int} {qs : List Q} {W : World} (h : RS own g c (psOf qs) (ssOf qs) W) (hc : c ≤ 65535) (hc0 : 0 ≤ c) (hl : qs.length ≤ 65535) (hn : (qs.map Q.i).Nodup) (hr : ∀ x ∈ qs, 0 ≤ x.i ∧ x.i < c) (ht : tot qs ≤ 4194304) (ht0 : 0 ≤ tot qs) :
    Calls Try.prog 41 #[.pointer (some ⟨g, 0, none⟩)] W (RWholeP c qs W) := by
  have hmis := rmissing_calls h hc hc0 (by simpa using hl)
  rw [List.length_map] at hmis
  have HM := Aside0.mk hmis
  have HH := Aside0.mk h
  have HB := Aside0.mk (Below.refl W.heap.size W)
  by_cases hlt : (qs.length : Int) < c
  · have hm1 : 0 < c - (qs.length : Int) := by omega
    clear h hmis
    go_enter Try.func41, Try.ntmps41
    go_wp2_with (first | (go_at_call 66; refine HM.out.mono ?_; rintro e w1 ⟨rfl, hb1⟩; have HB1 := Aside0.mk hb1; clear hb1) | go_in)
    go_ret2
    exact ⟨HB1.out, .inl ⟨hlt, rfl⟩⟩
  · have hm1 : ¬ (0 < c - (qs.length : Int)) := by omega
    have HT := Aside0.mk (And.intro ht ht0)
    have HC := Aside0.mk (And.intro hc (And.intro hc0 (And.intro hl (And.intro hn hr))))
    clear h hmis hn hr ht ht0
    go_enter Try.func41, Try.ntmps41
    go_wp2_with (first | (go_at_call 66; refine HM.out.mono ?_; rintro e w1 ⟨rfl, hb1⟩; have HB1 := Aside0.mk hb1; clear hb1) | fail)
    go_loopg [4, 5] c.toNat (fun gg s4 s5 wr => ∃ k : Nat, k ≤ c.toNat ∧ c.toNat - k ≤ gg ∧ s5 = .int .i64 k ∧ s4 = .string (strOfNums (whole qs k)) ∧ Aside0 (Below W.heap.size W wr))
    case atStart => exact ⟨0, Nat.zero_le _, by omega, rfl, rfl, HB1⟩
    case round =>
      obtain ⟨k, hk, hgg, rfl, rfl, HBk⟩ := hrel
      have hHk := HH.out.frame (S := fun _ => False) (Fr.of_below HBk.out) (fun _ _ h => h)
      obtain ⟨A1, c1, A2, c2, q0, q1, q2, hC1, hC2⟩ := hHk.reads
      by_cases hlt : k < c.toNat
      · have hkc : (k : Int) < c := by omega
        have hin : (k : Int) ∈ psOf qs := full_of_len HC.out.2.2.2.1 (fun x hx => by
          obtain ⟨q, hq, rfl⟩ := List.mem_map.1 hx
          exact HC.out.2.2.2.2 q hq) (by rw [List.length_map]; omega) (k : Int) (by omega) hkc
        obtain ⟨j, hj⟩ := List.getElem?_of_mem hin
        have hjl : j < (ssOf qs).length := by
          have := (List.getElem?_eq_some_iff.1 hj).1
          simpa using this
        obtain ⟨ad, rfl, hx⟩ := Kd.at_string hC2 (j : Int) (by omega) (by omega)
        rw [Int.toNat_natCast, at_place HC.out.2.2.2.1 hj] at hx
        have p0 : (0 ≤ (j : Int)) = True := eq_true (by omega)
        have p1 : ((j : Int) < ((ssOf qs).length : Int)) = True := eq_true (by omega)
        have HCL : Aside0 (∀ V, Below W.heap.size W V → Calls Try.prog 65 #[.pointer (some ⟨g, 0, none⟩), .int .i64 k] V fun e w' => e = .returned (.int .i64 j) ∧ Below V.heap.size V w') := ⟨fun V hV => by
          refine (place_calls (HH.out.frame (S := fun _ => False) (Fr.of_below hV) (fun _ _ h => h)) (k : Int) (by rw [List.length_map]; exact HC.out.2.2.1)).mono ?_
          rintro e w2 ⟨hb2, r, rfl, hr⟩
          rw [place_one HC.out.2.2.2.1 hj hr]
          exact ⟨rfl, hb2⟩⟩
        have HS2 : Aside0 (∀ V w2 : World, (fun V : World => Below W.heap.size W V ∧ V.cell? ⟨g, 2, none⟩ = some (.slice (some ad) (ssOf qs).length c2) ∧ V.cell? (ad.add j) = some (.string (strOfNums (bAt qs k)))) V → Below V.heap.size V w2 → (fun V : World => Below W.heap.size W V ∧ V.cell? ⟨g, 2, none⟩ = some (.slice (some ad) (ssOf qs).length c2) ∧ V.cell? (ad.add j) = some (.string (strOfNums (bAt qs k)))) w2) := ⟨fun V w2 hV hb => ⟨below_then hV.1 hV.1.size hb, (hb.cell (World.block_lt_of_cell? _ _ hV.2.1)).trans hV.2.1, (hb.cell (World.block_lt_of_cell? _ _ hV.2.2)).trans hV.2.2⟩⟩
        have HS : (fun V : World => Below W.heap.size W V ∧ V.cell? ⟨g, 2, none⟩ = some (.slice (some ad) (ssOf qs).length c2) ∧ V.cell? (ad.add j) = some (.string (strOfNums (bAt qs k)))) wr.drew := ⟨HBk.out.drew, q2, hx⟩
        have hsz : ¬ (9223372036854775807 < (strOfNums (whole qs k)).size + (strOfNums (bAt qs (k : Int))).size) := by
          rw [strOfNums_size, strOfNums_size]
          have h1 := whole_le qs k
          have h2 := bAt_le qs k
          have h3 := HT.out
          have h4 : (k : Int) * tot qs ≤ 65535 * 4194304 := Int.mul_le_mul (by omega) h3.1 h3.2 (by omega)
          omega
        generalize hLL : (ssOf qs).length = LL at *
        clear hHk hC1 hC2 hin hj hjl hLL q1 q2 hx
        go_wp2
        refine start_ (n := 12) (S := fun V : World => Below W.heap.size W V ∧ V.cell? ⟨g, 2, none⟩ = some (.slice (some ad) LL c2) ∧ V.cell? (ad.add j) = some (.string (strOfNums (bAt qs k)))) (ds := []) #[false, false, false, false, false, false, false, false, false, false, false, false] (by kernel_rfl) rfl rfl HS (fun hHeld => ?_)
        clear HS
        refine pure_ (i := 0) (N := some 17) (v := ?_) (a' := ?_) #[true, false, false, false, false, false, false, false, false, false, false, false] rfl rfl (by kernel_rfl) (fun _ _ _ h => h) (Or.inl ⟨by rfl, ?_⟩) ?_ ?_
        rotate_left
        · intro w'
          go_simp
          with_reducible rfl
        rotate_left
        · simp only [Act.put, List.setIfInBounds_toArray, List.set_cons_zero, List.set_cons_succ, i64_w, i32_w]
          rfl
        refine pure_ (i := 1) (N := some 18) (v := ?_) (a' := ?_) #[true, true, false, false, false, false, false, false, false, false, false, false] rfl rfl (by kernel_rfl) (fun _ _ _ h => h) (Or.inl ⟨by rfl, ?_⟩) ?_ ?_
        rotate_left
        · intro w'
          go_simp
          with_reducible rfl
        rotate_left
        · simp only [Act.put, List.setIfInBounds_toArray, List.set_cons_zero, List.set_cons_succ, i64_w, i32_w]
          rfl
        refine pure_ (i := 2) (N := some 19) (v := ?_) (a' := ?_) #[true, true, true, false, false, false, false, false, false, false, false, false] rfl rfl (by kernel_rfl) (fun _ _ _ h => h) (Or.inl ⟨by rfl, ?_⟩) ?_ ?_
        rotate_left
        · intro w'
          go_simp
          with_reducible rfl
        rotate_left
        · simp only [Act.put, List.setIfInBounds_toArray, List.set_cons_zero, List.set_cons_succ, i64_w, i32_w]
          rfl
        refine pure_ (i := 3) (N := some 20) (v := ?_) (a' := ?_) #[true, true, true, true, false, false, false, false, false, false, false, false] rfl rfl (by kernel_rfl) (fun _ _ _ h => h) (Or.inl ⟨by rfl, ?_⟩) ?_ ?_
        rotate_left
        · intro w'
          go_simp
          with_reducible rfl
        rotate_left
        · simp only [Act.put, List.setIfInBounds_toArray, List.set_cons_zero, List.set_cons_succ, i64_w, i32_w]
          rfl
        refine take_ (i := 4) (N := some 21) (v := ?_) (a' := ?_) #[true, true, true, true, true, false, false, false, false, false, false, false] rfl rfl (by kernel_rfl) (fun _ _ _ h => h) (Or.inl ⟨by rfl, ?_⟩) hHeld ?_ ?_
        rotate_left
        · rintro w' ⟨s0, s1, s2⟩
          go_simp
          with_reducible rfl
        rotate_left
        · simp only [Act.put, List.setIfInBounds_toArray, List.set_cons_zero, List.set_cons_succ, i64_w, i32_w]
          rfl
        refine pure_ (i := 5) (N := some 22) (v := ?_) (a' := ?_) #[true, true, true, true, true, true, false, false, false, false, false, false] rfl rfl (by kernel_rfl) (fun _ _ _ h => h) (Or.inl ⟨by rfl, ?_⟩) ?_ ?_
        rotate_left
        · intro w'
          go_simp
          with_reducible rfl
        rotate_left
        · simp only [Act.put, List.setIfInBounds_toArray, List.set_cons_zero, List.set_cons_succ, i64_w, i32_w]
          rfl
        refine pure_ (i := 6) (N := some 23) (v := ?_) (a' := ?_) #[true, true, true, true, true, true, true, false, false, false, false, false] rfl rfl (by kernel_rfl) (fun _ _ _ h => h) (Or.inl ⟨by rfl, ?_⟩) ?_ ?_
        rotate_left
        · intro w'
          go_simp
          with_reducible rfl
        rotate_left
        · simp only [Act.put, List.setIfInBounds_toArray, List.set_cons_zero, List.set_cons_succ, i64_w, i32_w]
          rfl
        refine one_ (i := 7) (N := some 24) #[true, true, true, true, true, true, true, true, false, false, false, false] rfl rfl (by kernel_rfl) (by decide) (fun K hK => ?_)
        refine goes_ Try.func65 (by kernel_rfl) rfl #[.pointer (some ⟨g, 0, none⟩), .int .i64 k] (by rfl) rfl rfl (by (try simp only [List.map_toArray, List.map_cons, List.map_nil]); first | done | rfl) ?_
        refine (HCL.out _ hHeld.1).mono ?_
        rintro e w2 ⟨rfl, hb2⟩
        refine ⟨_, rfl, ?_⟩
        have hS2 := HS2.out _ _ hHeld hb2
        refine hK.out _ _ hS2 (fun hHeld2 => ?_)
        clear hb2 hHeld hS2
        clear hK K
        refine norm_ (a' := ?_) ?_ ?_
        rotate_left
        · show Act.put _ (some 24) _ = _
          simp only [Act.put, List.setIfInBounds_toArray, List.set_cons_zero, List.set_cons_succ, i64_w, i32_w]
          rfl
        refine pure_ (i := 8) (N := some 25) (v := ?_) (a' := ?_) #[true, true, true, true, true, true, true, true, true, false, false, false] rfl rfl (by kernel_rfl) (fun _ _ _ h => h) (Or.inl ⟨by rfl, ?_⟩) ?_ ?_
        rotate_left
        · intro w'
          go_simp
          with_reducible rfl
        rotate_left
        · simp only [Act.put, List.setIfInBounds_toArray, List.set_cons_zero, List.set_cons_succ, i64_w, i32_w]
          rfl
        refine take_ (i := 9) (N := some 26) (v := ?_) (a' := ?_) #[true, true, true, true, true, true, true, true, true, true, false, false] rfl rfl (by kernel_rfl) (fun _ _ _ h => h) (Or.inl ⟨by rfl, ?_⟩) hHeld2 ?_ ?_
        rotate_left
        · rintro w' ⟨s0, s1, s2⟩
          go_simp
          with_reducible rfl
        rotate_left
        · simp only [Act.put, List.setIfInBounds_toArray, List.set_cons_zero, List.set_cons_succ, i64_w, i32_w]
          rfl
        refine pure_ (i := 10) (N := some 27) (v := ?_) (a' := ?_) #[true, true, true, true, true, true, true, true, true, true, true, false] rfl rfl (by kernel_rfl) (fun _ _ _ h => h) (Or.inl ⟨by rfl, ?_⟩) ?_ ?_
        rotate_left
        · intro w'
          go_simp
          with_reducible rfl
        rotate_left
        · simp only [Act.put, List.setIfInBounds_toArray, List.set_cons_zero, List.set_cons_succ, i64_w, i32_w]
          rfl
        refine pure_ (i := 11) (N := some 4) (v := ?_) (a' := ?_) #[true, true, true, true, true, true, true, true, true, true, true, true] rfl rfl (by kernel_rfl) (fun _ _ _ h => h) (Or.inl ⟨by rfl, ?_⟩) ?_ ?_
        rotate_left
        · intro w'
          go_simp
          with_reducible rfl
        rotate_left
        · simp only [Act.put, List.setIfInBounds_toArray, List.set_cons_zero, List.set_cons_succ, i64_w, i32_w]
          rfl
        refine done_ (by kernel_rfl) ?_
        have HBf := Aside0.mk hHeld2.1
        go_wp2
        go_roundg (c.toNat - (k + 1))
        case measure => omega
        case rel =>
          refine ⟨k + 1, by omega, by omega, by go_num, ?_, HBf⟩
          rw [whole_succ, strOfNums_app]
      · have hkc : ¬ ((k : Int) < c) := by omega
        have hkk : k = c.toNat := by omega
        clear hHk hC1 hC2
        go_wp2
        go_ret2
        refine ⟨HBk.out, .inr ⟨by omega, ?_⟩⟩
        rw [← hkk]
        rfl
#print axioms rwhole_calls
end Go.Proofs.Ytaeelmkpjgmdlaa.H
