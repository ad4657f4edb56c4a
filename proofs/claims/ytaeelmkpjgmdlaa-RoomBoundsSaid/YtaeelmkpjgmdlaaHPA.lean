/- Mine. Chapters 22 and 23, by hand (turned from chapter 21): the state of a message's parts (a struct with a map from places to slices) as a list of (place, header, bytes). -/
import Derived.Test.YtaeelmkpjgmdlaaPx1
import Derived.Test.YtaeelmkpjgmdlaaWFlat
import Derived.Maps.OwnSet
import Derived.Maps.OwnOps
import Derived.Maps.Views
namespace Go.Proofs.Ytaeelmkpjgmdlaa.H
open Go Go.Proofs Go.RowKit Go.Lib Go.Proofs.Ytaeelmkpjgmdlaa.P Go.Proofs.YtaeelmkpjgmdlaaW.PrintWords Go.Proofs.YtaeelmkpjgmdlaaW.PrintLast Go.Proofs.YtaeelmkpjgmdlaaW.PrintMore Go.Proofs.YtaeelmkpjgmdlaaW.PrintFlat
set_option linter.unusedVariables false
set_option linter.unusedSimpArgs false

/-! what stays -/
structure Fr (own : Nat → Prop) (w w' : World) : Prop where
  os : w'.os = w.os
  tape : w'.tape = w.tape
  output : w'.output = w.output
  size : w.heap.size ≤ w'.heap.size
  block : ∀ k, k < w.heap.size → ¬ own k → w'.heap[k]? = w.heap[k]?
theorem Fr.refl (own : Nat → Prop) (w : World) : Fr own w w := ⟨rfl, rfl, rfl, Nat.le_refl _, fun _ _ _ => rfl⟩
theorem Fr.of_below {own : Nat → Prop} {w w' : World} (h : Below w.heap.size w w') : Fr own w w' := ⟨h.os, h.tape, h.output, h.size, fun k hk _ => h.block k hk⟩
theorem Fr.mono {own own' : Nat → Prop} {w w' : World} (h : Fr own w w') (hs : ∀ k, k < w.heap.size → own k → own' k) : Fr own' w w' := ⟨h.os, h.tape, h.output, h.size, fun k hk hn => h.block k hk (fun ho => hn (hs k hk ho))⟩
theorem Fr.then_ {own own' : Nat → Prop} {w w1 w2 : World} (h : Fr own w w1) (k : Fr own' w1 w2) (hs : ∀ q, q < w.heap.size → own' q → own q) : Fr own w w2 :=
  ⟨k.os.trans h.os, k.tape.trans h.tape, k.output.trans h.output, Nat.le_trans h.size k.size, fun q hq hn => (k.block q (Nat.lt_of_lt_of_le hq h.size) (fun ho => hn (hs q hq ho))).trans (h.block q hq hn)⟩
theorem Fr.of_grown {w w' : World} {b : Nat} {own : Nat → Prop} (h : w.grownBy w' (some b)) (hb : own b) : Fr own w w' := ⟨h.os, h.tape, h.output, h.size, fun k hk hn => h.block k hk (fun e => hn (by cases e; exact hb))⟩
theorem Fr.below {own : Nat → Prop} {w w' : World} {B : Nat} (h : Fr own w w') (hB : B ≤ w.heap.size) (ho : ∀ k, own k → B ≤ k) : Below B w w' := ⟨h.os, h.tape, h.output, h.size, fun k hk => h.block k (Nat.lt_of_lt_of_le hk hB) (fun hk2 => by have := ho k hk2; omega)⟩

/-! the map, as a list of what was put -/
abbrev RV : Value → Option (DataW Value × List MemPlace) := fun v => some (.held v, [])
/-- A part: its place, its slice's value, its bytes. -/
structure Q where
  i : Int
  v : Value
  bs : List Int
def DD (qs : List Q) : DataW Value := qs.foldl (fun D h => D.put (.int .i64 h.i) (.held h.v)) (.map [])
theorem DD_snoc (qs : List Q) (h : Q) : DD (qs ++ [h]) = (DD qs).put (.int .i64 h.i) (.held h.v) := by simp [DD, List.foldl_append]
theorem key (i : Int) : WideAt.IsKeyLit (.int .i64 i) := by simp [WideAt.IsKeyLit]
theorem DD_tidy (qs : List Q) : Maps.Tidy (DD qs) := by
  unfold DD
  have : ∀ (l : List Q) (D : DataW Value), Maps.Tidy D → Maps.Tidy (l.foldl (fun D h => D.put (.int .i64 h.i) (.held h.v)) D) := by
    intro l
    induction l with
    | nil => intro D h; exact h
    | cons x r ih => intro D h; exact ih _ (h.put (key x.i) _)
  exact this qs _ Maps.tidy_empty
theorem snocInd {α : Type} {p : List α → Prop} (h0 : p []) (h1 : ∀ l x, p l → p (l ++ [x])) (l : List α) : p l := by
  rw [← List.reverse_reverse l]
  generalize l.reverse = m
  induction m with
  | nil => exact h0
  | cons x r ih => rw [List.reverse_cons]; exact h1 _ _ ih
theorem has_DD (i : Int) (qs : List Q) : Maps.has (DD qs) (.int .i64 i) = qs.any (fun x => x.i == i) := by
  refine snocInd (p := fun qs => Maps.has (DD qs) (.int .i64 i) = qs.any (fun x => x.i == i)) rfl ?_ qs
  intro l x ih
  rw [DD_snoc, List.any_append]
  by_cases h : x.i = i
  · rw [h, Maps.has_put_same (DD_tidy l).isMap (key i)]
    simp [h]
  · rw [Maps.has_put_other (by intro e; injection e with _ e; exact h e.symm), ih]
    simp [h]
theorem size_DD (qs : List Q) (hn : (qs.map Q.i).Nodup) : Maps.size (DD qs) = qs.length := by
  revert hn
  refine snocInd (p := fun qs => (qs.map Q.i).Nodup → Maps.size (DD qs) = qs.length) (fun _ => rfl) ?_ qs
  intro l x ih hn
  rw [List.map_append, List.nodup_append] at hn
  have hx : l.any (fun y => y.i == x.i) = false := by
    rw [Bool.eq_false_iff]
    intro h
    obtain ⟨y, hy, he⟩ := List.any_eq_true.1 h
    exact hn.2.2 y.i (List.mem_map.2 ⟨y, hy, rfl⟩) x.i (by simp) (by simpa using he)
  rw [DD_snoc, Maps.size_put (DD_tidy l), has_DD, hx, ih hn.1]
  simp
theorem at_DD (z : DataW Value) (i : Int) (qs : List Q) (hn : (qs.map Q.i).Nodup) : (∀ x ∈ qs, x.i = i → (DD qs).atKey (.int .i64 i) z = .held x.v) ∧ ((∀ x ∈ qs, x.i ≠ i) → (DD qs).atKey (.int .i64 i) z = z) := by
  revert hn
  refine snocInd (p := fun qs => (qs.map Q.i).Nodup → (∀ x ∈ qs, x.i = i → (DD qs).atKey (.int .i64 i) z = .held x.v) ∧ ((∀ x ∈ qs, x.i ≠ i) → (DD qs).atKey (.int .i64 i) z = z)) (fun _ => ⟨fun x hx => by simp at hx, fun _ => rfl⟩) ?_ qs
  intro l y ih hn
  rw [List.map_append, List.nodup_append] at hn
  obtain ⟨h1, h2⟩ := ih hn.1
  rw [DD_snoc]
  constructor
  · intro x hx hi
    rcases List.mem_append.1 hx with hx | hx
    · have hne : y.i ≠ i := fun e => hn.2.2 x.i (List.mem_map.2 ⟨x, hx, rfl⟩) y.i (by simp) (by rw [hi, e])
      rw [Maps.atKey_put_other (by intro e; injection e with _ e; exact hne e.symm)]
      exact h1 x hx hi
    · obtain rfl : x = y := by simpa using hx
      rw [hi, Maps.atKey_put_same (DD_tidy l).isMap (key i)]
  · intro hx
    have hne : y.i ≠ i := hx y (by simp)
    rw [Maps.atKey_put_other (by intro e; injection e with _ e; exact hne e.symm)]
    exact h2 (fun x hx' => hx x (by simp [hx']))

/-! the state -/
def tot (qs : List Q) : Int := (qs.map fun x => (x.bs.length : Int)).sum
structure CS (own : Nat → Prop) (p b : Nat) (c : Int) (qs : List Q) (W : World) : Prop where
  op : own p
  ob : own b
  ne : p ≠ b
  st : W.heap[p]? = some (.cells #[.bool true, .int .i64 c, .int .i64 (tot qs), .map (some b)] 118 (0, 0))
  mp : W.ownsMap Try.prog 3 RV b qs.length (DD qs)
  el : ∀ x ∈ qs, Kd.R (Kd.int .u8) 5 W 0 (fun k => own k ∧ k ≠ p ∧ k ≠ b) x.v x.bs
  nd : (qs.map Q.i).Nodup
  rg : ∀ x ∈ qs, 0 ≤ x.i ∧ x.i < c
  lt : ∀ k, own k → k < W.heap.size
theorem CS.frame {own S : Nat → Prop} {p b : Nat} {c : Int} {qs : List Q} {W W' : World} (h : CS own p b c qs W) (hf : Fr S W W') (hd : ∀ k, own k → ¬ S k) : CS own p b c qs W' where
  op := h.op
  ob := h.ob
  ne := h.ne
  st := (hf.block p (h.lt p h.op) (hd p h.op)).trans h.st
  mp := by
    obtain ⟨es, clock, hb, r⟩ := h.mp
    exact ⟨es, clock, (hf.block b (h.lt b h.ob) (hd b h.ob)).trans hb, r⟩
  el := fun x hx => Kd.R_step (h.el x hx) (fun k hk hlt => hf.block k hlt (hd k hk.1))
  nd := h.nd
  rg := h.rg
  lt := fun k hk => Nat.lt_of_lt_of_le (h.lt k hk) hf.size
theorem CS.cells {own : Nat → Prop} {p b : Nat} {c : Int} {qs : List Q} {W : World} (h : CS own p b c qs W) :
    W.cell? ⟨p, 0, none⟩ = some (.bool true) ∧ W.cell? ⟨p, 1, none⟩ = some (.int .i64 c) ∧ W.cell? ⟨p, 2, none⟩ = some (.int .i64 (tot qs)) ∧ W.cell? ⟨p, 3, none⟩ = some (.map (some b)) ∧ W.frozen? ⟨p, 2, none⟩ = false := by
  refine ⟨?_, ?_, ?_, ?_, ?_⟩
  all_goals first | (unfold World.cell?; rw [h.st]; rfl) | (unfold World.frozen?; rw [h.st]; simp)

set_option maxRecDepth 100000 in
set_option maxHeartbeats 1000000 in
theorem has_calls {own : Nat → Prop} {p b : Nat} {c : Int} {qs : List Q} {W : World} (h : CS own p b c qs W) (i : Int) (hi : (Lit.int .i64 i).wf = true) :
    Calls Try.prog 58 #[.pointer (some ⟨p, 0, none⟩), .int .i64 i] W fun e w' => e = .returned (.bool (qs.any fun x => x.i == i)) ∧ Below W.heap.size W w' := by
  obtain ⟨g0, g1, g2, g3, _⟩ := h.cells
  have hmp := Aside0.mk h.mp
  have hk := Maps.keyOf_int_mk (P := Try.prog) Try.underlying3 hi
  have hz : ∀ w, (zeroValue 36).run Try.prog w = .ok (.slice none 0 0) w := fun w => Try.zeroValue36 w
  have hh := has_DD i qs
  have HB := Aside0.mk (Below.refl W.heap.size W)
  clear h
  go_enter Try.func58, Try.ntmps58
  go_wp2_with (first
    | (at_lookup; refine wpList_lookup_own_ok _ rfl _ _ 116 rfl 3 36 (Maps.int_keyed Try.underlying3) Try.underlying116 RV (hz _) (.held (.slice none 0 0)) [] rfl b _ _ rfl hmp.out _ _ rfl hk ?_; intro v ps hv; rw [hh])
    | go_in)
  go_ret
  exact ⟨rfl, HB.out⟩
end Go.Proofs.Ytaeelmkpjgmdlaa.H
