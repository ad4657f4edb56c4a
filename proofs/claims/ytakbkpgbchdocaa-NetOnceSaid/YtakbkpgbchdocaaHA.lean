/- Mine. Chapter 39, by hand: rows whose elements are partly one's own (mixK), copies. -/
import Derived.Test.YtakbkpgbchdocaaPx1
import Derived.Test.YtakbkpgbchdocaaWFlat
namespace Go.Proofs.Ytakbkpgbchdocaa.H
open Go Go.Proofs Go.RowKit Go.Lib Go.Proofs.Ytakbkpgbchdocaa.P Go.Proofs.YtakbkpgbchdocaaW.PrintWords Go.Proofs.YtakbkpgbchdocaaW.PrintLast Go.Proofs.YtakbkpgbchdocaaW.PrintMore Go.Proofs.YtakbkpgbchdocaaW.PrintFlat
set_option linter.unusedVariables false
set_option linter.unusedSimpArgs false
/-- An element that is made (true), or one that read so in a world once (false). -/
def mixK {α : Type} (d : Kd α) (w0 : World) : Kd (Bool × α) where
  sz := d.sz
  E := d.E
  K := fun w p cs => (p.1 = true ∧ d.K w p.2 cs) ∨ (p.1 = false ∧ d.K w0 p.2 cs)
  M := fun w base ok p cs => (p.1 = true ∧ d.M w base ok p.2 cs) ∨ (p.1 = false ∧ d.K w0 p.2 cs)
  K_len := fun h => by rcases h with ⟨_, h⟩ | ⟨_, h⟩ <;> exact d.K_len h
  K_one := fun h => by rcases h with ⟨_, h⟩ | ⟨_, h⟩ <;> exact d.K_one h
  K_below := fun hb h => h.imp (fun h => ⟨h.1, d.K_below hb h.2⟩) id
  K_of_M := fun h => h.imp (fun h => ⟨h.1, d.K_of_M h.2⟩) id
  M_mono := fun ho h => h.imp (fun h => ⟨h.1, d.M_mono ho h.2⟩) id
  M_bound := fun h => h.imp (fun h => ⟨h.1, d.M_bound h.2⟩) id
  M_move := fun hm h => h.imp (fun h => ⟨h.1, d.M_move hm h.2⟩) id
  M_lower := fun hb h => h.imp (fun h => ⟨h.1, d.M_lower hb h.2⟩) id
def offs {α : Type} (l : List α) : List (Bool × α) := l.map fun x => (false, x)
def ons {α : Type} (l : List α) : List (Bool × α) := l.map fun x => (true, x)
theorem reps_map {α β : Type} {R : α → List Value → Prop} {R' : β → List Value → Prop} {sz : Nat} {l : List α} {cs : List Value} (f : α → β) (hR : ∀ x c, R' (f x) c → R x c) (h : Reps R' sz (l.map f) cs) : Reps R sz l cs := by
  refine ⟨by have := h.1; rwa [List.length_map] at this, fun j p hj => ?_⟩
  exact hR _ _ (h.2 j (f p) (by rw [List.getElem?_map, hj]; rfl))
theorem all_on {α : Type} {d : Kd α} {e : Nat} {w w0 : World} {base : Nat} {ok : Nat → Prop} {v : Value} {l : List α} (h : (mixK d w0).R e w base ok v (ons l)) : d.R e w base ok v l := by
  obtain ⟨h0, inner, hown, hr⟩ := h
  refine ⟨h0, inner, ?_, reps_map (fun x => (true, x)) (fun x c hx => ?_) hr⟩
  · have : (ons l).length = l.length := by simp [ons]
    rw [this] at hown
    exact hown
  · rcases hx with ⟨_, hx⟩ | ⟨hx, _⟩
    · exact hx
    · cases hx
theorem rows_off {α : Type} {d : Kd α} {w : World} {A : Option Addr} {n : Nat} {l : List α} (h : d.C w A n l) : ReadsRow (fun (p : Bool × α) c => p.1 = false ∧ d.K w p.2 c) d.sz w A n (offs l) := by
  refine ⟨by simp [offs]; exact h.1, h.2.1, fun hn => ?_⟩
  obtain ⟨ad, e, hc⟩ := h.2.2 hn
  refine ⟨ad, e, fun j p hj => ?_⟩
  rw [offs, List.getElem?_map] at hj
  obtain ⟨x, hx, rfl⟩ := Option.map_eq_some_iff.1 hj
  obtain ⟨c, h1, h2, h3⟩ := hc j x hx
  exact ⟨c, h1, ⟨rfl, h2⟩, h3⟩
theorem box4f {w : World} {g t : Nat} {c0 c1 c2 c3 : Value} (h : w.heap[g]? = some (.cells #[c0, c1, c2, c3] t (0, 0))) : w.cell? ⟨g, 0, none⟩ = some c0 ∧ w.cell? ⟨g, 1, none⟩ = some c1 ∧ w.cell? ⟨g, 2, none⟩ = some c2 ∧ w.cell? ⟨g, 3, none⟩ = some c3 ∧ w.frozen? ⟨g, 0, none⟩ = false ∧ w.frozen? ⟨g, 1, none⟩ = false ∧ w.frozen? ⟨g, 2, none⟩ = false ∧ w.frozen? ⟨g, 3, none⟩ = false :=
  ⟨(blk_cell h 0).trans rfl, (blk_cell h 1).trans rfl, (blk_cell h 2).trans rfl, (blk_cell h 3).trans rfl, blk_frozen h 0, blk_frozen h 1, blk_frozen h 2, blk_frozen h 3⟩
theorem i5 : (Try.prog.info? 5).map (fun i => (i.zero, i.size, i.bytes)) = some (some (.int .u8 0), 1, 1) := by kernel_rfl
theorem i26 : (Try.prog.info? 26).map (fun i => (i.zero, i.size, i.bytes)) = some (some (.agg #[.int .u16 0, .int .u16 0, .slice none 0 0, .bool false]), 4, 40) := by kernel_rfl
set_option maxHeartbeats 1000000 in
set_option maxRecDepth 100000 in
theorem bclone_calls (A0 : Option Addr) (n0 c0 : Nat) (l0 : List Int) (w : World) (hr0 : Kd.C (Kd.int .u8) w A0 n0 l0) (hc0 : n0 ≤ c0) (hb : n0 * 1 ≤ 140737488355328) :
    Calls Try.prog 20 #[.slice A0 n0 c0] w fun e w' => ∃ v0_ : Value, e = .returned v0_ ∧ Kd.R (Kd.int .u8) 5 w' w.heap.size (fun _ => True) v0_ l0 ∧ Below w.heap.size w w' := by
  obtain rfl : l0.length = n0 := hr0.1
  have q22 : ∀ (w : World) (a : Option Addr) (n c n' c' : Nat), (binOp .eql 24 (.slice a n c) (.slice none n' c')).run Try.prog w = .ok (.bool a.isNone) w := fun w a n c n' c' => Lib.run_eql_slice_nil w _ _ a n c n' c' Try.underlying24
  cases A0 with
  | none =>
    obtain rfl : l0 = [] := by
      rcases Nat.eq_zero_or_pos l0.length with h0 | h0
      · exact List.eq_nil_of_length_eq_zero h0
      · obtain ⟨_, h1, _⟩ := hr0.2.2 h0
        cases h1
    clear hr0 hc0 hb
    go_enter Try.func20, Try.ntmps20
    go_wp2
    go_ret
    exact ⟨_, rfl, Kd.R_nil _ _ _ _ _, Below.refl _ _⟩
  | some a0 =>
    have HR := Aside0.mk (show ReadsRow ((Kd.int .u8).K w) 1 (w.alloc (.cells #[] 5)) (some a0) l0.length l0 from hr0.imp_ (below_alloc (Below.refl _ _) _) (fun _ _ h => h))
    have HL := Aside0.mk hb
    have HO := Aside0.mk (show Kd.R (Kd.int .u8) 5 (w.alloc (.cells #[] 5)) w.heap.size (fun _ => True) (.slice (some ⟨w.heap.size, 0, none⟩) 0 0) [] from ⟨fun _ _ => trivial, [], World.ownsRow_made w #[] 0 (Nat.le_refl _) (by decide) (by simp), Reps.none _ _⟩)
    have HB := Aside0.mk (below_alloc (Below.refl w.heap.size w) (.cells #[] 5))
    clear hr0 hc0 hb
    go_enter Try.func20, Try.ntmps20
    go_wp2_with (at_builtin; refine Kd.R_append_rows (Kd.int .u8) (Rr := (Kd.int .u8).K w) w.heap.size rfl _ _ 24 5 _ 1 rfl Try.underlying24 i5 rfl (by decide) (by decide) _ [] l0 _ _ _ (fun _ => True) (fun _ => False) rfl rfl HO.out HR.out (fun _ _ h => h) (fun _ h => h.elim) (fun _ _ => trivial) HB.out (by simp) (by simpa using HL.out) ?_; intro v1 w1 hown hB hg hat)
    go_wp2
    go_ret
    exact ⟨v1, rfl, hown, hB⟩
set_option maxHeartbeats 1000000 in
set_option maxRecDepth 100000 in
theorem pclone_calls (A0 : Option Addr) (n0 c0 : Nat) (l0 : List S26) (w : World) (hr0 : Kd.C k26 w A0 n0 l0) (hc0 : n0 ≤ c0) (hb : n0 * 40 ≤ 140737488355328) :
    Calls Try.prog 28 #[.slice A0 n0 c0] w fun e w' => ∃ v0_ : Value, e = .returned v0_ ∧ (mixK k26 w).R 26 w' w.heap.size (fun _ => True) v0_ (offs l0) ∧ Below w.heap.size w w' := by
  obtain rfl : l0.length = n0 := hr0.1
  have q22 : ∀ (w : World) (a : Option Addr) (n c n' c' : Nat), (binOp .eql 22 (.slice a n c) (.slice none n' c')).run Try.prog w = .ok (.bool a.isNone) w := fun w a n c n' c' => Lib.run_eql_slice_nil w _ _ a n c n' c' Try.underlying22
  cases A0 with
  | none =>
    obtain rfl : l0 = [] := by
      rcases Nat.eq_zero_or_pos l0.length with h0 | h0
      · exact List.eq_nil_of_length_eq_zero h0
      · obtain ⟨_, h1, _⟩ := hr0.2.2 h0
        cases h1
    clear hr0 hc0 hb
    go_enter Try.func28, Try.ntmps28
    go_wp2
    go_ret
    exact ⟨_, rfl, Kd.R_nil _ _ _ _ _, Below.refl _ _⟩
  | some a0 =>
    have HR := Aside0.mk (show ReadsRow (fun (p : Bool × S26) c => p.1 = false ∧ k26.K w p.2 c) 4 (w.alloc (.cells #[] 26)) (some a0) l0.length (offs l0) from (rows_off hr0).imp_ (below_alloc (Below.refl _ _) _) (fun _ _ h => h))
    have HL := Aside0.mk hb
    have HO := Aside0.mk (show (mixK k26 w).R 26 (w.alloc (.cells #[] 26)) w.heap.size (fun _ => True) (.slice (some ⟨w.heap.size, 0, none⟩) 0 0) [] from ⟨fun _ _ => trivial, [], World.ownsRow_made w #[] 0 (Nat.le_refl _) (by decide) (by simp), Reps.none _ _⟩)
    have HB := Aside0.mk (below_alloc (Below.refl w.heap.size w) (.cells #[] 26))
    clear hr0 hc0 hb
    go_enter Try.func28, Try.ntmps28
    go_wp2_with (at_builtin; refine Kd.R_append_rows (mixK k26 w) (Rr := fun (p : Bool × S26) c => p.1 = false ∧ k26.K w p.2 c) w.heap.size rfl _ _ 22 26 _ 40 rfl Try.underlying22 i26 rfl (Nat.zero_lt_succ 3) (by decide) _ [] (offs l0) _ _ _ (fun _ => True) (fun _ => False) rfl rfl HO.out HR.out (fun _ _ h => .inr h) (fun _ h => h.elim) (fun _ _ => trivial) HB.out (by simp) (by simpa using HL.out) ?_; intro v1 w1 hown hB hg hat)
    go_wp2
    go_ret
    exact ⟨v1, rfl, hown, hB⟩
#print axioms bclone_calls
#print axioms pclone_calls
end Go.Proofs.Ytakbkpgbchdocaa.H
