/- Mine. Chapter 22, by hand: New and Open of the table. -/
import Derived.Test.YtaeelmkpjgmdlaaHTi
namespace Go.Proofs.Ytaeelmkpjgmdlaa.H
open Go Go.Proofs Go.RowKit Go.Lib Go.Proofs.Ytaeelmkpjgmdlaa.P Go.Proofs.YtaeelmkpjgmdlaaW.PrintWords Go.Proofs.YtaeelmkpjgmdlaaW.PrintLast Go.Proofs.YtaeelmkpjgmdlaaW.PrintMore Go.Proofs.YtaeelmkpjgmdlaaW.PrintFlat
set_option linter.unusedVariables false
set_option linter.unusedSimpArgs false
set_option maxRecDepth 100000 in
theorem open_calls {own : Nat → Prop} {t : Nat} {L : Room.Lim} {os : List OB} {W : World} (h : TS own t L os W) : Calls Try.prog 15 #[.pointer (some ⟨t, 0, none⟩)] W fun e w' => e = .returned (.int .i64 os.length) ∧ Below W.heap.size W w' := by
  have HDEAD := Aside0.mk (dead_ok h)
  have HB := Aside0.mk (Below.refl W.heap.size W)
  obtain ⟨A, c, g0, g1, g2, g3, g4, hl, hC⟩ := h.reads
  clear h hC hl
  go_enter Try.func15, Try.ntmps15
  go_wp2_with fail
  refine HDEAD.out.mono ?_
  rintro e1 w1 ⟨rfl, rfl⟩
  go_wp2
  go_ret
  exact ⟨rfl, HB.out⟩
def inB (n m : Int) : Bool := decide (1 ≤ n) && decide (n ≤ m)
set_option maxRecDepth 100000 in
theorem within_calls (n m : Int) (W : World) : Calls Try.prog 24 #[.int .i64 n, .int .i64 m] W fun e w' => e = .returned (.bool (inB n m)) ∧ W = w' := by
  by_cases h1 : 1 ≤ n
  · by_cases h2 : n ≤ m
    · have e1 : decide (n ≥ 1) = true := decide_eq_true h1
      have e2 : decide (n ≤ m) = true := decide_eq_true h2
      go_enter Try.func24, Try.ntmps24
      go_wp2
      go_ret
      refine ⟨?_, rfl⟩
      unfold inB
      rw [decide_eq_true h1, decide_eq_true h2]; rfl
    · have e1 : decide (n ≥ 1) = true := decide_eq_true h1
      have e2 : decide (n ≤ m) = false := decide_eq_false h2
      go_enter Try.func24, Try.ntmps24
      go_wp2
      go_ret
      refine ⟨?_, rfl⟩
      unfold inB
      rw [decide_eq_true h1, decide_eq_false (show ¬ n ≤ m by omega)]; rfl
  · have e1 : decide (n ≥ 1) = false := decide_eq_false h1
    go_enter Try.func24, Try.ntmps24
    go_wp2
    go_ret
    refine ⟨?_, rfl⟩
    unfold inB
    rw [decide_eq_false (show ¬ 1 ≤ n by omega)]; rfl
def limB (L : Room.Lim) : Bool := inB L.op 16 && inB L.by_ 65536 && inB L.ex 32
theorem limB_ok {L : Room.Lim} (h : limB L = true) : LimOk L := by
  unfold limB inB at h
  simp only [Bool.and_eq_true, decide_eq_true_eq] at h
  exact ⟨h.1.1.1, h.1.1.2, h.1.2.1, h.1.2.2, h.2.1, h.2.2⟩
def TNewP (L : Room.Lim) (W : World) (e : Ending) (w' : World) : Prop := Below W.heap.size W w' ∧
  ((limB L = true ∧ ∃ t, e = .returned (.tuple #[.pointer (some ⟨t, 0, none⟩), .int .i64 0]) ∧ TS (fun k => W.heap.size ≤ k ∧ k < w'.heap.size) t L [] w') ∨ (limB L = false ∧ e = .returned (.tuple #[.pointer none, .int .i64 1])))
set_option maxRecDepth 100000 in
set_option maxHeartbeats 1000000 in
theorem tnew_calls (L : Room.Lim) (W : World) : Calls Try.prog 9 #[.agg #[.int .i64 L.op, .int .i64 L.by_, .int .i64 L.ex]] W (TNewP L W) := by
  have HB := Aside0.mk (show Below W.heap.size W (W.alloc (.cells #[.int .i64 L.op, .int .i64 L.by_, .int .i64 L.ex] 23)) from below_alloc (Below.refl _ _) _)
  obtain ⟨b1, hb1⟩ : ∃ b1, inB L.op 16 = b1 := ⟨_, rfl⟩
  obtain ⟨b2, hb2⟩ : ∃ b2, inB L.by_ 65536 = b2 := ⟨_, rfl⟩
  obtain ⟨b3, hb3⟩ : ∃ b3, inB L.ex 32 = b3 := ⟨_, rfl⟩
  have h1 := fun V => within_calls L.op 16 V
  have h2 := fun V => within_calls L.by_ 65536 V
  have h3 := fun V => within_calls L.ex 32 V
  rw [hb1] at h1
  rw [hb2] at h2
  rw [hb3] at h3
  have H1 := Aside0.mk h1
  have H2 := Aside0.mk h2
  have H3 := Aside0.mk h3
  have HL : Aside0 (limB L = (b1 && b2 && b3)) := ⟨by unfold limB; rw [hb1, hb2, hb3]⟩
  clear h1 h2 h3 hb1 hb2 hb3
  cases b1 with
  | false =>
    go_enter Try.func9, Try.ntmps9
    go_wp2_with fail
    refine (H1.out _).mono ?_
    rintro e1 w1 ⟨rfl, rfl⟩
    go_wp2_with fail
    go_ret2
    exact ⟨HB.out, .inr ⟨HL.out, rfl⟩⟩
  | true =>
    cases b2 with
    | false =>
      go_enter Try.func9, Try.ntmps9
      go_wp2_with fail
      refine (H1.out _).mono ?_
      rintro e1 w1 ⟨rfl, rfl⟩
      go_wp2_with fail
      refine (H2.out _).mono ?_
      rintro e1 w1 ⟨rfl, rfl⟩
      go_wp2_with fail
      go_ret2
      exact ⟨HB.out, .inr ⟨HL.out, rfl⟩⟩
    | true =>
      cases b3 with
      | false =>
        go_enter Try.func9, Try.ntmps9
        go_wp2_with fail
        refine (H1.out _).mono ?_
        rintro e1 w1 ⟨rfl, rfl⟩
        go_wp2_with fail
        refine (H2.out _).mono ?_
        rintro e1 w1 ⟨rfl, rfl⟩
        go_wp2_with fail
        refine (H3.out _).mono ?_
        rintro e1 w1 ⟨rfl, rfl⟩
        go_wp2_with fail
        go_ret2
        exact ⟨HB.out, .inr ⟨HL.out, rfl⟩⟩
      | true =>
        go_enter Try.func9, Try.ntmps9
        go_wp2_with fail
        refine (H1.out _).mono ?_
        rintro e1 w1 ⟨rfl, rfl⟩
        go_wp2_with fail
        refine (H2.out _).mono ?_
        rintro e1 w1 ⟨rfl, rfl⟩
        go_wp2_with fail
        refine (H3.out _).mono ?_
        rintro e1 w1 ⟨rfl, rfl⟩
        go_wp2_with fail
        go_ret2
        obtain ⟨V, hV⟩ : ∃ V, W.alloc (.cells #[.int .i64 L.op, .int .i64 L.by_, .int .i64 L.ex] 23) = V := ⟨_, rfl⟩
        have e1 : V.heap.size = W.heap.size + 1 := by rw [← hV]; simp
        have hV2 := HB.out
        rw [hV] at hV2 ⊢
        have hn := heap_alloc_new V (.cells #[.bool true, .int .i64 L.op, .int .i64 L.by_, .int .i64 L.ex, .slice none 0 0] 64)
        have e2 : (V.alloc (.cells #[.bool true, .int .i64 L.op, .int .i64 L.by_, .int .i64 L.ex, .slice none 0 0] 64)).heap.size = W.heap.size + 1 + 1 := by rw [← e1]; simp
        rw [e1] at hn
        refine ⟨hV2.alloc (by omega) _, .inl ⟨HL.out, W.heap.size + 1, rfl, ⟨by omega, by rw [e2]; omega⟩, ⟨.slice none 0 0, fun _ => False, hn, ?_, fun _ h => h.elim⟩, fun k hk => hk.2⟩⟩
        exact ⟨⟨fun _ => False, Kd.R_nil _ _ _ _ _, fun _ h => h.elim⟩, fun o ho => by simp at ho, fun o ho => by simp at ho, List.Pairwise.nil, fun _ h => h.elim⟩
#print axioms tnew_calls
end Go.Proofs.Ytaeelmkpjgmdlaa.H
