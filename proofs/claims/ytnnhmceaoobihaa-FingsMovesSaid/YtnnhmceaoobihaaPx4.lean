-- Printed by fprint.py (a program of this session's, over the kit's print), for this claim.
import Derived.Test.YtnnhmceaoobihaaPx0
import Derived.Test.YtnnhmceaoobihaaPx3
namespace Go.Proofs.Ytnnhmceaoobihaa.P
open Go.RowKit Go.Proofs.YtnnhmceaoobihaaW.PrintWords Go.Proofs.YtnnhmceaoobihaaW.PrintLast Go.Proofs.YtnnhmceaoobihaaW.PrintMore
attribute [local go_sem] max2_int min2_int max_two min_two max_three min_three max_four min_four   -- for this text's walks alone
set_option linter.unusedVariables false
set_option linter.unusedSimpArgs false

/-! ### fings_Hops: function 15 -/
instance : Inhabited S26 := ⟨z26⟩
theorem hops_two (W : World) (g : Nat) (x y : Int) (h0 : W.cell? ⟨g, 0, none⟩ = some (.int .i64 x)) (h1 : W.cell? ⟨g, 1, none⟩ = some (.int .i64 y)) : Kd.C (Kd.int .i64) W (some ⟨g, 0, none⟩) [x, y].length [x, y] := by
  refine ⟨rfl, Nat.le_of_ble_eq_true rfl, fun _ => ⟨_, rfl, fun j p hj => ⟨[.int .i64 p], rfl, rfl, fun i u hu => ?_⟩⟩⟩
  have hi : i = 0 := by
    rcases i with _ | i
    · rfl
    · simp at hu
  subst hi
  obtain rfl : Value.int .i64 p = u := by simpa using hu
  rcases j with _ | _ | j
  · obtain rfl : x = p := by simpa using hj
    exact h0
  · obtain rfl : y = p := by simpa using hj
    exact h1
  · simp at hj
theorem hops_or (x y : Int) : cmp_Or_int.f 3 [x, y] = some (if x = 0 then y else x) := by
  unfold cmp_Or_int.f
  simp only [cmp_Or_int.l0, List.length_cons, List.length_nil]
  by_cases hx : x = 0
  · by_cases hy : y = 0
    · simp [hx, hy, rd, wrap64]
    · simp [hx, hy, rd, wrap64]
  · simp [hx, rd]
theorem hops_cmp64 (x y : Int) : cmp_Compare_uint64.f x y = some (Lib.compareInt x y) := by
  simp only [cmp_Compare_uint64.f, cmp_isNaN_uint64.f, Option.bind_some, bne_self_eq_false, Bool.false_eq_true, if_false]
  unfold Lib.compareInt
  by_cases h1 : x < y
  · simp [h1]
  · by_cases h2 : x > y <;> simp [h1, h2]
theorem hops_cmp16 (x y : Int) : cmp_Compare_uint16.f x y = some (Lib.compareInt x y) := by
  simp only [cmp_Compare_uint16.f, cmp_isNaN_uint16.f, Option.bind_some, bne_self_eq_false, Bool.false_eq_true, if_false]
  unfold Lib.compareInt
  by_cases h1 : x < y
  · simp [h1]
  · by_cases h2 : x > y <;> simp [h1, h2]
/-- Who comes first: the one that lies farther ahead; of two that lie alike, the one of the smaller address. -/
def hops_cf (m : Int) (x y : S26) : Int := if Lib.compareInt (IntKind.u64.wrap (y.f0 - m)) (IntKind.u64.wrap (x.f0 - m)) = 0 then Lib.compareInt x.f1 y.f1 else Lib.compareInt (IntKind.u64.wrap (y.f0 - m)) (IntKind.u64.wrap (x.f0 - m))
theorem hops_grow {W w' : World} (h : Below W.heap.size W w') (hd : W.drawn ≤ w'.drawn) : ∃ q os', w' = Go.Sort.grow (W.drewN q) os' := by
  refine ⟨w'.drawn - W.drawn, w'.heap.extract W.heap.size w'.heap.size, ?_⟩
  have e : w'.heap = W.heap ++ w'.heap.extract W.heap.size w'.heap.size := by
    apply Array.ext_getElem?
    intro k
    rw [Array.getElem?_append]
    by_cases hk : k < W.heap.size
    · rw [if_pos hk]; exact h.block k hk
    · rw [if_neg hk, Array.getElem?_extract]
      have := h.size
      by_cases hk2 : k < w'.heap.size
      · rw [if_pos (by omega)]
        congr 1; omega
      · rw [if_neg (by omega)]
        exact Array.getElem?_eq_none (by omega)
  cases w' with
  | mk hp tp dr os out =>
    have h1 := h.os; have h2 := h.tape; have h3 := h.output
    simp only at h1 h2 h3 hd e
    subst h1 h2 h3
    unfold Go.Sort.grow World.drewN
    simp only [World.mk.injEq, true_and, and_true]
    exact ⟨e, by omega⟩
set_option maxHeartbeats 2000000 in
set_option maxRecDepth 100000 in
theorem hops_clo (x y : S26) (m : Int) (B : Nat) (W : World) (hb : W.cell? ⟨B, 0, none⟩ = some (.int .u64 m)) :
    Calls Try.prog 30 #[.agg #[.int .u64 x.f0, .int .u16 x.f1], .agg #[.int .u64 y.f0, .int .u16 y.f1], .pointer (some ⟨B, 0, none⟩)] W fun e w' => e = .returned (.int .i64 (hops_cf m x y)) ∧ ∃ q os', w' = Go.Sort.grow (W.drewN q) os' := by
  have hu := Try.underlying26
  have hu3 := Try.underlying66
  have D1 := fun W => ring_Dist.calls m y.f0 _ W rfl
  have D2 := fun W => ring_Dist.calls m x.f0 _ W rfl
  have C1 := fun W => cmp_Compare_uint64.calls _ _ _ W (hops_cmp64 (IntKind.u64.wrap (y.f0 - m)) (IntKind.u64.wrap (x.f0 - m)))
  have C2 := fun W => cmp_Compare_uint16.calls _ _ _ W (hops_cmp16 x.f1 y.f1)
  have E : hops_cf m x y = if Lib.compareInt (IntKind.u64.wrap (y.f0 - m)) (IntKind.u64.wrap (x.f0 - m)) = 0 then Lib.compareInt x.f1 y.f1 else Lib.compareInt (IntKind.u64.wrap (y.f0 - m)) (IntKind.u64.wrap (x.f0 - m)) := rfl
  generalize hops_cf m x y = rr at E
  generalize IntKind.u64.wrap (y.f0 - m) = p1 at D1 C1 E
  generalize IntKind.u64.wrap (x.f0 - m) = p2 at D2 C1 E
  generalize Lib.compareInt p1 p2 = q1 at C1 E
  generalize Lib.compareInt x.f1 y.f1 = q2 at C2 E
  have O := fun (W : World) g h0 h1 => cmp_Or_int.calls 3 (some ⟨g, 0, none⟩) 2 [q1, q2] _ W (hops_two W g q1 q2 h0 h1) (Nat.le_refl _) (hops_or q1 q2)
  rw [← E] at O
  have D1' := Aside0.mk D1; have D2' := Aside0.mk D2; have C1' := Aside0.mk C1; have C2' := Aside0.mk C2; have O' := Aside0.mk O
  clear D1 D2 C1 C2 O E
  go_enter Try.func30, Try.ntmps30
  go_wp2
  have HS : (fun V : World => V.cell? ⟨B, 0, none⟩ = some (.int .u64 m) ∧ V.cell? ⟨W.heap.size, 0, none⟩ = some (.int .u64 x.f0) ∧ V.cell? ⟨W.heap.size, 1, none⟩ = some (.int .u16 x.f1) ∧ V.cell? ⟨W.heap.size + 1, 0, none⟩ = some (.int .u64 y.f0) ∧ V.cell? ⟨W.heap.size + 1, 1, none⟩ = some (.int .u16 y.f1) ∧ Below W.heap.size W V ∧ W.drawn ≤ V.drawn) ((W.alloc (.cells #[.int .u64 x.f0, .int .u16 x.f1] 26)).alloc (.cells #[.int .u64 y.f0, .int .u16 y.f1] 26)).drew := by
    have hlt := World.block_lt_of_cell? W _ hb
    have b1 : Below W.heap.size W (W.alloc (.cells #[.int .u64 x.f0, .int .u16 x.f1] 26)) := (Below.refl _ W).alloc (Nat.le_refl _) _
    have b2 := b1.alloc b1.size (.cells #[.int .u64 y.f0, .int .u16 y.f1] 26)
    refine ⟨pw_cell_below b2 hb, ?_, ?_, ?_, ?_, b2.drew, Nat.le_add_right _ _⟩
    all_goals simp
  refine start_ (n := 19) (S := fun V : World => V.cell? ⟨B, 0, none⟩ = some (.int .u64 m) ∧ V.cell? ⟨W.heap.size, 0, none⟩ = some (.int .u64 x.f0) ∧ V.cell? ⟨W.heap.size, 1, none⟩ = some (.int .u16 x.f1) ∧ V.cell? ⟨W.heap.size + 1, 0, none⟩ = some (.int .u64 y.f0) ∧ V.cell? ⟨W.heap.size + 1, 1, none⟩ = some (.int .u16 y.f1) ∧ Below W.heap.size W V ∧ W.drawn ≤ V.drawn) (ds := []) #[false, false, false, false, false, false, false, false, false, false, false, false, false, false, false, false, false, false, false] (by kernel_rfl) rfl rfl HS (fun hHeld => ?_)
  clear HS
  generalize hw_ : World.drew _ = V at hHeld ⊢
  clear hw_
  refine pure_ (i := 0) (N := some 6) (v := ?_) (a' := ?_) #[true, false, false, false, false, false, false, false, false, false, false, false, false, false, false, false, false, false, false] rfl rfl (by kernel_rfl) (fun _ _ _ h => h) (Or.inl ⟨by rfl, ?_⟩) ?_ ?_
  rotate_left
  · intro w'
    go_simp
    with_reducible rfl
  rotate_left
  · simp only [Act.put, List.setIfInBounds_toArray, List.set_cons_zero, List.set_cons_succ, i64_w, i32_w]
    rfl
  refine take_ (i := 1) (N := some 7) (v := ?_) (a' := ?_) #[true, true, false, false, false, false, false, false, false, false, false, false, false, false, false, false, false, false, false] rfl rfl (by kernel_rfl) (fun _ _ _ h => h) (Or.inl ⟨by rfl, ?_⟩) hHeld ?_ ?_
  rotate_left
  · rintro w' ⟨s0, s1, s2, s3, s4, s5, s6⟩
    go_simp
    with_reducible rfl
  rotate_left
  · simp only [Act.put, List.setIfInBounds_toArray, List.set_cons_zero, List.set_cons_succ, i64_w, i32_w]
    rfl
  refine pure_ (i := 2) (N := some 8) (v := ?_) (a' := ?_) #[true, true, true, false, false, false, false, false, false, false, false, false, false, false, false, false, false, false, false] rfl rfl (by kernel_rfl) (fun _ _ _ h => h) (Or.inl ⟨by rfl, ?_⟩) ?_ ?_
  rotate_left
  · intro w'
    go_simp
    with_reducible rfl
  rotate_left
  · simp only [Act.put, List.setIfInBounds_toArray, List.set_cons_zero, List.set_cons_succ, i64_w, i32_w]
    rfl
  refine take_ (i := 3) (N := some 9) (v := ?_) (a' := ?_) #[true, true, true, true, false, false, false, false, false, false, false, false, false, false, false, false, false, false, false] rfl rfl (by kernel_rfl) (fun _ _ _ h => h) (Or.inl ⟨by rfl, ?_⟩) hHeld ?_ ?_
  rotate_left
  · rintro w' ⟨s0, s1, s2, s3, s4, s5, s6⟩
    go_simp
    with_reducible rfl
  rotate_left
  · simp only [Act.put, List.setIfInBounds_toArray, List.set_cons_zero, List.set_cons_succ, i64_w, i32_w]
    rfl
  refine pure_ (i := 5) (N := some 11) (v := ?_) (a' := ?_) #[true, true, true, true, false, true, false, false, false, false, false, false, false, false, false, false, false, false, false] rfl rfl (by kernel_rfl) (fun _ _ _ h => h) (Or.inl ⟨by rfl, ?_⟩) ?_ ?_
  rotate_left
  · intro w'
    go_simp
    with_reducible rfl
  rotate_left
  · simp only [Act.put, List.setIfInBounds_toArray, List.set_cons_zero, List.set_cons_succ, i64_w, i32_w]
    rfl
  refine take_ (i := 6) (N := some 12) (v := ?_) (a' := ?_) #[true, true, true, true, false, true, true, false, false, false, false, false, false, false, false, false, false, false, false] rfl rfl (by kernel_rfl) (fun _ _ _ h => h) (Or.inl ⟨by rfl, ?_⟩) hHeld ?_ ?_
  rotate_left
  · rintro w' ⟨s0, s1, s2, s3, s4, s5, s6⟩
    go_simp
    with_reducible rfl
  rotate_left
  · simp only [Act.put, List.setIfInBounds_toArray, List.set_cons_zero, List.set_cons_succ, i64_w, i32_w]
    rfl
  refine pure_ (i := 7) (N := some 13) (v := ?_) (a' := ?_) #[true, true, true, true, false, true, true, true, false, false, false, false, false, false, false, false, false, false, false] rfl rfl (by kernel_rfl) (fun _ _ _ h => h) (Or.inl ⟨by rfl, ?_⟩) ?_ ?_
  rotate_left
  · intro w'
    go_simp
    with_reducible rfl
  rotate_left
  · simp only [Act.put, List.setIfInBounds_toArray, List.set_cons_zero, List.set_cons_succ, i64_w, i32_w]
    rfl
  refine take_ (i := 8) (N := some 14) (v := ?_) (a' := ?_) #[true, true, true, true, false, true, true, true, true, false, false, false, false, false, false, false, false, false, false] rfl rfl (by kernel_rfl) (fun _ _ _ h => h) (Or.inl ⟨by rfl, ?_⟩) hHeld ?_ ?_
  rotate_left
  · rintro w' ⟨s0, s1, s2, s3, s4, s5, s6⟩
    go_simp
    with_reducible rfl
  rotate_left
  · simp only [Act.put, List.setIfInBounds_toArray, List.set_cons_zero, List.set_cons_succ, i64_w, i32_w]
    rfl
  refine pure_ (i := 11) (N := some 17) (v := ?_) (a' := ?_) #[true, true, true, true, false, true, true, true, true, false, false, true, false, false, false, false, false, false, false] rfl rfl (by kernel_rfl) (fun _ _ _ h => h) (Or.inl ⟨by rfl, ?_⟩) ?_ ?_
  rotate_left
  · intro w'
    go_simp
    with_reducible rfl
  rotate_left
  · simp only [Act.put, List.setIfInBounds_toArray, List.set_cons_zero, List.set_cons_succ, i64_w, i32_w]
    rfl
  refine take_ (i := 12) (N := some 18) (v := ?_) (a' := ?_) #[true, true, true, true, false, true, true, true, true, false, false, true, true, false, false, false, false, false, false] rfl rfl (by kernel_rfl) (fun _ _ _ h => h) (Or.inl ⟨by rfl, ?_⟩) hHeld ?_ ?_
  rotate_left
  · rintro w' ⟨s0, s1, s2, s3, s4, s5, s6⟩
    go_simp
    with_reducible rfl
  rotate_left
  · simp only [Act.put, List.setIfInBounds_toArray, List.set_cons_zero, List.set_cons_succ, i64_w, i32_w]
    rfl
  refine pure_ (i := 13) (N := some 19) (v := ?_) (a' := ?_) #[true, true, true, true, false, true, true, true, true, false, false, true, true, true, false, false, false, false, false] rfl rfl (by kernel_rfl) (fun _ _ _ h => h) (Or.inl ⟨by rfl, ?_⟩) ?_ ?_
  rotate_left
  · intro w'
    go_simp
    with_reducible rfl
  rotate_left
  · simp only [Act.put, List.setIfInBounds_toArray, List.set_cons_zero, List.set_cons_succ, i64_w, i32_w]
    rfl
  refine take_ (i := 14) (N := some 20) (v := ?_) (a' := ?_) #[true, true, true, true, false, true, true, true, true, false, false, true, true, true, true, false, false, false, false] rfl rfl (by kernel_rfl) (fun _ _ _ h => h) (Or.inl ⟨by rfl, ?_⟩) hHeld ?_ ?_
  rotate_left
  · rintro w' ⟨s0, s1, s2, s3, s4, s5, s6⟩
    go_simp
    with_reducible rfl
  rotate_left
  · simp only [Act.put, List.setIfInBounds_toArray, List.set_cons_zero, List.set_cons_succ, i64_w, i32_w]
    rfl
  refine one_ (i := 4) (N := some 10) #[true, true, true, true, true, true, true, true, true, false, false, true, true, true, true, false, false, false, false] rfl rfl (by kernel_rfl) (by decide) (fun K hK => ?_)
  refine goes_ Try.func18 (by kernel_rfl) rfl #[.int .u64 m, .int .u64 y.f0] (by rfl) rfl rfl (by (try simp only [List.map_toArray, List.map_cons, List.map_nil]); first | done | rfl) ?_
  refine (D1'.out _).mono ?_
  rintro e w' ⟨rfl, ⟨nd, rfl⟩⟩
  refine ⟨_, rfl, ?_⟩
  refine hK.out _ _ ⟨hHeld.1, hHeld.2.1, hHeld.2.2.1, hHeld.2.2.2.1, hHeld.2.2.2.2.1, pw_below_drewN hHeld.2.2.2.2.2.1 _, Nat.le_trans hHeld.2.2.2.2.2.2 (Nat.le_add_right _ _)⟩ (fun hHeld => ?_)
  generalize hw_ : World.drewN _ nd = V at hHeld ⊢
  clear hw_
  clear hK K
  refine norm_ (a' := ?_) ?_ ?_
  rotate_left
  · show Act.put _ (some 10) _ = _
    simp only [Act.put, List.setIfInBounds_toArray, List.set_cons_zero, List.set_cons_succ, i64_w, i32_w]
    rfl
  refine one_ (i := 9) (N := some 15) #[true, true, true, true, true, true, true, true, true, true, false, true, true, true, true, false, false, false, false] rfl rfl (by kernel_rfl) (by decide) (fun K hK => ?_)
  refine goes_ Try.func18 (by kernel_rfl) rfl #[.int .u64 m, .int .u64 x.f0] (by rfl) rfl rfl (by (try simp only [List.map_toArray, List.map_cons, List.map_nil]); first | done | rfl) ?_
  refine (D2'.out _).mono ?_
  rintro e w' ⟨rfl, ⟨nd, rfl⟩⟩
  refine ⟨_, rfl, ?_⟩
  refine hK.out _ _ ⟨hHeld.1, hHeld.2.1, hHeld.2.2.1, hHeld.2.2.2.1, hHeld.2.2.2.2.1, pw_below_drewN hHeld.2.2.2.2.2.1 _, Nat.le_trans hHeld.2.2.2.2.2.2 (Nat.le_add_right _ _)⟩ (fun hHeld => ?_)
  generalize hw_ : World.drewN _ nd = V at hHeld ⊢
  clear hw_
  clear hK K
  refine norm_ (a' := ?_) ?_ ?_
  rotate_left
  · show Act.put _ (some 15) _ = _
    simp only [Act.put, List.setIfInBounds_toArray, List.set_cons_zero, List.set_cons_succ, i64_w, i32_w]
    rfl
  refine one_ (i := 10) (N := some 16) #[true, true, true, true, true, true, true, true, true, true, true, true, true, true, true, false, false, false, false] rfl rfl (by kernel_rfl) (by decide) (fun K hK => ?_)
  refine goes_ Try.func32 (by kernel_rfl) rfl #[.int .u64 p1, .int .u64 p2] (by rfl) rfl rfl (by (try simp only [List.map_toArray, List.map_cons, List.map_nil]); first | done | rfl) ?_
  refine (C1'.out _).mono ?_
  rintro e w' ⟨rfl, ⟨nd, rfl⟩⟩
  refine ⟨_, rfl, ?_⟩
  refine hK.out _ _ ⟨hHeld.1, hHeld.2.1, hHeld.2.2.1, hHeld.2.2.2.1, hHeld.2.2.2.2.1, pw_below_drewN hHeld.2.2.2.2.2.1 _, Nat.le_trans hHeld.2.2.2.2.2.2 (Nat.le_add_right _ _)⟩ (fun hHeld => ?_)
  generalize hw_ : World.drewN _ nd = V at hHeld ⊢
  clear hw_
  clear hK K
  refine norm_ (a' := ?_) ?_ ?_
  rotate_left
  · show Act.put _ (some 16) _ = _
    simp only [Act.put, List.setIfInBounds_toArray, List.set_cons_zero, List.set_cons_succ, i64_w, i32_w]
    rfl
  refine one_ (i := 15) (N := some 21) #[true, true, true, true, true, true, true, true, true, true, true, true, true, true, true, true, false, false, false] rfl rfl (by kernel_rfl) (by decide) (fun K hK => ?_)
  refine goes_ Try.func33 (by kernel_rfl) rfl #[.int .u16 x.f1, .int .u16 y.f1] (by rfl) rfl rfl (by (try simp only [List.map_toArray, List.map_cons, List.map_nil]); first | done | rfl) ?_
  refine (C2'.out _).mono ?_
  rintro e w' ⟨rfl, ⟨nd, rfl⟩⟩
  refine ⟨_, rfl, ?_⟩
  refine hK.out _ _ ⟨hHeld.1, hHeld.2.1, hHeld.2.2.1, hHeld.2.2.2.1, hHeld.2.2.2.2.1, pw_below_drewN hHeld.2.2.2.2.2.1 _, Nat.le_trans hHeld.2.2.2.2.2.2 (Nat.le_add_right _ _)⟩ (fun hHeld => ?_)
  generalize hw_ : World.drewN _ nd = V at hHeld ⊢
  clear hw_
  clear hK K
  refine norm_ (a' := ?_) ?_ ?_
  rotate_left
  · show Act.put _ (some 21) _ = _
    simp only [Act.put, List.setIfInBounds_toArray, List.set_cons_zero, List.set_cons_succ, i64_w, i32_w]
    rfl
  refine one_ (i := 16) (N := some 22) #[true, true, true, true, true, true, true, true, true, true, true, true, true, true, true, true, true, false, false] rfl rfl (by kernel_rfl) (by decide) (fun K hK => ?_)
  refine event_step (by rfl) (v := .slice (some ⟨V.heap.size, 0, none⟩) 2 2) (w1 := V.alloc (.cells #[.int .i64 q1, .int .i64 q2] 3)) (by first | (go_simp; done) | (go_simp; rfl)) ?_
  have hc0 : (V.alloc (.cells #[.int .i64 q1, .int .i64 q2] 3)).cell? ⟨V.heap.size, 0, none⟩ = some (.int .i64 q1) := by simp
  have hc1 : (V.alloc (.cells #[.int .i64 q1, .int .i64 q2] 3)).cell? ⟨V.heap.size, 1, none⟩ = some (.int .i64 q2) := by simp
  have hb_ : Below V.heap.size V (V.alloc (.cells #[.int .i64 q1, .int .i64 q2] 3)) := (Below.refl _ V).alloc (Nat.le_refl _) _
  refine hK.out _ _ ⟨pw_cell_below hb_ hHeld.1, pw_cell_below hb_ hHeld.2.1, pw_cell_below hb_ hHeld.2.2.1, pw_cell_below hb_ hHeld.2.2.2.1, pw_cell_below hb_ hHeld.2.2.2.2.1, hHeld.2.2.2.2.2.1.alloc hHeld.2.2.2.2.2.1.size _, hHeld.2.2.2.2.2.2⟩ (fun hHeld => ?_)
  generalize hg_ : V.heap.size = g at hc0 hc1 hHeld ⊢
  generalize hw_ : V.alloc _ = V2 at hc0 hc1 hHeld ⊢
  clear hw_ hg_ hb_
  clear hK K
  refine norm_ (a' := ?_) ?_ ?_
  rotate_left
  · show Act.put _ (some 22) _ = _
    simp only [Act.put, List.setIfInBounds_toArray, List.set_cons_zero, List.set_cons_succ, i64_w, i32_w]
    rfl
  refine one_ (i := 17) (N := some 23) #[true, true, true, true, true, true, true, true, true, true, true, true, true, true, true, true, true, true, false] rfl rfl (by kernel_rfl) (by decide) (fun K hK => ?_)
  refine goes_ Try.func31 (by kernel_rfl) rfl #[.slice (some ⟨g, 0, none⟩) 2 2] (by rfl) rfl rfl (by (try simp only [List.map_toArray, List.map_cons, List.map_nil]); first | done | rfl) ?_
  refine (O'.out _ _ hc0 hc1).mono ?_
  rintro e w' ⟨rfl, ⟨nd, rfl⟩⟩
  refine ⟨_, rfl, ?_⟩
  refine hK.out _ _ ⟨hHeld.1, hHeld.2.1, hHeld.2.2.1, hHeld.2.2.2.1, hHeld.2.2.2.2.1, pw_below_drewN hHeld.2.2.2.2.2.1 _, Nat.le_trans hHeld.2.2.2.2.2.2 (Nat.le_add_right _ _)⟩ (fun hHeld => ?_)
  generalize hw_ : World.drewN _ nd = V at hHeld ⊢
  clear hw_
  clear hK K
  refine norm_ (a' := ?_) ?_ ?_
  rotate_left
  · show Act.put _ (some 23) _ = _
    simp only [Act.put, List.setIfInBounds_toArray, List.set_cons_zero, List.set_cons_succ, i64_w, i32_w]
    rfl
  refine pure_ (i := 18) (N := some 5) (v := ?_) (a' := ?_) #[true, true, true, true, true, true, true, true, true, true, true, true, true, true, true, true, true, true, true] rfl rfl (by kernel_rfl) (fun _ _ _ h => h) (Or.inl ⟨by rfl, ?_⟩) ?_ ?_
  rotate_left
  · intro w'
    go_simp
    with_reducible rfl
  rotate_left
  · simp only [Act.put, List.setIfInBounds_toArray, List.set_cons_zero, List.set_cons_succ, i64_w, i32_w]
    rfl
  refine done_ (by kernel_rfl) ?_
  go_wp2
  go_ret
  exact ⟨rfl, hops_grow hHeld.2.2.2.2.2.1 hHeld.2.2.2.2.2.2⟩
theorem hops_idx (x : S26) (B : Nat) (b : Int) (W : World) (hb : W.cell? ⟨B, 1, none⟩ = some (.int .u16 b)) :
    Calls Try.prog 28 #[.agg #[.int .u64 x.f0, .int .u16 x.f1], .pointer (some ⟨B, 0, none⟩)] W fun e w' => e = .returned (.bool (x.f1 == b)) ∧ Below W.heap.size W w' := by
  have hu := Try.underlying26
  go_enter Try.func28, Try.ntmps28
  have h2 : (W.alloc (.cells #[.int .u64 x.f0, .int .u16 x.f1] 26)).cell? ⟨B, 1, none⟩ = some (.int .u16 b) := pw_cell_below (below_alloc (Below.refl _ _) _) hb
  go_wp2
  all_goals go_ret
  all_goals exact ⟨by first | rfl | simp_all, below_alloc (Below.refl _ _) _⟩
theorem hops_lt (m : Int) (x y : S26) : Go.Proofs.ltOf (hops_cf m) x y = decide (IntKind.u64.wrap (y.f0 - m) < IntKind.u64.wrap (x.f0 - m) ∨ IntKind.u64.wrap (y.f0 - m) = IntKind.u64.wrap (x.f0 - m) ∧ x.f1 < y.f1) := by
  unfold Go.Proofs.ltOf hops_cf
  generalize IntKind.u64.wrap (y.f0 - m) = p
  generalize IntKind.u64.wrap (x.f0 - m) = q
  unfold Lib.compareInt
  rw [decide_eq_decide]
  by_cases h1 : p < q
  · simp [h1]
  · by_cases h2 : p > q
    · have : p ≠ q := by omega
      simp [h1, h2, this]
    · have : p = q := by omega
      subst this
      by_cases h3 : x.f1 < y.f1
      · simp [h3]
      · by_cases h4 : x.f1 > y.f1 <;> simp [h3, h4]
theorem hops_swo (m : Int) : Go.Sort.SWO (Go.Proofs.ltOf (hops_cf m)) where
  irrefl x := by rw [hops_lt]; simp
  trans x y z h1 h2 := by rw [hops_lt] at *; simp only [decide_eq_true_eq] at *; omega
  ntrans x y z h1 h2 := by rw [hops_lt] at *; simp only [decide_eq_false_iff_not] at *; omega
def hops_all (l1 : List S43) (l2 : List S45) : List S26 := (l1.filter fun x => decide (x.f1 ≤ 0)).map (fun x => x.f0) ++ l2.map fun x => x.f1
def hops_ok (all : List S26) (a b key : Int) (i : Nat) : Bool :=
  (Go.Proofs.YtnnhmceaoobihaaW.PrintIdx.firstIdx (fun q => q.f1 == (rd_T26 all i).f1) all == (i : Int)) && ((rd_T26 all i).f1 != b) && (ring_Between.f a (rd_T26 all i).f0 key == some true)
def hops_out (all : List S26) (a b key : Int) (n : Nat) : List S26 := ((List.range n).filter (hops_ok all a b key)).map fun i : Nat => rd_T26 all i
def fings_Hops.f (a0_0 a0_1 : Int) (l1 : List S43) (l2 : List S45) (a3 a4 : Int) : Option (List S26) :=
  if l1.length < 1099511627776 ∧ l2.length < 1099511627776 then
    some ((Go.Proofs.YtnnhmceaoobihaaW.PrintSort.sorted (hops_cf a0_0) (hops_out (hops_all l1 l2) a0_0 a0_1 a3 (hops_all l1 l2).length)).take (min (hops_out (hops_all l1 l2) a0_0 a0_1 a3 (hops_all l1 l2).length).length (max a4 0).toNat))
  else none
theorem hops_between (a b c : Int) : ∃ r, ring_Between.f a b c = some r := by
  unfold ring_Between.f ring_Dist.f
  split
  · exact ⟨_, rfl⟩
  · split
    · exact ⟨_, rfl⟩
    · exact ⟨_, rfl⟩
theorem hops_out_len (all : List S26) (a b key : Int) (n : Nat) : (hops_out all a b key n).length ≤ n := by
  unfold hops_out
  rw [List.length_map]
  exact Nat.le_trans (List.length_filter_le _ _) (by rw [List.length_range]; exact Nat.le_refl _)
theorem hops_out_succ (all : List S26) (a b key : Int) (n : Nat) : hops_out all a b key (n + 1) = hops_out all a b key n ++ (if hops_ok all a b key n = true then [rd_T26 all n] else []) := by
  unfold hops_out
  rw [List.range_succ, List.filter_append, List.map_append]
  cases h : hops_ok all a b key n <;> simp [h]
set_option maxHeartbeats 8000000 in
set_option maxRecDepth 100000 in
theorem fings_Hops.calls (a0_0 a0_1 : Int) (A1 : Option Addr) (c1 : Nat) (l1 : List S43) (A2 : Option Addr) (c2 : Nat) (l2 : List S45) (a3 a4 : Int) (r : List S26) (w : World) (hr1 : Kd.C k43 w A1 l1.length l1) (hc1 : l1.length ≤ c1) (hr2 : Kd.C k45 w A2 l2.length l2) (hc2 : l2.length ≤ c2) (h : fings_Hops.f a0_0 a0_1 l1 l2 a3 a4 = some r) :
    Calls Try.prog 15 #[.agg #[.int .u64 a0_0, .int .u16 a0_1], .slice A1 l1.length c1, .slice A2 l2.length c2, .int .u64 a3, .int .i64 a4] w fun e w' => ∃ v0_ : Value, e = .returned v0_ ∧ Kd.R k26 26 w' w.heap.size (fun _ => True) v0_ r ∧ Below w.heap.size w w' := by
  have hu := Try.underlying26
  have hu2 := Try.underlying45
  obtain ⟨hlim1, hlim2⟩ : l1.length < 1099511627776 ∧ l2.length < 1099511627776 := by
    unfold fings_Hops.f at h
    split at h
    · assumption
    · cases h
  obtain ⟨F, hF⟩ : ∃ F, F = (l1.filter fun x => decide (x.f1 ≤ 0)).map (fun x => x.f0) := ⟨_, rfl⟩
  have hFl : F.length ≤ l1.length := by rw [hF, List.length_map]; exact List.length_filter_le _ _
  obtain ⟨all, hall⟩ : ∃ all, all = hops_all l1 l2 := ⟨_, rfl⟩
  have hall2 : all = F ++ l2.map fun x => x.f1 := by rw [hall, hF]; rfl
  have hr : (Go.Proofs.YtnnhmceaoobihaaW.PrintSort.sorted (hops_cf a0_0) (hops_out all a0_0 a0_1 a3 all.length)).take (min (hops_out all a0_0 a0_1 a3 all.length).length (max a4 0).toNat) = r := by
    unfold fings_Hops.f at h
    rw [if_pos ⟨hlim1, hlim2⟩, ← hall] at h
    exact Option.some.inj h
  have hFF : peers_Firm.f l1 = some F := by unfold peers_Firm.f; rw [if_pos (by omega), hF]
  have HF := Aside0.mk hFF; have HR1 := Aside0.mk hr1; have HR2 := Aside0.mk hr2; have HC1 := Aside0.mk hc1; have HALL := Aside0.mk hall2; have HFL := Aside0.mk hFl; have HL1 := Aside0.mk hlim1; have HL2 := Aside0.mk hlim2; have HRES := Aside0.mk hr
  clear hFF hF hr1 hr2 hc1 hc2 h hall hall2 hFl hlim1 hlim2 hr
  go_enter Try.func15, Try.ntmps15
  go_wp2_with (first
    | ((with_reducible refine gate_dst (N := 5) rfl ?_); refine box_event ?hg (N := 5) ?hd (cs := #[.int .u64 a0_0, .int .u16 a0_1]) (t := 26) ?hr ?_; (case hd => rfl); (case hg => rfl); (case hr => first | (go_simp; done) | (go_simp; rfl)); intro gb hg w1 hbox hb; have HB := Aside0.mk hb; have BK := Aside0.mk hbox; have GE := Aside0.mk (show w.heap.size ≤ gb by rw [hg]; exact Nat.le_refl _); have LT := Aside0.mk (show gb < w1.heap.size from (Array.getElem?_eq_some_iff.1 hbox).1); clear hb hbox hg)
    | (go_at_call 26; refine (peers_Firm.calls A1 c1 l1 F w1 (Kd.C_below HR1.out HB.out) HC1.out HF.out).mono ?_; rintro e w2 ⟨v, rfl, ho, hb⟩; have HO := Aside0.mk ho; have HB1 := Aside0.mk hb; clear ho hb))
  have HR2' := Aside0.mk (Kd.C_below HR2.out HB.out)
  clear HR1 HR2 HF HC1
  go_loopg [11, 22] l2.length (fun gg v11 v22 w' => ∃ (kk : Nat), kk ≤ l2.length ∧ l2.length - kk ≤ gg ∧ v22 = .int .i64 kk ∧ Aside0 (Kd.R k26 26 w' w1.heap.size (fun _ => True) v11 (F ++ (l2.take kk).map fun x => x.f1)) ∧ Aside0 (Below w1.heap.size w1 w'))
  case atStart => exact ⟨0, Nat.zero_le _, by omega, rfl, ⟨by simpa using HO.out⟩, HB1⟩
  case round =>
    clear HO HB1
    obtain ⟨kk, hkk, hg0, rfl, HO, HB1⟩ := hrel
    have HN : l2.length < 1099511627776 := HL2.out
    have HFN : F.length ≤ l1.length := HFL.out
    have HN1 : l1.length < 1099511627776 := HL1.out
    by_cases hlt : kk < l2.length
    · have p1 : 0 ≤ ((kk : Nat) : Int) := by omega
      have q1 : ((kk : Nat) : Int) < (l2.length : Int) := by omega
      obtain ⟨ad, e1, hx0, hx1, hx2⟩ := at_T45 HR2'.out kk p1 q1
      cases e1
      replace hx0 := (HB1.out.cell (World.block_lt_of_cell? w1 _ hx0)).trans hx0
      replace hx1 := (HB1.out.cell (World.block_lt_of_cell? w1 _ hx1)).trans hx1
      replace hx2 := (HB1.out.cell (World.block_lt_of_cell? w1 _ hx2)).trans hx2
      simp only [Int.toNat_natCast] at hx0 hx1 hx2
      have hs : (l2.take (kk + 1)).map (fun x => x.f1) = (l2.take kk).map (fun x => x.f1) ++ [(rd_T45 l2 kk).f1] := by
        rw [List.take_succ_eq_append_getElem hlt, List.map_append]
        have hy2 : rd_T45 l2 kk = l2[kk] := by
          unfold rd_T45
          rw [Int.toNat_natCast, Go.Proofs.YtnnhmceaoobihaaW.PrintIdx.getD_at hlt]
        rw [hy2]
        rfl
      have HS := Aside0.mk hs
      have hlen : (F ++ (l2.take kk).map fun x => x.f1).length ≤ 2199023255552 := by
        rw [List.length_append, List.length_map]
        have := List.length_take_le kk l2
        omega
      have HLEN := Aside0.mk hlen
      clear hs hlen
      obtain ⟨y, hy⟩ : ∃ y, rd_T45 l2 kk = y := ⟨_, rfl⟩
      rw [hy] at hx0 hx1 hx2 HS
      clear hy
      obtain ⟨X, hX⟩ : ∃ X, F ++ (l2.take kk).map (fun x => x.f1) = X := ⟨_, rfl⟩
      rw [hX] at HO HLEN
      have HX := Aside0.mk hX
      clear hX
      go_wp2_with (first
        | ((with_reducible refine gate_dst (N := 13) rfl ?_); refine box_event ?hg (N := 13) ?hd (cs := #[.int .i64 0, .int .u64 0, .int .u16 0]) (t := 45) ?hr ?_; (case hd => rfl); (case hg => rfl); (case hr => first | (go_simp; done) | (go_simp; rfl)); intro gb2 hg w2' hbox hb; have n0_ := Aside0.mk (below_then HB1.out HB1.out.size hb); have n1_ := Aside0.mk (Kd.R_below HO.out hb); have BK2 := Aside0.mk hbox; have GE2 := Aside0.mk ((by rw [hg]; exact (below_size HB1.out)) : w1.heap.size ≤ gb2); have hz0 : w2'.cell? ⟨gb2, 0, none⟩ = some (.int .i64 0) := (blk_cell BK2.out 0).trans rfl; have hz1 : w2'.cell? ⟨gb2, 1, none⟩ = some (.int .u64 0) := (blk_cell BK2.out 1).trans rfl; have hz2 : w2'.cell? ⟨gb2, 2, none⟩ = some (.int .u16 0) := (blk_cell BK2.out 2).trans rfl; have hf0 := blk_frozen BK2.out 0; have hf1 := blk_frozen BK2.out 1; have hf2 := blk_frozen BK2.out 2; clear HB1 HO; have HB1 := n0_; have HO := n1_; clear n0_ n1_ hb hbox hg)
        | ((with_reducible refine gate_builtin (b := .append) (xs := #[.tmp 26, .tmp 29]) rfl ?_); at_builtin; refine Kd.R_append k26 (w0 := w1) w1.heap.size rfl (.tmp 26) (.tmp 29) 36 26 (.agg #[(.int .u64 0), (.int .u16 0)]) 16 rfl Try.underlying36 info26 rfl (by decide) (by omega) u11 X y.f1 [.int .u64 y.f1.f0, .int .u16 y.f1.f1] (fun _ => True) (fun _ => False) rfl (by simp [Act.eval]) ?aP (fun _ hk => hk.elim) ?aF ?aO ?aB ?aS ?aL ?_; (case aP => exact k26_mkM _ _ _ y.f1); (case aB => refine below_set ?_ GE2.out; refine below_set ?_ GE2.out; refine below_set ?_ GE2.out; exact HB1.out); (case aF => exact (fun _ _ => trivial)); (case aO => exact Kd.R_mono (Kd.R_far (p := ⟨gb2, 2, none⟩) (Kd.R_far (p := ⟨gb2, 1, none⟩) (Kd.R_far (p := ⟨gb2, 0, none⟩) (Kd.R_types HO.out BK2.out (by decide)) (fun _ hk => hk.2) _) (fun _ hk => hk.2) _) (fun _ hk => hk.2) _) (fun _ _ => trivial)); (case aS => have h9 := below_size HB1.out; simpa using h9); (case aL => have := HLEN.out; omega); intro v174 w6 ho hb hg hat; have HB5 := Aside0.mk hb; have HO5 := Aside0.mk ho; clear ho hb hg hat))
      go_roundg (l2.length - (kk + 1))
      case measure => omega
      case rel => exact ⟨kk + 1, by omega, by omega, by go_num, ⟨by rw [HS.out, ← List.append_assoc, HX.out]; exact HO5.out⟩, HB5⟩
    · have : kk = l2.length := by omega
      subst this
      have hn : ¬ ((l2.length : Nat) : Int) < (l2.length : Int) := by omega
      rw [List.take_length, ← HALL.out] at HO
      have LTa : all.length < 2199023255552 := by rw [HALL.out, List.length_append, List.length_map]; omega
      have HLA := Aside0.mk LTa
      clear LTa HALL HFL HL1 HL2 HN HFN HN1
      obtain ⟨Aa, ca, ea, hca, hra⟩ := Kd.R_reads HO.out
      subst ea
      have HRA := Aside0.mk hra
      clear hra
      generalize wr = wa at HB1 HO HRA ⊢
      go_wp2
      go_loopg [14, 34] all.length (fun gg v14 v34 w' => ∃ (kk : Nat), kk ≤ all.length ∧ all.length - kk ≤ gg ∧ v34 = .int .i64 kk ∧ Aside0 (Kd.R k26 26 w' wa.heap.size (fun _ => True) v14 (hops_out all a0_0 a0_1 a3 kk)) ∧ Aside0 (Below wa.heap.size wa w'))
      case atStart => exact ⟨0, Nat.zero_le _, by omega, rfl, ⟨Kd.R_nil _ _ _ _ _⟩, ⟨Below.refl _ _⟩⟩
      case round =>
        have BKa := Aside0.mk (blk_below BK.out HB1.out)
        have LTa : Aside0 (gb < wa.heap.size) := ⟨Nat.lt_of_lt_of_le LT.out HB1.out.size⟩
        clear HO
        obtain ⟨kk, hkk, hg0, rfl, HO, HB2⟩ := hrel
        by_cases hlt : kk < all.length
        · have HLT := Aside0.mk hlt
          have HNA : all.length < 2199023255552 := HLA.out
          have p1 : 0 ≤ ((kk : Nat) : Int) := by omega
          have q1 : ((kk : Nat) : Int) < (all.length : Int) := by omega
          obtain ⟨ad, e1, hx0, hx1⟩ := at_T26 HRA.out kk p1 q1
          cases e1
          replace hx0 := (HB2.out.cell (World.block_lt_of_cell? wa _ hx0)).trans hx0
          replace hx1 := (HB2.out.cell (World.block_lt_of_cell? wa _ hx1)).trans hx1
          simp only [Int.toNat_natCast] at hx0 hx1
          have hsucc := hops_out_succ all a0_0 a0_1 a3 kk
          have hok : hops_ok all a0_0 a0_1 a3 kk = ((Go.Proofs.YtnnhmceaoobihaaW.PrintIdx.firstIdx (fun q => q.f1 == (rd_T26 all kk).f1) all == (kk : Int)) && ((rd_T26 all kk).f1 != a0_1) && (ring_Between.f a0_0 (rd_T26 all kk).f0 a3 == some true)) := rfl
          have hlen := hops_out_len all a0_0 a0_1 a3 kk
          obtain ⟨y, hy⟩ : ∃ y, rd_T26 all kk = y := ⟨_, rfl⟩
          rw [hy] at hx0 hx1 hsucc hok
          clear hy
          have HSU := Aside0.mk hsucc
          have HOK := Aside0.mk hok
          have HLEN := Aside0.mk hlen
          clear hsucc hok hlen
          obtain ⟨X, hX⟩ : ∃ X, hops_out all a0_0 a0_1 a3 kk = X := ⟨_, rfl⟩
          rw [hX] at HO HLEN HSU
          clear hX
          go_wp2_with (first
            | ((with_reducible refine gate_dst (N := 16) rfl ?_); refine box_event ?hg (N := 16) ?hd (cs := #[.int .u64 0, .int .u16 0]) (t := 26) ?hr ?_; (case hd => rfl); (case hg => rfl); (case hr => first | (go_simp; done) | (go_simp; rfl)); intro g3 hg wb hbox hb; have n0_ := Aside0.mk (below_then HB2.out HB2.out.size hb); have n1_ := Aside0.mk (Kd.R_mono (Kd.R_bound (Kd.R_below HO.out hb)) (ok' := fun k => True) (fun _ _ => trivial)); have BK3 := Aside0.mk hbox; have GE3 := Aside0.mk ((by rw [hg]; exact (below_size HB2.out)) : wa.heap.size ≤ g3); have NE3 := Aside0.mk (Kd.R_mono (Kd.R_below (Kd.R_bound HO.out) hb) (ok' := fun k => True ∧ k ≠ g3) (fun k hk => ⟨trivial, by rw [hg]; exact Nat.ne_of_lt hk.2.2.1⟩)); have hz0 : wb.cell? ⟨g3, 0, none⟩ = some (.int .u64 0) := (blk_cell BK3.out 0).trans rfl; have hz1 : wb.cell? ⟨g3, 1, none⟩ = some (.int .u16 0) := (blk_cell BK3.out 1).trans rfl; have hf0 := blk_frozen BK3.out 0; have hf1 := blk_frozen BK3.out 1; clear HB2 HO; have HB2 := n0_; clear n0_ n1_ hb hbox hg))
          have HB3 : Aside0 (Below wa.heap.size wa ((wb.setCell ⟨g3, 0, none⟩ (.int .u64 y.f0)).setCell ⟨g3, 1, none⟩ (.int .u16 y.f1))) := ⟨by
            refine below_set ?_ GE3.out; refine below_set ?_ GE3.out; exact HB2.out⟩
          have HO3 : Aside0 (Kd.R k26 26 ((wb.setCell ⟨g3, 0, none⟩ (.int .u64 y.f0)).setCell ⟨g3, 1, none⟩ (.int .u16 y.f1)) wa.heap.size (fun _ => True) u14 X) := ⟨Kd.R_mono (Kd.R_far (p := ⟨g3, 1, none⟩) (Kd.R_far (p := ⟨g3, 0, none⟩) NE3.out (fun _ hk => hk.2) _) (fun _ hk => hk.2) _) (fun _ _ => trivial)⟩
          have BK4 : Aside0 (((wb.setCell ⟨g3, 0, none⟩ (.int .u64 y.f0)).setCell ⟨g3, 1, none⟩ (.int .u16 y.f1)).heap[g3]? = some (.cells #[.int .u64 y.f0, .int .u16 y.f1] 26 (0, 0))) := ⟨by
            refine blk_put (cs := #[.int .u64 y.f0, .int .u16 0]) ?_ 1 _ rfl
            refine blk_put (cs := #[.int .u64 0, .int .u16 0]) ?_ 0 _ rfl
            exact BK3.out⟩
          clear hz0 hz1 hf0 hf1 hx0 hx1 NE3 BK3 HB2
          generalize (wb.setCell ⟨g3, 0, none⟩ (.int .u64 y.f0)).setCell ⟨g3, 1, none⟩ (.int .u16 y.f1) = w3 at HB3 HO3 BK4 ⊢
          have hcall := idx_26 (fun q => q.f1 == y.f1) 28 #[.pointer (some ⟨g3, 0, none⟩)] (enters_of Try.func28 (by kernel_rfl) rfl) (some ad) ca all w3 (Kd.C_below HRA.out HB3.out) (fun W' x hb' => hops_idx x g3 y.f1 W' ((blk_cell (blk_below BK4.out hb') 1).trans rfl))
          obtain ⟨i0, hi0⟩ : ∃ i0, Go.Proofs.YtnnhmceaoobihaaW.PrintIdx.firstIdx (fun q : S26 => q.f1 == y.f1) all = i0 := ⟨_, rfl⟩
          rw [hi0] at hcall HOK
          clear hi0
          refine hcall.mono ?_
          clear hcall
          rintro e w4 ⟨rfl, hb⟩
          have HB5 := Aside0.mk (below_then HB3.out HB3.out.size hb)
          have HO5 := Aside0.mk (Kd.R_below HO3.out hb)
          have BK5 := Aside0.mk (blk_below BK4.out hb)
          clear hb HB3 HO3 BK4
          have hc0 : w4.cell? ⟨g3, 0, none⟩ = some (.int .u64 y.f0) := (blk_cell BK5.out 0).trans rfl
          have hc1 : w4.cell? ⟨g3, 1, none⟩ = some (.int .u16 y.f1) := (blk_cell BK5.out 1).trans rfl
          have hm0 : w4.cell? ⟨gb, 0, none⟩ = some (.int .u64 a0_0) := (blk_cell (blk_below BKa.out HB5.out) 0).trans rfl
          have hm1 : w4.cell? ⟨gb, 1, none⟩ = some (.int .u16 a0_1) := (blk_cell (blk_below BKa.out HB5.out) 1).trans rfl
          obtain ⟨br, hbr⟩ := hops_between a0_0 y.f0 a3
          have HBR := Aside0.mk hbr
          rw [hbr] at HOK
          clear hbr
          by_cases c1 : i0 = (kk : Int)
          · by_cases c2 : y.f1 = a0_1
            · have d1 : ((i0 : Int) == (kk : Int)) = true := beq_iff_eq.2 c1
              have d2 : (y.f1 == a0_1) = true := beq_iff_eq.2 c2
              have d3 : (y.f1 != a0_1) = false := bne_eq_false_iff_eq.2 c2
              have HN : Aside0 (hops_out all a0_0 a0_1 a3 (kk + 1) = X) := ⟨by rw [HSU.out, HOK.out, d1, d3]; exact List.append_nil X⟩
              clear HOK HSU c1 c2
              go_wp2
              go_roundg (all.length - (kk + 1))
              case measure => omega
              case rel => exact ⟨kk + 1, HLT.out, by have := HLT.out; omega, by have := HLA.out; have := HLT.out; go_num, ⟨by rw [HN.out]; exact HO5.out⟩, HB5⟩
            · have d1 : ((i0 : Int) == (kk : Int)) = true := beq_iff_eq.2 c1
              have d2 : (y.f1 == a0_1) = false := beq_eq_false_iff_ne.2 c2
              have d3 : (y.f1 != a0_1) = true := bne_iff_ne.2 c2
              cases br with
              | false =>
                have HN : Aside0 (hops_out all a0_0 a0_1 a3 (kk + 1) = X) := ⟨by rw [HSU.out, HOK.out, d1, d3]; exact List.append_nil X⟩
                clear HOK HSU c1 c2
                go_wp2_with (go_at_call 17; refine (ring_Between.calls a0_0 y.f0 a3 false _ HBR.out).mono ?_; rintro e w5 ⟨rfl, ⟨nd, rfl⟩⟩)
                go_roundg (all.length - (kk + 1))
                case measure => omega
                case rel => exact ⟨kk + 1, HLT.out, by have := HLT.out; omega, by have := HLA.out; have := HLT.out; go_num, ⟨by rw [HN.out]; exact Kd.R_drewN HO5.out _⟩, ⟨pw_below_drewN HB5.out _⟩⟩
              | true =>
                have HN : Aside0 (hops_out all a0_0 a0_1 a3 (kk + 1) = X ++ [y]) := ⟨by rw [HSU.out, HOK.out, d1, d3]; rfl⟩
                clear HOK HSU c1 c2
                go_wp2_with (first
                  | (go_at_call 17; refine (ring_Between.calls a0_0 y.f0 a3 true _ HBR.out).mono ?_; rintro e w5 ⟨rfl, ⟨nd, rfl⟩⟩)
                  | ((with_reducible refine gate_builtin (b := .append) (xs := #[.tmp 60, .tmp 62]) rfl ?_); at_builtin; refine Kd.R_append k26 (w0 := wa) wa.heap.size rfl (.tmp 60) (.tmp 62) 36 26 (.agg #[(.int .u64 0), (.int .u16 0)]) 16 rfl Try.underlying36 info26 rfl (by decide) (by omega) u14 X y [.int .u64 y.f0, .int .u16 y.f1] (fun _ => True) (fun _ => False) rfl (by first | rfl | simp [Act.eval]) ?aP (fun _ hk => hk.elim) ?aF ?aO ?aB ?aS ?aL ?_; (case aP => exact k26_mkM _ _ _ y); (case aB => exact pw_below_drewN HB5.out _); (case aF => exact (fun _ _ => trivial)); (case aO => exact Kd.R_mono (Kd.R_drewN HO5.out _) (fun _ _ => trivial)); (case aS => exact (show wa.heap.size ≤ w4.heap.size from below_size HB5.out)); (case aL => have := HLEN.out; have := HLA.out; have := HLT.out; omega); intro v174 w6 ho hb hg hat; have HB6 := Aside0.mk hb; have HO6 := Aside0.mk ho; clear ho hb hg hat))
                go_roundg (all.length - (kk + 1))
                case measure => omega
                case rel => exact ⟨kk + 1, HLT.out, by have := HLT.out; omega, by have := HLA.out; have := HLT.out; go_num, ⟨by rw [HN.out]; exact HO6.out⟩, HB6⟩
          · have d1 : ((i0 : Int) == (kk : Int)) = false := beq_eq_false_iff_ne.2 c1
            have HN : Aside0 (hops_out all a0_0 a0_1 a3 (kk + 1) = X) := ⟨by rw [HSU.out, HOK.out, d1]; exact List.append_nil X⟩
            clear HOK HSU
            go_wp2
            go_roundg (all.length - (kk + 1))
            case measure => omega
            case rel => exact ⟨kk + 1, HLT.out, by have := HLT.out; omega, by have := HLA.out; have := HLT.out; go_num, ⟨by rw [HN.out]; exact HO5.out⟩, HB5⟩
        · have : kk = all.length := by omega
          subst this
          have hn : ¬ ((all.length : Nat) : Int) < (all.length : Int) := by omega
          have hlen := hops_out_len all a0_0 a0_1 a3 all.length
          obtain ⟨X, hX⟩ : ∃ X, hops_out all a0_0 a0_1 a3 all.length = X := ⟨_, rfl⟩
          rw [hX] at HO HRES hlen
          have HLEN := Aside0.mk hlen
          clear hX hlen
          go_wp2_with fail
          have hS := Go.Proofs.YtnnhmceaoobihaaW.PrintSort.sort_calls Try.laysSlsf6 k26 26 2 rfl Try.isAgg26 Try.sizeOf26 (fun x : S26 => [.int .u64 x.f0, .int .u16 x.f1]) (fun _ => rfl) (fun x v hv => by simp at hv; rcases hv with rfl | rfl <;> rfl) (fun h => k26_openM h) (fun w b ok x => k26_mkM w b ok x) (hops_cf a0_0) (hops_swo a0_0) 30 #[.pointer (some ⟨gb, 0, none⟩)] (enters_of Try.func30 (by kernel_rfl) rfl) wr wa.heap.size (fun _ => True) u14 X HO.out (by have := HLEN.out; have := HLA.out; omega)
            (fun W x y hg => hops_clo x y a0_0 gb W (by
              have h1 := (blk_below BKa.out HB2.out)
              have h2 : W.heap[gb]? = wr.heap[gb]? := hg.block gb (Nat.lt_of_lt_of_le LTa.out HB2.out.size) (fun e => by
                obtain ⟨inner, ho⟩ := Kd.R_own HO.out
                have := own_base ho gb e.symm
                have := LTa.out
                omega)
              exact (blk_cell (h2.trans h1) 0).trans rfl))
          change Calls Try.prog 29 _ _ _ at hS
          refine hS.mono ?_
          clear hS
          rintro e w5 ⟨rfl, hO, hg⟩
          have hB5 : Below wa.heap.size wa w5 := pw_below_grown HB2.out _ (below_size HB2.out) hg (fun k hk => by
            obtain ⟨inner, ho⟩ := Kd.R_own HO.out
            exact own_base ho k hk)
          have HB5 := Aside0.mk hB5
          clear hB5 hg
          obtain ⟨L, hL⟩ : ∃ L, Go.Proofs.YtnnhmceaoobihaaW.PrintSort.sorted (hops_cf a0_0) X = L := ⟨_, rfl⟩
          have hll := Go.Proofs.YtnnhmceaoobihaaW.PrintSort.sorted_length (hops_cf a0_0) (hops_swo a0_0) X
          rw [hL] at hO hll HRES
          rw [← hll] at HRES
          clear hL HO hll
          obtain ⟨Ao, co, eo, hco, hro⟩ := Kd.R_reads hO
          subst eo
          have HO5 := Aside0.mk hO
          clear hO hro
          by_cases k1 : a4 < 0
          · by_cases k2 : 0 < L.length
            · have k3 : (0 : Int) < (L.length : Int) := by omega
              obtain ⟨i0116, hi0116, _, hsz116, _⟩ := info_parts info26
              have hcut := cut_to (P := Try.prog) 36 26 .i64 Try.underlying36 hi0116 Ao L.length co (0) (by omega) (by omega) hco
              have hr9 := Kd.R_take (m := (0 : Int).toNat) HO5.out (by omega)
              have hm9 : (0 : Int).toNat = min L.length (max a4 0).toNat := by omega
              have hy9 : (L.take (0 : Int).toNat) = r := by rw [hm9]; exact HRES.out
              rw [hy9] at hr9
              have HR9 := Aside0.mk hr9
              clear hr9 hy9 hm9 hi0116 hsz116
              go_wp2
              go_ret
              exact ⟨_, rfl, Kd.R_lower (Kd.R_mono HR9.out (fun _ _ => trivial)) (Nat.le_trans HB.out.size HB1.out.size), (HB.out.trans (HB1.out.mono HB.out.size)).trans (HB5.out.mono (Nat.le_trans HB.out.size HB1.out.size))⟩
            · have k3 : ¬ (0 : Int) < (L.length : Int) := by omega
              obtain ⟨i0116, hi0116, _, hsz116, _⟩ := info_parts info26
              have hcut := cut_to (P := Try.prog) 36 26 .i64 Try.underlying36 hi0116 Ao L.length co ((L.length : Int)) (by omega) (by omega) hco
              have hr9 := Kd.R_take (m := ((L.length : Int) : Int).toNat) HO5.out (by omega)
              have hm9 : ((L.length : Int) : Int).toNat = min L.length (max a4 0).toNat := by omega
              have hy9 : (L.take ((L.length : Int) : Int).toNat) = r := by rw [hm9]; exact HRES.out
              rw [hy9] at hr9
              have HR9 := Aside0.mk hr9
              clear hr9 hy9 hm9 hi0116 hsz116
              go_wp2
              go_ret
              exact ⟨_, rfl, Kd.R_lower (Kd.R_mono HR9.out (fun _ _ => trivial)) (Nat.le_trans HB.out.size HB1.out.size), (HB.out.trans (HB1.out.mono HB.out.size)).trans (HB5.out.mono (Nat.le_trans HB.out.size HB1.out.size))⟩
          · by_cases k2 : a4 < (L.length : Int)
            · have k4 : 0 ≤ a4 := by omega
              obtain ⟨i0116, hi0116, _, hsz116, _⟩ := info_parts info26
              have hcut := cut_to (P := Try.prog) 36 26 .i64 Try.underlying36 hi0116 Ao L.length co (a4) (by omega) (by omega) hco
              have hr9 := Kd.R_take (m := (a4 : Int).toNat) HO5.out (by omega)
              have hm9 : (a4 : Int).toNat = min L.length (max a4 0).toNat := by omega
              have hy9 : (L.take (a4 : Int).toNat) = r := by rw [hm9]; exact HRES.out
              rw [hy9] at hr9
              have HR9 := Aside0.mk hr9
              clear hr9 hy9 hm9 hi0116 hsz116
              go_wp2
              go_ret
              exact ⟨_, rfl, Kd.R_lower (Kd.R_mono HR9.out (fun _ _ => trivial)) (Nat.le_trans HB.out.size HB1.out.size), (HB.out.trans (HB1.out.mono HB.out.size)).trans (HB5.out.mono (Nat.le_trans HB.out.size HB1.out.size))⟩
            · have k4 : 0 ≤ a4 := by omega
              obtain ⟨i0116, hi0116, _, hsz116, _⟩ := info_parts info26
              have hcut := cut_to (P := Try.prog) 36 26 .i64 Try.underlying36 hi0116 Ao L.length co ((L.length : Int)) (by omega) (by omega) hco
              have hr9 := Kd.R_take (m := ((L.length : Int) : Int).toNat) HO5.out (by omega)
              have hm9 : ((L.length : Int) : Int).toNat = min L.length (max a4 0).toNat := by omega
              have hy9 : (L.take ((L.length : Int) : Int).toNat) = r := by rw [hm9]; exact HRES.out
              rw [hy9] at hr9
              have HR9 := Aside0.mk hr9
              clear hr9 hy9 hm9 hi0116 hsz116
              go_wp2
              go_ret
              exact ⟨_, rfl, Kd.R_lower (Kd.R_mono HR9.out (fun _ _ => trivial)) (Nat.le_trans HB.out.size HB1.out.size), (HB.out.trans (HB1.out.mono HB.out.size)).trans (HB5.out.mono (Nat.le_trans HB.out.size HB1.out.size))⟩


end Go.Proofs.Ytnnhmceaoobihaa.P
