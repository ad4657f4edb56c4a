/- Mine. Chapters 22 and 23, by hand (turned from chapter 21): New, Missing, Size, Add of the parts. -/
import Derived.Test.YtaeelmkpjgmdlaaHPA
namespace Go.Proofs.Ytaeelmkpjgmdlaa.H
open Go Go.Proofs Go.RowKit Go.Lib Go.Proofs.Ytaeelmkpjgmdlaa.P Go.Proofs.YtaeelmkpjgmdlaaW.PrintWords Go.Proofs.YtaeelmkpjgmdlaaW.PrintLast Go.Proofs.YtaeelmkpjgmdlaaW.PrintMore Go.Proofs.YtaeelmkpjgmdlaaW.PrintFlat
set_option linter.unusedVariables false
set_option linter.unusedSimpArgs false
theorem i5 : (Try.prog.info? 5).map (fun i => (i.zero, i.size, i.bytes)) = some (some (.int .u8 0), 1, 1) := by kernel_rfl
set_option maxHeartbeats 1000000 in
set_option maxRecDepth 100000 in
theorem clone_calls (A0 : Option Addr) (c0 : Nat) (l0 : List Int) (w : World) (hr0 : Kd.C (Kd.int .u8) w A0 l0.length l0) (hc0 : l0.length ≤ c0) (hb : l0.length * 1 ≤ 140737488355328) :
    Calls Try.prog 62 #[.slice A0 l0.length c0] w fun e w' => ∃ v0_ : Value, e = .returned v0_ ∧ Kd.R (Kd.int .u8) 5 w' w.heap.size (fun _ => True) v0_ l0 ∧ Below w.heap.size w w' := by
  have q22 : ∀ (w : World) (a : Option Addr) (n c n' c' : Nat), (binOp .eql 36 (.slice a n c) (.slice none n' c')).run Try.prog w = .ok (.bool a.isNone) w := fun w a n c n' c' => Lib.run_eql_slice_nil w _ _ a n c n' c' Try.underlying36
  cases A0 with
  | none =>
    obtain rfl : l0 = [] := by
      rcases Nat.eq_zero_or_pos l0.length with h0 | h0
      · exact List.eq_nil_of_length_eq_zero h0
      · obtain ⟨_, h1, _⟩ := hr0.2.2 h0
        cases h1
    clear hr0 hc0 hb
    go_enter Try.func62, Try.ntmps62
    go_wp2
    go_ret
    exact ⟨_, rfl, Kd.R_nil _ _ _ _ _, Below.refl _ _⟩
  | some a0 =>
    have HR := Aside0.mk (show ReadsRow ((Kd.int .u8).K w) 1 (w.alloc (.cells #[] 5)) (some a0) l0.length l0 from hr0.imp_ (below_alloc (Below.refl _ _) _) (fun _ _ h => h))
    have HL := Aside0.mk hb
    have HO := Aside0.mk (show Kd.R (Kd.int .u8) 5 (w.alloc (.cells #[] 5)) w.heap.size (fun _ => True) (.slice (some ⟨w.heap.size, 0, none⟩) 0 0) [] from ⟨fun _ _ => trivial, [], World.ownsRow_made w #[] 0 (Nat.le_refl _) (by decide) (by simp), Reps.none _ _⟩)
    have HB := Aside0.mk (below_alloc (Below.refl w.heap.size w) (.cells #[] 5))
    clear hr0 hc0 hb
    go_enter Try.func62, Try.ntmps62
    go_wp2_with (at_builtin; refine Kd.R_append_rows (Kd.int .u8) (Rr := (Kd.int .u8).K w) w.heap.size rfl _ _ 36 5 _ 1 rfl Try.underlying36 i5 rfl (by decide) (by decide) _ [] l0 _ _ _ (fun _ => True) (fun _ => False) rfl rfl HO.out HR.out (fun _ _ h => h) (fun _ h => h.elim) (fun _ _ => trivial) HB.out (by simp) (by simpa using HL.out) ?_; intro v1 w1 hown hB hg hat)
    go_wp2
    go_ret
    exact ⟨v1, rfl, hown, hB⟩
theorem skip_step {P : Program} {o : Oper} {ops : Array Oper} {a : Act} {W w1 : World} {Kc : Act → World → Prop} {Q : Exit → Act → World → Prop} (hw : Region.wanted o (yielded ops a.tmps) = true) (hrun : (execOp a.eval o).run P W = .ok .skip w1) (h : Kc (a.put o.dst undef) w1) : if Region.wanted o (yielded ops a.tmps) = true then Oper.wp P o a W Kc Q else Kc (a.put o.dst undef) W := by
  rw [if_pos hw]
  unfold Oper.wp
  rw [hrun]
  exact h
theorem map_below {W W' : World} {b n : Nat} {D : DataW Value} (h : W.ownsMap Try.prog 3 RV b n D) (hb : Below W.heap.size W W') : W'.ownsMap Try.prog 3 RV b n D := by
  have hlt := h.lt
  obtain ⟨es, clock, h1, r⟩ := h
  exact ⟨es, clock, (hb.block b hlt).trans h1, r⟩
set_option maxRecDepth 100000 in
set_option maxHeartbeats 1000000 in
theorem missing_calls {own : Nat → Prop} {p b : Nat} {c : Int} {qs : List Q} {W : World} (h : CS own p b c qs W) (hc : c ≤ 65535) (hc0 : 0 ≤ c) (hl : qs.length ≤ 65535) :
    Calls Try.prog 64 #[.pointer (some ⟨p, 0, none⟩)] W fun e w' => e = .returned (.int .i64 (c - qs.length)) ∧ Below W.heap.size W w' := by
  obtain ⟨g0, g1, g2, g3, _⟩ := h.cells
  have hmp := Aside0.mk h.mp
  have hh := size_DD qs h.nd
  have HB := Aside0.mk (Below.refl W.heap.size W)
  have hw : wrap64 (c - (qs.length : Int)) = c - (qs.length : Int) := by unfold wrap64; omega
  clear h
  go_enter Try.func64, Try.ntmps64
  go_wp2
  have HS : (fun V : World => V.cell? ⟨p, 1, none⟩ = some (.int .i64 c) ∧ V.cell? ⟨p, 3, none⟩ = some (.map (some b)) ∧ V.ownsMap Try.prog 3 RV b qs.length (DD qs)) W.drew := ⟨g1, g3, hmp.out.drew⟩
  refine start_ (n := 11) (S := fun V : World => V.cell? ⟨p, 1, none⟩ = some (.int .i64 c) ∧ V.cell? ⟨p, 3, none⟩ = some (.map (some b)) ∧ V.ownsMap Try.prog 3 RV b qs.length (DD qs)) (ds := []) #[false, false, false, false, false, false, false, false, false, false, false] (by kernel_rfl) rfl rfl HS (fun hHeld => ?_)
  clear HS
  refine pure_ (i := 0) (N := some 5) (v := ?_) (a' := ?_) #[true, false, false, false, false, false, false, false, false, false, false] rfl rfl (by kernel_rfl) (fun _ _ _ h => h) (Or.inl ⟨by rfl, ?_⟩) ?_ ?_
  rotate_left
  · intro w'
    go_simp
    with_reducible rfl
  rotate_left
  · simp only [Act.put, List.setIfInBounds_toArray, List.set_cons_zero, List.set_cons_succ, i64_w, i32_w]
    rfl
  refine pure_ (i := 1) (N := some 6) (v := ?_) (a' := ?_) #[true, true, false, false, false, false, false, false, false, false, false] rfl rfl (by kernel_rfl) (fun _ _ _ h => h) (Or.inl ⟨by rfl, ?_⟩) ?_ ?_
  rotate_left
  · intro w'
    go_simp
    with_reducible rfl
  rotate_left
  · simp only [Act.put, List.setIfInBounds_toArray, List.set_cons_zero, List.set_cons_succ, i64_w, i32_w]
    rfl
  refine pure_ (i := 2) (N := some 7) (v := ?_) (a' := ?_) #[true, true, true, false, false, false, false, false, false, false, false] rfl rfl (by kernel_rfl) (fun _ _ _ h => h) (Or.inl ⟨by rfl, ?_⟩) ?_ ?_
  rotate_left
  · intro w'
    go_simp
    with_reducible rfl
  rotate_left
  · simp only [Act.put, List.setIfInBounds_toArray, List.set_cons_zero, List.set_cons_succ, i64_w, i32_w]
    rfl
  refine take_ (i := 3) (N := some 8) (v := ?_) (a' := ?_) #[true, true, true, true, false, false, false, false, false, false, false] rfl rfl (by kernel_rfl) (fun _ _ _ h => h) (Or.inl ⟨by rfl, ?_⟩) hHeld ?_ ?_
  rotate_left
  · rintro w' ⟨s0, s1, s2⟩; have hl_ := fun ty => World.ownsMap.len s2 Try.underlying116 ty; rw [hh] at hl_
    go_simp
    with_reducible rfl
  rotate_left
  · simp only [Act.put, List.setIfInBounds_toArray, List.set_cons_zero, List.set_cons_succ, i64_w, i32_w]
    rfl
  refine pure_ (i := 4) (N := some 9) (v := ?_) (a' := ?_) #[true, true, true, true, true, false, false, false, false, false, false] rfl rfl (by kernel_rfl) (fun _ _ _ h => h) (Or.inl ⟨by rfl, ?_⟩) ?_ ?_
  rotate_left
  · intro w'
    go_simp
    with_reducible rfl
  rotate_left
  · simp only [Act.put, List.setIfInBounds_toArray, List.set_cons_zero, List.set_cons_succ, i64_w, i32_w]
    rfl
  refine pure_ (i := 5) (N := some 10) (v := ?_) (a' := ?_) #[true, true, true, true, true, true, false, false, false, false, false] rfl rfl (by kernel_rfl) (fun _ _ _ h => h) (Or.inl ⟨by rfl, ?_⟩) ?_ ?_
  rotate_left
  · intro w'
    go_simp
    with_reducible rfl
  rotate_left
  · simp only [Act.put, List.setIfInBounds_toArray, List.set_cons_zero, List.set_cons_succ, i64_w, i32_w]
    rfl
  refine pure_ (i := 6) (N := some 11) (v := ?_) (a' := ?_) #[true, true, true, true, true, true, true, false, false, false, false] rfl rfl (by kernel_rfl) (fun _ _ _ h => h) (Or.inl ⟨by rfl, ?_⟩) ?_ ?_
  rotate_left
  · intro w'
    go_simp
    with_reducible rfl
  rotate_left
  · simp only [Act.put, List.setIfInBounds_toArray, List.set_cons_zero, List.set_cons_succ, i64_w, i32_w]
    rfl
  refine take_ (i := 7) (N := some 12) (v := ?_) (a' := ?_) #[true, true, true, true, true, true, true, true, false, false, false] rfl rfl (by kernel_rfl) (fun _ _ _ h => h) (Or.inl ⟨by rfl, ?_⟩) hHeld ?_ ?_
  rotate_left
  · rintro w' ⟨s0, s1, s2⟩; have hl_ := fun ty => World.ownsMap.len s2 Try.underlying116 ty; rw [hh] at hl_
    go_simp
    with_reducible rfl
  rotate_left
  · simp only [Act.put, List.setIfInBounds_toArray, List.set_cons_zero, List.set_cons_succ, i64_w, i32_w]
    rfl
  refine take_ (i := 8) (N := some 13) (v := ?_) (a' := ?_) #[true, true, true, true, true, true, true, true, true, false, false] rfl rfl (by kernel_rfl) (fun _ _ _ h => h) (Or.inl ⟨by rfl, ?_⟩) hHeld ?_ ?_
  rotate_left
  · rintro w' ⟨s0, s1, s2⟩; have hl_ := fun ty => World.ownsMap.len s2 Try.underlying116 ty; rw [hh] at hl_
    go_simp
    with_reducible rfl
  rotate_left
  · simp only [Act.put, List.setIfInBounds_toArray, List.set_cons_zero, List.set_cons_succ, i64_w, i32_w]
    rfl
  refine pure_ (i := 9) (N := some 14) (v := ?_) (a' := ?_) #[true, true, true, true, true, true, true, true, true, true, false] rfl rfl (by kernel_rfl) (fun _ _ _ h => h) (Or.inl ⟨by rfl, ?_⟩) ?_ ?_
  rotate_left
  · intro w'
    go_simp
    with_reducible rfl
  rotate_left
  · simp only [Act.put, List.setIfInBounds_toArray, List.set_cons_zero, List.set_cons_succ, i64_w, i32_w]
    rfl
  refine pure_ (i := 10) (N := some 2) (v := ?_) (a' := ?_) #[true, true, true, true, true, true, true, true, true, true, true] rfl rfl (by kernel_rfl) (fun _ _ _ h => h) (Or.inl ⟨by rfl, ?_⟩) ?_ ?_
  rotate_left
  · intro w'
    go_simp
    with_reducible rfl
  rotate_left
  · simp only [Act.put, List.setIfInBounds_toArray, List.set_cons_zero, List.set_cons_succ, i64_w, i32_w]
    rfl
  refine done_ (by kernel_rfl) ?_
  go_wp2
  rw [hw]
  go_ret
  exact ⟨rfl, HB.out.drew⟩
set_option maxRecDepth 100000 in
set_option maxHeartbeats 1000000 in
theorem size_calls {own : Nat → Prop} {p b : Nat} {c : Int} {qs : List Q} {W : World} (h : CS own p b c qs W) :
    Calls Try.prog 42 #[.pointer (some ⟨p, 0, none⟩)] W fun e w' => e = .returned (.int .i64 (tot qs)) ∧ Below W.heap.size W w' := by
  obtain ⟨g0, g1, g2, g3, _⟩ := h.cells
  have HB := Aside0.mk (Below.refl W.heap.size W)
  clear h
  go_enter Try.func42, Try.ntmps42
  go_wp2
  go_ret
  exact ⟨rfl, HB.out⟩
def NewP (c : Int) (W : World) (e : Ending) (w' : World) : Prop := Below W.heap.size W w' ∧ ((1 ≤ c ∧ c ≤ 65535 ∧ ∃ p b, e = .returned (.tuple #[.pointer (some ⟨p, 0, none⟩), .int .i64 0]) ∧ W.heap.size ≤ p ∧ W.heap.size ≤ b ∧ CS (fun k => k = p ∨ k = b) p b c [] w') ∨ ((c < 1 ∨ c > 65535) ∧ e = .returned (.tuple #[.pointer none, .int .i64 1])))
set_option maxRecDepth 100000 in
set_option maxHeartbeats 1000000 in
theorem new_calls (c : Int) (W : World) : Calls Try.prog 60 #[.int .i64 c] W (NewP c W) := by
  have HB := Aside0.mk (Below.refl W.heap.size W)
  by_cases h1 : c < 1
  · go_enter Try.func60, Try.ntmps60
    go_wp2
    go_ret2
    exact ⟨HB.out, .inr ⟨.inl h1, rfl⟩⟩
  · by_cases h2 : 65535 < c
    · go_enter Try.func60, Try.ntmps60
      go_wp2
      go_ret2
      exact ⟨HB.out, .inr ⟨.inr h2, rfl⟩⟩
    · go_enter Try.func60, Try.ntmps60
      go_wp2
      rw [show (Instr.makeMap 116 none).run Try.prog W = .ok (.map (some W.heap.size)) (W.alloc (.map #[] 0)) from rfl]
      simp only [Result.andThen_ok]
      go_wp2
      go_ret2
      have e1 : (W.alloc (.map #[] 0)).heap.size = W.heap.size + 1 := by simp
      refine ⟨below_alloc (below_alloc HB.out _) _, .inl ⟨by omega, by omega, W.heap.size + 1, W.heap.size, rfl, by omega, Nat.le_refl _, ?_⟩⟩
      refine ⟨.inl rfl, .inr rfl, by omega, ?_, ?_, fun x hx => by simp at hx, by simp, fun x hx => by simp at hx, fun k hk => by simp; omega⟩
      · have := heap_alloc_new (W.alloc (.map #[] 0)) (.cells #[.bool true, .int .i64 c, .int .i64 0, .map (some W.heap.size)] 118)
        rw [e1] at this
        exact this
      · exact (World.ownsMap_made W Try.prog 3 RV).alloc _
def AddP (own : Nat → Prop) (p b : Nat) (c : Int) (qs : List Q) (W : World) (i : Int) (l : List Int) (e : Ending) (w' : World) : Prop := Fr own W w' ∧
      (((i < 0 ∨ c ≤ i) ∧ e = .returned (.int .i64 1) ∧ CS own p b c qs w') ∨
       ((0 ≤ i ∧ i < c) ∧ (qs.any fun x => x.i == i) = true ∧ e = .returned (.int .i64 12) ∧ CS own p b c qs w') ∨
       ((0 ≤ i ∧ i < c) ∧ (qs.any fun x => x.i == i) = false ∧ e = .returned (.int .i64 0) ∧ ∃ v, CS (fun k => own k ∨ W.heap.size ≤ k ∧ k < w'.heap.size) p b c (qs ++ [⟨i, v, l⟩]) w'))
set_option maxRecDepth 100000 in
set_option maxHeartbeats 4000000 in
theorem add_calls {own : Nat → Prop} {p b : Nat} {c : Int} {qs : List Q} {W : World} (h : CS own p b c qs W) (i : Int) (hi : (Lit.int .i64 i).wf = true) (A : Option Addr) (cp : Nat) (l : List Int) (hcp : l.length ≤ cp)
    (hbody : ∀ V, Fr own W V → Kd.C (Kd.int .u8) V A l.length l) (hl : l.length ≤ 140737488355328) (ht0 : 0 ≤ tot qs) (ht : tot qs ≤ 4611686018427387904) (hq : qs.length ≤ 65535) :
    Calls Try.prog 33 #[.pointer (some ⟨p, 0, none⟩), .int .i64 i, .slice A l.length cp] W (AddP own p b c qs W i l) := by
  obtain ⟨g0, g1, g2, g3, _⟩ := h.cells
  have HH := Aside0.mk h
  have HFR := Aside0.mk (Fr.refl own W)
  by_cases hi0 : i < 0
  · clear h
    go_enter Try.func33, Try.ntmps33
    go_wp2
    go_ret
    exact ⟨HFR.out, .inl ⟨.inl hi0, rfl, HH.out⟩⟩
  by_cases hi1 : c ≤ i
  · clear h
    go_enter Try.func33, Try.ntmps33
    go_wp2
    go_ret
    exact ⟨HFR.out, .inl ⟨.inr hi1, rfl, HH.out⟩⟩
  have hi2 : ¬ (i ≥ c) := hi1
  have hhas := has_calls h i hi
  have HHAS := Aside0.mk hhas
  clear hhas
  cases hany : (qs.any fun x => x.i == i) with
  | true =>
    rw [hany] at HHAS
    have HA := Aside0.mk hany
    clear h hany
    go_enter Try.func33, Try.ntmps33
    go_wp2_with (first | (go_at_call 58; refine HHAS.out.mono ?_; rintro e w1 ⟨rfl, hb1⟩; have HB1 := Aside0.mk hb1; clear hb1) | go_in)
    go_ret
    exact ⟨Fr.of_below HB1.out, .inr (.inl ⟨by omega, HA.out, rfl, HH.out.frame (S := fun _ => False) (Fr.of_below HB1.out) (fun _ _ h => h)⟩)⟩
  | false =>
    rw [hany] at HHAS
    have HA := Aside0.mk hany
    have HBODY := Aside0.mk hbody
    have HT := Aside0.mk (And.intro ht0 (And.intro ht (And.intro hl hq)))
    have HIC := Aside0.mk (And.intro (Int.not_lt.1 hi0) (Int.not_le.1 hi1))
    have HCP := Aside0.mk hcp
    have HKEY := Aside0.mk (Maps.keyOf_int_mk (P := Try.prog) Try.underlying3 hi)
    have HN : Aside0 (qs.length < maxLen) := ⟨by unfold maxLen; omega⟩
    clear h hany hbody ht ht0 hl hq hcp
    go_enter Try.func33, Try.ntmps33
    go_wp2_with (first | (go_at_call 58; refine HHAS.out.mono ?_; rintro e w1 ⟨rfl, hb1⟩; have HB1 := Aside0.mk hb1; clear hb1) | go_in)
    have hF1 : Fr own W w1 := Fr.of_below HB1.out
    have hp3 : w1.cell? ⟨p, 3, none⟩ = some (.map (some b)) := (HB1.out.cell (World.block_lt_of_cell? _ _ g3)).trans g3
    have HS : (fun V : World => Fr own W V ∧ V.cell? ⟨p, 3, none⟩ = some (.map (some b))) w1.drew := ⟨⟨hF1.os, hF1.tape, hF1.output, hF1.size, hF1.block⟩, hp3⟩
    have HCL : Aside0 (∀ V, Fr own W V → Calls Try.prog 62 #[.slice A l.length cp] V fun e w' => ∃ v0_ : Value, e = .returned v0_ ∧ Kd.R (Kd.int .u8) 5 w' V.heap.size (fun _ => True) v0_ l ∧ Below V.heap.size V w') := ⟨fun V hV => clone_calls A cp l V (HBODY.out V hV) HCP.out (by have := HT.out.2.2.1; omega)⟩
    have HS2 : Aside0 (∀ V w2 : World, (fun V : World => Fr own W V ∧ V.cell? ⟨p, 3, none⟩ = some (.map (some b))) V → Below V.heap.size V w2 → (fun V : World => Fr own W V ∧ V.cell? ⟨p, 3, none⟩ = some (.map (some b))) w2) := ⟨fun V w2 hV hb => ⟨hV.1.then_ (Fr.of_below (own := own) hb) (fun _ _ h => h), (hb.cell (World.block_lt_of_cell? _ _ hV.2)).trans hV.2⟩⟩
    have HS3 : Aside0 (∀ V w3 : World, (fun V : World => Fr own W V ∧ V.cell? ⟨p, 3, none⟩ = some (.map (some b))) V → V.mapTurned w3 b → (fun V : World => Fr own W V ∧ V.cell? ⟨p, 3, none⟩ = some (.map (some b))) w3) := ⟨fun V w3 hV hb => ⟨hV.1.then_ (Fr.of_grown (own := own) hb.grown HH.out.ob) (fun _ _ h => h), by
      rw [World.cell?_of_block (w := V) (hb.grown.block p (World.block_lt_of_cell? _ _ hV.2) (fun e => HH.out.ne (by cases e; rfl)))]; exact hV.2⟩⟩
    have HMP : Aside0 (w1.drew.ownsMap Try.prog 3 RV b qs.length (DD qs)) := ⟨(map_below HH.out.mp HB1.out).drew⟩
    clear hF1 hp3
    refine start_ (n := 8) (S := fun V : World => Fr own W V ∧ V.cell? ⟨p, 3, none⟩ = some (.map (some b))) (ds := []) #[false, false, false, false, false, false, false, false] (by kernel_rfl) rfl rfl HS (fun hHeld => ?_)
    clear HS
    refine pure_ (i := 0) (N := some 24) (v := ?_) (a' := ?_) #[true, false, false, false, false, false, false, false] rfl rfl (by kernel_rfl) (fun _ _ _ h => h) (Or.inl ⟨by rfl, ?_⟩) ?_ ?_
    rotate_left
    · intro w'
      go_simp
      with_reducible rfl
    rotate_left
    · simp only [Act.put, List.setIfInBounds_toArray, List.set_cons_zero, List.set_cons_succ, i64_w, i32_w]
      rfl
    refine pure_ (i := 1) (N := some 25) (v := ?_) (a' := ?_) #[true, true, false, false, false, false, false, false] rfl rfl (by kernel_rfl) (fun _ _ _ h => h) (Or.inl ⟨by rfl, ?_⟩) ?_ ?_
    rotate_left
    · intro w'
      go_simp
      with_reducible rfl
    rotate_left
    · simp only [Act.put, List.setIfInBounds_toArray, List.set_cons_zero, List.set_cons_succ, i64_w, i32_w]
      rfl
    refine pure_ (i := 2) (N := some 26) (v := ?_) (a' := ?_) #[true, true, true, false, false, false, false, false] rfl rfl (by kernel_rfl) (fun _ _ _ h => h) (Or.inl ⟨by rfl, ?_⟩) ?_ ?_
    rotate_left
    · intro w'
      go_simp
      with_reducible rfl
    rotate_left
    · simp only [Act.put, List.setIfInBounds_toArray, List.set_cons_zero, List.set_cons_succ, i64_w, i32_w]
      rfl
    refine take_ (i := 3) (N := some 27) (v := ?_) (a' := ?_) #[true, true, true, true, false, false, false, false] rfl rfl (by kernel_rfl) (fun _ _ _ h => h) (Or.inl ⟨by rfl, ?_⟩) hHeld ?_ ?_
    rotate_left
    · rintro w' ⟨s0, s1⟩
      go_simp
      with_reducible rfl
    rotate_left
    · simp only [Act.put, List.setIfInBounds_toArray, List.set_cons_zero, List.set_cons_succ, i64_w, i32_w]
      rfl
    refine pure_ (i := 4) (N := some 28) (v := ?_) (a' := ?_) #[true, true, true, true, true, false, false, false] rfl rfl (by kernel_rfl) (fun _ _ _ h => h) (Or.inl ⟨by rfl, ?_⟩) ?_ ?_
    rotate_left
    · intro w'
      go_simp
      with_reducible rfl
    rotate_left
    · simp only [Act.put, List.setIfInBounds_toArray, List.set_cons_zero, List.set_cons_succ, i64_w, i32_w]
      rfl
    refine pure_ (i := 5) (N := some 29) (v := ?_) (a' := ?_) #[true, true, true, true, true, true, false, false] rfl rfl (by kernel_rfl) (fun _ _ _ h => h) (Or.inl ⟨by rfl, ?_⟩) ?_ ?_
    rotate_left
    · intro w'
      go_simp
      with_reducible rfl
    rotate_left
    · simp only [Act.put, List.setIfInBounds_toArray, List.set_cons_zero, List.set_cons_succ, i64_w, i32_w]
      rfl
    refine one_ (i := 6) (N := some 30) #[true, true, true, true, true, true, true, false] rfl rfl (by kernel_rfl) (by decide) (fun K hK => ?_)
    refine goes_ Try.func62 (by kernel_rfl) rfl #[.slice A l.length cp] (by rfl) rfl rfl (by (try simp only [List.map_toArray, List.map_cons, List.map_nil]); first | done | rfl) ?_
    refine (HCL.out _ hHeld.1).mono ?_
    rintro e w2 ⟨v2, rfl, hO2, hb2⟩
    refine ⟨_, rfl, ?_⟩
    have hS2 := HS2.out _ _ hHeld hb2
    have hm2 := map_below HMP.out hb2
    have HM2 := Aside0.mk hm2
    clear hm2
    refine hK.out _ _ hS2 (fun hHeld2 => ?_)
    have HO2 := Aside0.mk hO2
    have HBb := Aside0.mk hb2
    clear hO2 hb2 hHeld hS2
    clear hK K
    refine norm_ (a' := ?_) ?_ ?_
    rotate_left
    · show Act.put _ (some 30) _ = _
      simp only [Act.put, List.setIfInBounds_toArray, List.set_cons_zero, List.set_cons_succ, i64_w, i32_w]
      rfl
    refine one_ (i := 7) (N := none) #[true, true, true, true, true, true, true, true] rfl rfl (by kernel_rfl) (by decide) (fun K hK => ?_)
    obtain ⟨w3, hrun, r1, r2⟩ := HM2.out.store (Maps.int_keyed Try.underlying3) Try.underlying116 HN.out HKEY.out (show RV v2 = some (.held v2, []) from rfl)
    refine skip_step (by rfl) (w1 := w3) (by simp [execOp, Act.eval, hrun, Result.andThen]) ?_
    have hS3 := HS3.out _ _ hHeld2 r2
    refine hK.out _ _ hS3 (fun hHeld3 => ?_)
    have HR1 := Aside0.mk r1
    have HR2 := Aside0.mk r2
    clear r1 r2 hrun hS3 hHeld2
    clear hK K
    refine norm_ (a' := ?_) ?_ ?_
    rotate_left
    · show Act.put _ (none) _ = _
      simp only [Act.put, List.setIfInBounds_toArray, List.set_cons_zero, List.set_cons_succ, i64_w, i32_w]
      rfl
    refine done_ (by kernel_rfl) ?_
    have hp2 : w3.heap[p]? = some (.cells #[.bool true, .int .i64 c, .int .i64 (tot qs), .map (some b)] 118 (0, 0)) := by
      have e1 := HR2.out.grown.block p (by have h1 := World.block_lt_of_cell? _ _ g3; exact Nat.lt_of_lt_of_le (Nat.lt_of_lt_of_le h1 HB1.out.size) HBb.out.size) (fun e => HH.out.ne (by cases e; rfl))
      rw [e1, HBb.out.block p (Nat.lt_of_lt_of_le (World.block_lt_of_cell? _ _ g3) HB1.out.size)]
      exact (HB1.out.block p (World.block_lt_of_cell? _ _ g3)).trans HH.out.st
    have HP2 := Aside0.mk hp2
    have k0 : w3.cell? ⟨p, 2, none⟩ = some (.int .i64 (tot qs)) := by unfold World.cell?; rw [hp2]; rfl
    have k1 : w3.frozen? ⟨p, 2, none⟩ = false := by unfold World.frozen?; rw [hp2]; simp
    have hwr : wrap64 (tot qs + (l.length : Int)) = tot qs + (l.length : Int) := by have := HT.out; unfold wrap64; omega
    clear hp2
    go_wp2
    go_ret
    have hS := hHeld3.1
    have hb1 := HB1.out
    have hb2 : Below w1.heap.size w1 w2 := ⟨HBb.out.os, HBb.out.tape, HBb.out.output, HBb.out.size, HBb.out.block⟩
    have hb3 := HR2.out.grown
    have hz3 : (w3.setCell ⟨p, 2, none⟩ (.int .i64 (tot qs + (l.length : Int)))).heap.size = w3.heap.size := by simp [World.setCell]
    have hne := HH.out.ne
    have hmove : ∀ k, k < W.heap.size → k ≠ p → k ≠ b → (w3.setCell ⟨p, 2, none⟩ (.int .i64 (tot qs + (l.length : Int)))).heap[k]? = W.heap[k]? := fun k hk h1 h2 => by
      rw [Below.heap_setCell _ _ _ _ h1, hb3.block k (Nat.lt_of_lt_of_le (Nat.lt_of_lt_of_le hk hb1.size) hb2.size) (fun e => h2 (by cases e; rfl)), hb2.block k (Nat.lt_of_lt_of_le hk hb1.size), hb1.block k hk]
    have hmove2 : ∀ k, k < w2.heap.size → k ≠ p → k ≠ b → (w3.setCell ⟨p, 2, none⟩ (.int .i64 (tot qs + (l.length : Int)))).heap[k]? = w2.heap[k]? := fun k hk h1 h2 => by
      rw [Below.heap_setCell _ _ _ _ h1, hb3.block k hk (fun e => h2 (by cases e; rfl))]
    refine ⟨⟨hS.os, hS.tape, hS.output, by rw [hz3]; exact hS.size, fun k hk ho => ?_⟩, .inr (.inr ⟨HIC.out, HA.out, rfl, v2, ?_⟩)⟩
    · rw [Below.heap_setCell _ _ _ _ (fun e => ho (by rw [e]; exact HH.out.op))]
      exact hS.block k hk ho
    · have hpl := HH.out.lt p HH.out.op
      have hbl := HH.out.lt b HH.out.ob
      refine ⟨.inl HH.out.op, .inl HH.out.ob, hne, ?_, ?_, ?_, ?_, ?_, ?_⟩
      · have h1 := blk_set HP2.out 2 (.int .i64 (tot qs + (l.length : Int)))
        rw [h1]
        simp [tot]
      · rw [DD_snoc, List.length_append, List.length_singleton]
        exact HR1.out.setCell (fun e => hne e.symm) _
      · intro x hx
        rcases List.mem_append.1 hx with hx | hx
        · exact Kd.R_mono (Kd.R_step (HH.out.el x hx) (fun k hk hlt => hmove k hlt hk.2.1 hk.2.2)) (fun k hk => ⟨.inl hk.1, hk.2⟩)
        · obtain rfl : x = ⟨i, v2, l⟩ := by simpa using hx
          have h1 := Kd.R_bound HO2.out
          have h2 : Kd.R (Kd.int .u8) 5 w2 0 (fun k => (own k ∨ W.heap.size ≤ k ∧ k < w3.heap.size) ∧ k ≠ p ∧ k ≠ b) v2 l := Kd.R_lower (Kd.R_mono h1 (fun k hk => by
            obtain ⟨_, h3, h4, _⟩ := hk
            have h5 : W.heap.size ≤ k := Nat.le_trans hb1.size h3
            exact ⟨.inr ⟨h5, Nat.lt_of_lt_of_le h4 hb3.size⟩, by omega, by omega⟩)) (Nat.zero_le _)
          exact Kd.R_mono (Kd.R_step h2 (fun k hk hlt => hmove2 k hlt hk.2.1 hk.2.2)) (fun k hk => by rw [hz3]; exact hk)
      · rw [List.map_append, List.nodup_append]
        refine ⟨HH.out.nd, by simp, fun a ha c hc => ?_⟩
        obtain rfl : c = i := by simpa using hc
        obtain ⟨y, hy, rfl⟩ := List.mem_map.1 ha
        intro e
        have := HA.out
        rw [List.any_eq_false] at this
        exact this y hy (by simp [e])
      · intro x hx
        rcases List.mem_append.1 hx with hx | hx
        · exact HH.out.rg x hx
        · obtain rfl : x = ⟨i, v2, l⟩ := by simpa using hx
          exact HIC.out
      · intro k hk
        rw [hz3]
        rcases hk with hk | hk
        · exact Nat.lt_of_lt_of_le (HH.out.lt k hk) (Nat.le_trans hb1.size (Nat.le_trans hb2.size hb3.size))
        · rw [hz3] at hk; exact hk.2
#print axioms new_calls
#print axioms missing_calls
#print axioms size_calls
#print axioms add_calls
end Go.Proofs.Ytaeelmkpjgmdlaa.H
