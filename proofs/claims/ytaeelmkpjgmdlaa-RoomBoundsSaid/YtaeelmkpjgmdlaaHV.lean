/- Mine. Chapter 22, by hand: fit of the table. -/
import Derived.Test.YtaeelmkpjgmdlaaHU
namespace Go.Proofs.Ytaeelmkpjgmdlaa.H
open Go Go.Proofs Go.RowKit Go.Lib Go.Proofs.Ytaeelmkpjgmdlaa.P Go.Proofs.YtaeelmkpjgmdlaaW.PrintWords Go.Proofs.YtaeelmkpjgmdlaaW.PrintLast Go.Proofs.YtaeelmkpjgmdlaaW.PrintMore Go.Proofs.YtaeelmkpjgmdlaaW.PrintFlat
set_option linter.unusedVariables false
set_option linter.unusedSimpArgs false
/-- The one that stays is no more than may be. -/
def Fits (L : Room.Lim) (f e i : Int) (os : List Room.OA) : Prop := Room.held (os.filter (Room.isK f e i)) ≤ L.by_
theorem filter_all {α : Type} {p : α → Bool} : ∀ {l : List α}, (∀ x ∈ l, p x = true) → l.filter p = l := fun h => List.filter_eq_self.2 h
theorem Fits.some {L : Room.Lim} {f e i : Int} {os : List Room.OA} (h : Fits L f e i os) (hh : Room.held os > L.by_) : Room.idx (fun o => !Room.isK f e i o) os < os.length := by
  refine Room.idx_lt ?_
  refine Classical.byContradiction fun hn => ?_
  have hall : ∀ x ∈ os, Room.isK f e i x = true := fun x hx => by
    refine Classical.byContradiction fun hx2 => hn ⟨x, hx, by simpa using hx2⟩
  unfold Fits at h
  rw [filter_all hall] at h
  omega
theorem filter_erase {α : Type} (p : α → Bool) : ∀ (l : List α) (k : Nat) (hk : k < l.length), p l[k] = false → (l.eraseIdx k).filter p = l.filter p
  | x :: r, 0, hk, hp => by
    rw [List.getElem_cons_zero] at hp
    rw [List.eraseIdx_cons_zero, List.filter_cons, hp]
    rfl
  | x :: r, k + 1, hk, hp => by
    rw [List.getElem_cons_succ] at hp
    rw [List.eraseIdx_cons_succ, List.filter_cons, List.filter_cons, filter_erase p r k (by simpa using hk) hp]
theorem Fits.erase {L : Room.Lim} {f e i : Int} {os : List Room.OA} (h : Fits L f e i os) (hk : Room.idx (fun o => !Room.isK f e i o) os < os.length) : Fits L f e i (os.eraseIdx (Room.idx (fun o => !Room.isK f e i o) os)) := by
  unfold Fits
  rw [filter_erase (Room.isK f e i) os _ hk (by have := Room.idx_hit hk; simpa using this)]
  exact h
theorem held_erase (os : List Room.OA) (k : Nat) : Room.held (os.eraseIdx k) ≤ Room.held os := by
  induction os generalizing k with
  | nil => exact Int.le_refl _
  | cons x r ih =>
    cases k with
    | zero =>
      rw [List.eraseIdx_cons_zero, Room.held_cons]
      have := Room.size_nn x.ps
      omega
    | succ k =>
      rw [List.eraseIdx_cons_succ, Room.held_cons, Room.held_cons]
      have := ih k
      omega
theorem held_sub {a b : List Room.OA} (h : a.Sublist b) : Room.held a ≤ Room.held b := by
  induction h with
  | slnil => exact Int.le_refl _
  | cons x _ ih =>
    rw [Room.held_cons]
    have := Room.size_nn x.ps
    omega
  | cons_cons x _ ih =>
    rw [Room.held_cons, Room.held_cons]
    omega
theorem aOf_sub {a b : List OB} (h : a.Sublist b) : (aOf a).Sublist (aOf b) := h.map _
structure FitS (own : Nat → Prop) (t z : Nat) (L : Room.Lim) (f e i : Int) (os : List OB) (w V : World) : Prop where
  ts : TS own t L os V
  bx : V.heap[z]? = some (.cells #[.int .u16 f, .int .u32 e, .int .u32 i] 66 (0, 0))
  bl : Below w.heap.size w V
theorem FitS.below {own : Nat → Prop} {t z : Nat} {L : Room.Lim} {f e i : Int} {os : List OB} {w V V' : World} (h : FitS own t z L f e i os w V) (hb : Below V.heap.size V V') : FitS own t z L f e i os w V' :=
  ⟨h.ts.below hb, (hb.block _ (blk_lt h.bx)).trans h.bx, below_then h.bl h.bl.size hb⟩
set_option maxHeartbeats 4000000 in
set_option maxRecDepth 100000 in
theorem fit_calls {own : Nat → Prop} {t : Nat} {L : Room.Lim} {os : List OB} {W : World} (h : TS own t L os W) (hs : Sm L os) (f e i : Int) (hf : Fits L f e i (aOf os)) :
    Calls Try.prog 34 #[.pointer (some ⟨t, 0, none⟩), .agg #[.int .u16 f, .int .u32 e, .int .u32 i]] W fun e' w' => e' = .returned (.tuple #[]) ∧ Fr own W w' ∧ ∃ os', os'.Sublist os ∧ aOf os' = Room.fit L f e i os.length (aOf os) ∧ TS own t L os' w' := by
  obtain ⟨V, hV⟩ : ∃ V, (W.alloc (.cells #[.int .u16 f, .int .u32 e, .int .u32 i] 66)) = V := ⟨_, rfl⟩
  have hbV : Below W.heap.size W V := by rw [← hV]; exact below_alloc (Below.refl _ _) _
  have hx3 : V.heap[W.heap.size]? = some (.cells #[.int .u16 f, .int .u32 e, .int .u32 i] 66 (0, 0)) := by rw [← hV]; exact heap_alloc_new W _
  have HS := Aside0.mk hs
  have HTL := Aside0.mk h.lt
  have HST : Aside0 (∃ osr : List OB, osr.Sublist os ∧ Room.fit L f e i osr.length (aOf osr) = Room.fit L f e i os.length (aOf os) ∧ Fits L f e i (aOf osr) ∧ TS own t L osr V) := ⟨os, List.Sublist.refl _, rfl, hf, h.below hbV⟩
  have HF0 : Aside0 (Fr own W V) := ⟨Fr.of_below hbV⟩
  have HX3 := Aside0.mk hx3
  clear h hs hf hbV hx3
  go_enter Try.func34, Try.ntmps34
  go_wp2
  go_loopg [4] os.length (fun gg _ wr => ∃ osr : List OB, osr.length ≤ gg ∧ Aside0 (osr.Sublist os ∧ Room.fit L f e i osr.length (aOf osr) = Room.fit L f e i os.length (aOf os) ∧ Fits L f e i (aOf osr)) ∧ Aside0 (TS own t L osr wr) ∧ Aside0 (Fr own W wr) ∧ Aside0 (wr.heap[W.heap.size]? = some (.cells #[.int .u16 f, .int .u32 e, .int .u32 i] 66 (0, 0))))
  case atStart =>
    obtain ⟨osr, h1, h2, h3, h4⟩ := HST.out
    exact ⟨osr, h1.length_le, ⟨h1, h2, h3⟩, ⟨h4⟩, HF0, HX3⟩
  case round =>
    obtain ⟨osr, hgg, HC, HT, HF, HX⟩ := hrel
    have HLB : Aside0 (osr.length ≤ 140737488355328) := ⟨by have h1 := HC.out.1.length_le; have h2 := HS.out.1; omega⟩
    have HHB : Aside0 (Room.held (aOf osr) ≤ 4611686018427387904) := ⟨by have h1 := held_sub (aOf_sub HC.out.1); have h2 := HS.out.2.1; omega⟩
    obtain ⟨X, hX⟩ : ∃ X, wr.drew = X := ⟨_, rfl⟩
    have hs0 : FitS own t W.heap.size L f e i osr wr wr.drew := ⟨HT.out.below (Below.refl _ _).drew, HX.out, (Below.refl _ _).drew⟩
    by_cases hh : Room.held (aOf osr) > L.by_
    · go_wp2
      refine start_ (n := 8) (S := FitS own t W.heap.size L f e i osr wr) (ds := []) #[false, false, false, false, false, false, false, false] (by kernel_rfl) rfl rfl hs0 (fun hH => ?_)
      rw [hX] at hH ⊢
      clear hs0 hX
      refine pure_ (i := 0) (N := some 4) (v := ?_) (a' := ?_) #[true, false, false, false, false, false, false, false] rfl rfl (by kernel_rfl) (fun _ _ _ h => h) (Or.inl ⟨by rfl, ?_⟩) ?_ ?_
      rotate_left
      · intro w'
        go_simp
        with_reducible rfl
      rotate_left
      · simp only [Act.put, List.setIfInBounds_toArray, List.set_cons_zero, List.set_cons_succ, i64_w, i32_w]
        rfl
      refine pure_ (i := 2) (N := some 6) (v := ?_) (a' := ?_) #[true, false, true, false, false, false, false, false] rfl rfl (by kernel_rfl) (fun _ _ _ h => h) (Or.inl ⟨by rfl, ?_⟩) ?_ ?_
      rotate_left
      · intro w'
        go_simp
        with_reducible rfl
      rotate_left
      · simp only [Act.put, List.setIfInBounds_toArray, List.set_cons_zero, List.set_cons_succ, i64_w, i32_w]
        rfl
      refine pure_ (i := 3) (N := some 7) (v := ?_) (a' := ?_) #[true, false, true, true, false, false, false, false] rfl rfl (by kernel_rfl) (fun _ _ _ h => h) (Or.inl ⟨by rfl, ?_⟩) ?_ ?_
      rotate_left
      · intro w'
        go_simp
        with_reducible rfl
      rotate_left
      · simp only [Act.put, List.setIfInBounds_toArray, List.set_cons_zero, List.set_cons_succ, i64_w, i32_w]
        rfl
      refine pure_ (i := 4) (N := some 8) (v := ?_) (a' := ?_) #[true, false, true, true, true, false, false, false] rfl rfl (by kernel_rfl) (fun _ _ _ h => h) (Or.inl ⟨by rfl, ?_⟩) ?_ ?_
      rotate_left
      · intro w'
        go_simp
        with_reducible rfl
      rotate_left
      · simp only [Act.put, List.setIfInBounds_toArray, List.set_cons_zero, List.set_cons_succ, i64_w, i32_w]
        rfl
      refine pure_ (i := 5) (N := some 9) (v := ?_) (a' := ?_) #[true, false, true, true, true, true, false, false] rfl rfl (by kernel_rfl) (fun _ _ _ h => h) (Or.inl ⟨by rfl, ?_⟩) ?_ ?_
      rotate_left
      · intro w'
        go_simp
        with_reducible rfl
      rotate_left
      · simp only [Act.put, List.setIfInBounds_toArray, List.set_cons_zero, List.set_cons_succ, i64_w, i32_w]
        rfl
      refine take_ (i := 6) (N := some 10) (v := ?_) (a' := ?_) #[true, false, true, true, true, true, true, false] rfl rfl (by kernel_rfl) (fun _ _ _ h => h) (Or.inl ⟨by rfl, ?_⟩) hH ?_ ?_
      rotate_left
      · rintro w' ⟨s0, _, _⟩
        obtain ⟨_, _, _, _, q2, _, _, _, _⟩ := s0.reads
        go_simp
        with_reducible rfl
      rotate_left
      · simp only [Act.put, List.setIfInBounds_toArray, List.set_cons_zero, List.set_cons_succ, i64_w, i32_w]
        rfl
      refine one_ (i := 1) (N := some 5) #[true, true, true, true, true, true, true, false] rfl rfl (by kernel_rfl) (by decide) (fun K hK => ?_)
      refine goes_ Try.func16 (by kernel_rfl) rfl #[.pointer (some ⟨t, 0, none⟩)] (by rfl) rfl rfl (by (try simp only [List.map_toArray, List.map_cons, List.map_nil]); first | done | rfl) ?_
      refine (held_calls hH.ts HHB.out HLB.out).mono ?_
      rintro e3 w3 ⟨rfl, hb3⟩
      refine ⟨_, rfl, ?_⟩
      have hS_ := hH.below hb3
      refine hK.out _ _ hS_ (fun hH1 => ?_)
      clear hS_ hb3
      clear hK K
      refine norm_ (a' := ?_) ?_ ?_
      rotate_left
      · show Act.put _ (some 5) _ = _
        simp only [Act.put, List.setIfInBounds_toArray, List.set_cons_zero, List.set_cons_succ, i64_w, i32_w]
        rfl
      refine pure_ (i := 7) (N := some 11) (v := ?_) (a' := ?_) #[true, true, true, true, true, true, true, true] rfl rfl (by kernel_rfl) (fun _ _ _ h => h) (Or.inl ⟨by rfl, ?_⟩) ?_ ?_
      rotate_left
      · intro w'
        go_simp
        with_reducible rfl
      rotate_left
      · simp only [Act.put, List.setIfInBounds_toArray, List.set_cons_zero, List.set_cons_succ, i64_w, i32_w]
        rfl
      refine done_ (by kernel_rfl) ?_
      have hlt := HC.out.2.2.some hh
      obtain ⟨k, hk⟩ : ∃ k, Room.idx (fun o => !Room.isK f e i o) (aOf osr) = k := ⟨_, rfl⟩
      have hfe := HC.out.2.2.erase hlt
      rw [hk] at hlt hfe
      rw [aOf_len] at hlt
      have hix : Room.ixI (fun o : OB => !Room.isK f e i o.a) osr = (k : Int) := by
        rw [← ixI_map (fun o => !Room.isK f e i o) osr]
        unfold Room.ixI
        rw [show osr.map OB.a = aOf osr from rfl, hk, aOf_len, if_pos hlt]
      obtain ⟨A, c, q0, q1, q2, q3, q4, hl, hC⟩ := hH1.ts.reads
      have hcall := idx69 (fun o => !Room.isK f e i o.a) 63 #[.pointer (some ⟨W.heap.size, 0, none⟩)] (enters_of Try.func63 (by kernel_rfl) rfl) A c osr w3 hC (fun V x hb => fit_clo x f e i W.heap.size V ((hb.block _ (blk_lt hH1.bx)).trans hH1.bx))
      rw [hix] at hcall
      have HCALL := Aside0.mk hcall
      have HH3 := Aside0.mk hH1
      have HK := Aside0.mk (And.intro hk (And.intro hlt (And.intro hfe hh)))
      clear hlt hk hfe hix hC hcall hH1 hH hh hl
      go_wp2_with fail
      refine HCALL.out.mono ?_
      rintro e4 w4 ⟨rfl, hb4⟩
      have HB4 := Aside0.mk hb4
      have HDR := Aside0.mk (drop_calls (HH3.out.ts.below hb4) k HK.out.2.1 HLB.out)
      clear hb4 q0 q1 q2 q3 q4
      go_wp2_with fail
      refine HDR.out.mono ?_
      rintro e5 w5 ⟨rfl, hf5, hT5⟩
      have HF5 := Aside0.mk hf5
      have HT5 := Aside0.mk hT5
      clear hf5 hT5
      go_wp2
      go_roundg (osr.length - 1)
      case measure => have := HK.out.2.1; omega
      case rel =>
        have hlen : (osr.eraseIdx k).length = osr.length - 1 := List.length_eraseIdx_of_lt HK.out.2.1
        have hwz : W.heap.size < wr.heap.size := blk_lt HX.out
        have hbl := HH3.out.bl
        refine ⟨osr.eraseIdx k, by omega, ⟨(List.eraseIdx_sublist _ _).trans HC.out.1, ?_, ?_⟩, HT5, ⟨?_⟩, ⟨?_⟩⟩
        · rw [← HC.out.2.1, hlen, aOf_eraseIdx]
          obtain ⟨n, hn⟩ : ∃ n, osr.length = n + 1 := ⟨osr.length - 1, by have := HK.out.2.1; omega⟩
          rw [hn, Nat.add_sub_cancel]
          conv => rhs; unfold Room.fit
          rw [if_pos HK.out.2.2.2, HK.out.1]
        · rw [aOf_eraseIdx]; exact HK.out.2.2.1
        · exact ((HF.out.then_ (Fr.of_below (own := fun _ => False) hbl) (fun _ _ h => h.elim)).then_ (Fr.of_below (own := fun _ => False) HB4.out) (fun _ _ h => h.elim)).then_ HF5.out (fun q _ hq => hq)
        · have h4 : w4.heap[W.heap.size]? = w3.heap[W.heap.size]? := HB4.out.block _ (blk_lt HH3.out.bx)
          rw [HF5.out.block _ (blk_lt (h4.trans HH3.out.bx)) (fun e => by have := HTL.out _ e; omega), h4]
          exact HH3.out.bx
    · go_wp2
      refine start_ (n := 8) (S := FitS own t W.heap.size L f e i osr wr) (ds := []) #[false, false, false, false, false, false, false, false] (by kernel_rfl) rfl rfl hs0 (fun hH => ?_)
      rw [hX] at hH ⊢
      clear hs0 hX
      refine pure_ (i := 0) (N := some 4) (v := ?_) (a' := ?_) #[true, false, false, false, false, false, false, false] rfl rfl (by kernel_rfl) (fun _ _ _ h => h) (Or.inl ⟨by rfl, ?_⟩) ?_ ?_
      rotate_left
      · intro w'
        go_simp
        with_reducible rfl
      rotate_left
      · simp only [Act.put, List.setIfInBounds_toArray, List.set_cons_zero, List.set_cons_succ, i64_w, i32_w]
        rfl
      refine pure_ (i := 2) (N := some 6) (v := ?_) (a' := ?_) #[true, false, true, false, false, false, false, false] rfl rfl (by kernel_rfl) (fun _ _ _ h => h) (Or.inl ⟨by rfl, ?_⟩) ?_ ?_
      rotate_left
      · intro w'
        go_simp
        with_reducible rfl
      rotate_left
      · simp only [Act.put, List.setIfInBounds_toArray, List.set_cons_zero, List.set_cons_succ, i64_w, i32_w]
        rfl
      refine pure_ (i := 3) (N := some 7) (v := ?_) (a' := ?_) #[true, false, true, true, false, false, false, false] rfl rfl (by kernel_rfl) (fun _ _ _ h => h) (Or.inl ⟨by rfl, ?_⟩) ?_ ?_
      rotate_left
      · intro w'
        go_simp
        with_reducible rfl
      rotate_left
      · simp only [Act.put, List.setIfInBounds_toArray, List.set_cons_zero, List.set_cons_succ, i64_w, i32_w]
        rfl
      refine pure_ (i := 4) (N := some 8) (v := ?_) (a' := ?_) #[true, false, true, true, true, false, false, false] rfl rfl (by kernel_rfl) (fun _ _ _ h => h) (Or.inl ⟨by rfl, ?_⟩) ?_ ?_
      rotate_left
      · intro w'
        go_simp
        with_reducible rfl
      rotate_left
      · simp only [Act.put, List.setIfInBounds_toArray, List.set_cons_zero, List.set_cons_succ, i64_w, i32_w]
        rfl
      refine pure_ (i := 5) (N := some 9) (v := ?_) (a' := ?_) #[true, false, true, true, true, true, false, false] rfl rfl (by kernel_rfl) (fun _ _ _ h => h) (Or.inl ⟨by rfl, ?_⟩) ?_ ?_
      rotate_left
      · intro w'
        go_simp
        with_reducible rfl
      rotate_left
      · simp only [Act.put, List.setIfInBounds_toArray, List.set_cons_zero, List.set_cons_succ, i64_w, i32_w]
        rfl
      refine take_ (i := 6) (N := some 10) (v := ?_) (a' := ?_) #[true, false, true, true, true, true, true, false] rfl rfl (by kernel_rfl) (fun _ _ _ h => h) (Or.inl ⟨by rfl, ?_⟩) hH ?_ ?_
      rotate_left
      · rintro w' ⟨s0, _, _⟩
        obtain ⟨_, _, _, _, q2, _, _, _, _⟩ := s0.reads
        go_simp
        with_reducible rfl
      rotate_left
      · simp only [Act.put, List.setIfInBounds_toArray, List.set_cons_zero, List.set_cons_succ, i64_w, i32_w]
        rfl
      refine one_ (i := 1) (N := some 5) #[true, true, true, true, true, true, true, false] rfl rfl (by kernel_rfl) (by decide) (fun K hK => ?_)
      refine goes_ Try.func16 (by kernel_rfl) rfl #[.pointer (some ⟨t, 0, none⟩)] (by rfl) rfl rfl (by (try simp only [List.map_toArray, List.map_cons, List.map_nil]); first | done | rfl) ?_
      refine (held_calls hH.ts HHB.out HLB.out).mono ?_
      rintro e3 w3 ⟨rfl, hb3⟩
      refine ⟨_, rfl, ?_⟩
      have hS_ := hH.below hb3
      refine hK.out _ _ hS_ (fun hH1 => ?_)
      clear hS_ hb3
      clear hK K
      refine norm_ (a' := ?_) ?_ ?_
      rotate_left
      · show Act.put _ (some 5) _ = _
        simp only [Act.put, List.setIfInBounds_toArray, List.set_cons_zero, List.set_cons_succ, i64_w, i32_w]
        rfl
      refine pure_ (i := 7) (N := some 11) (v := ?_) (a' := ?_) #[true, true, true, true, true, true, true, true] rfl rfl (by kernel_rfl) (fun _ _ _ h => h) (Or.inl ⟨by rfl, ?_⟩) ?_ ?_
      rotate_left
      · intro w'
        go_simp
        with_reducible rfl
      rotate_left
      · simp only [Act.put, List.setIfInBounds_toArray, List.set_cons_zero, List.set_cons_succ, i64_w, i32_w]
        rfl
      refine done_ (by kernel_rfl) ?_
      have HH3 := Aside0.mk hH1
      clear hH hH1
      go_wp2
      go_end0
      refine ⟨rfl, HF.out.then_ (Fr.of_below (own := fun _ => False) HH3.out.bl) (fun _ _ h => h.elim), osr, HC.out.1, ?_, HH3.out.ts⟩
      rw [← HC.out.2.1]
      cases osr.length with
      | zero => rfl
      | succ n =>
        conv => rhs; unfold Room.fit
        rw [if_neg (show ¬ Room.held (aOf osr) > L.by_ by omega)]
#print axioms fit_calls
end Go.Proofs.Ytaeelmkpjgmdlaa.H
