/- Mine. Chapters 6 and 23, by hand: the reference's reader: left, Left, Take, Fix. -/
import Derived.Test.YtaeelmkpjgmdlaaHAv
namespace Go.Proofs.Ytaeelmkpjgmdlaa.H
open Go Go.Proofs Go.RowKit Go.Lib Go.Proofs.Ytaeelmkpjgmdlaa.P Go.Proofs.YtaeelmkpjgmdlaaW.PrintWords Go.Proofs.YtaeelmkpjgmdlaaW.PrintLast Go.Proofs.YtaeelmkpjgmdlaaW.PrintMore Go.Proofs.YtaeelmkpjgmdlaaW.PrintFlat
set_option linter.unusedVariables false
set_option linter.unusedSimpArgs false
/-- A reader: the bytes, the place. -/
structure CurB (g : Nat) (A : Option Addr) (c : Nat) (cs : List Int) (at_ : Int) (W : World) : Prop where
  b : W.heap[g]? = some (.cells #[.slice A cs.length c, .int .i64 at_, .int .i64 0] 106 (0, 0))
theorem CurB.below {g : Nat} {A : Option Addr} {c : Nat} {cs : List Int} {at_ : Int} {W W' : World} (h : CurB g A c cs at_ W) (hb : Below W.heap.size W W') : CurB g A c cs at_ W' := ⟨(hb.block _ (blk_lt h.b)).trans h.b⟩
theorem CurB.c0 {g : Nat} {A : Option Addr} {c : Nat} {cs : List Int} {at_ : Int} {W : World} (h : CurB g A c cs at_ W) : W.cell? ⟨g, 0, none⟩ = some (.slice A cs.length c) := (blk_cell h.b 0).trans rfl
theorem CurB.c1 {g : Nat} {A : Option Addr} {c : Nat} {cs : List Int} {at_ : Int} {W : World} (h : CurB g A c cs at_ W) : W.cell? ⟨g, 1, none⟩ = some (.int .i64 at_) := (blk_cell h.b 1).trans rfl
theorem CurB.c2 {g : Nat} {A : Option Addr} {c : Nat} {cs : List Int} {at_ : Int} {W : World} (h : CurB g A c cs at_ W) : W.cell? ⟨g, 2, none⟩ = some (.int .i64 0) := (blk_cell h.b 2).trans rfl
theorem left_ok {g : Nat} {A : Option Addr} {c : Nat} {cs : List Int} {at_ : Nat} {W : World} (h : CurB g A c cs at_ W) (h1 : at_ ≤ cs.length) (h2 : cs.length ≤ 1000000) : Calls Try.prog 69 #[.pointer (some ⟨g, 0, none⟩)] W fun e w' => e = .returned (.int .i64 ((cs.length : Int) - (at_ : Int))) ∧ Below W.heap.size W w' := by
  have q0 := h.c0
  have q1 := h.c1
  have HB := Aside0.mk (Below.refl W.heap.size W)
  clear h
  go_enter Try.func69, Try.ntmps69
  go_wp2_with fail
  go_quiet (fail)
  go_wp2
  go_ret
  exact ⟨rfl, pw_below_drewN HB.out _⟩
theorem Left_ok {g : Nat} {A : Option Addr} {c : Nat} {cs : List Int} {at_ : Nat} {W : World} (h : CurB g A c cs at_ W) (h1 : at_ ≤ cs.length) (h2 : cs.length ≤ 1000000) : Calls Try.prog 51 #[.pointer (some ⟨g, 0, none⟩)] W fun e w' => e = .returned (.int .i64 ((cs.length : Int) - (at_ : Int))) ∧ Below W.heap.size W w' := by
  have q2 := h.c2
  have HL := Aside0.mk (left_ok h h1 h2)
  clear h
  go_enter Try.func51, Try.ntmps51
  go_wp2_with fail
  refine HL.out.mono ?_
  rintro e1 w1 ⟨rfl, hb1⟩
  have HB1 := Aside0.mk hb1
  clear hb1 q2
  go_wp2
  go_ret
  exact ⟨rfl, HB1.out⟩
/-- What a reader is behind a step: nothing else is another one. -/
structure CurQ (w0 W : World) (g : Nat) (A : Option Addr) (c : Nat) (cs : List Int) (at_ : Int) (w' : World) : Prop where
  cb : CurB g A c cs at_ w'
  fr : Fr (fun q => q = g) W w'
set_option maxHeartbeats 4000000 in
set_option maxRecDepth 100000 in
theorem ctake_ok {w0 : World} {g : Nat} {A : Option Addr} {c : Nat} {cs : List Int} {at_ m z : Nat} {W : World} (h : CurB g A c cs (at_ : Int) W) (hC : Kd.C (Kd.int .u8) w0 A cs.length cs) (hc : cs.length ≤ c) (h0 : Below w0.heap.size w0 W) (hg : w0.heap.size ≤ g) (he : at_ + m = z) (h1 : z ≤ cs.length) (h2 : cs.length ≤ 1000000) :
    Calls Try.prog 50 #[.pointer (some ⟨g, 0, none⟩), .int .i64 m] W fun e w' => CurQ w0 W g A c cs (z : Int) w' ∧ ∃ v, e = .returned v ∧ Kd.R (Kd.int .u8) 5 w' W.heap.size (fun _ => True) v ((cs.take z).drop at_) := by
  have q1 := h.c1
  have q2 := h.c2
  have HC := Aside0.mk hC
  have HH := Aside0.mk h
  have H0 := Aside0.mk h0
  have HG := Aside0.mk hg
  have hf1 : W.frozen? ⟨g, 1, none⟩ = false := blk_frozen h.b 1
  have hlf := left_ok h (by omega) h2
  have HLF := Aside0.mk hlf
  have hadd : (at_ : Int) + (m : Int) = (z : Int) := by omega
  have hsub : (z : Int) - (m : Int) = (at_ : Int) := by omega
  have p0 : ¬ ((m : Int) < 0) := by omega
  have p1 : ¬ (((cs.length : Int) - (at_ : Int)) < (m : Int)) := by omega
  clear hlf h hC h0 hg hf1
  go_enter Try.func50, Try.ntmps50
  go_wp2_with fail
  refine HLF.out.mono ?_
  rintro e1 w1 ⟨rfl, hb1⟩
  have hcb := HH.out.below hb1
  have q1 := hcb.c1
  have hf1 : w1.frozen? ⟨g, 1, none⟩ = false := blk_frozen hcb.b 1
  have HB1 := Aside0.mk hb1
  have HCB := Aside0.mk hcb
  clear hb1 hcb q2
  go_upto_region 10 with fail
  obtain ⟨w2, hw2⟩ : ∃ w2, w1.setCell ⟨g, 1, none⟩ (.int .i64 (z : Int)) = w2 := ⟨_, rfl⟩
  rw [hw2]
  have HB2 : Aside0 (Fr (fun q => q = g) w1 w2) := ⟨⟨by rw [← hw2]; rfl, by rw [← hw2]; rfl, by rw [← hw2]; rfl, by rw [← hw2]; simp [World.setCell], fun k hk hn => by rw [← hw2]; exact Below.heap_setCell _ _ _ _ hn⟩⟩
  have HCB2 : Aside0 (CurB g A c cs (z : Int) w2) := ⟨⟨by rw [← hw2, blk_set HCB.out.b 1 _]; rfl⟩⟩
  obtain ⟨X, hX⟩ : ∃ X, w2.drew = X := ⟨_, rfl⟩
  have hbX : Below w2.heap.size w2 X := by rw [← hX]; exact (Below.refl _ _).drew
  have hs0 : CurB g A c cs (z : Int) w2.drew := HCB2.out.below (Below.refl _ _).drew
  have hfr : Fr (fun q => q = g) W X := ((Fr.of_below (own := fun q => q = g) HB1.out).then_ HB2.out (fun _ _ h => h)).then_ (Fr.of_below (own := fun q => q = g) hbX) (fun _ _ h => h)
  have HFR := Aside0.mk hfr
  have HXS : Aside0 (W.heap.size ≤ X.heap.size) := ⟨hfr.size⟩
  have HB0X : Aside0 (Below w0.heap.size w0 X) := ⟨H0.out.trans (hfr.below H0.out.size (fun q hq => by rw [hq]; exact HG.out))⟩
  obtain ⟨A', hA'⟩ : ∃ A', (if c = at_ then A else Option.map (fun x => x.add at_) A) = A' := ⟨_, rfl⟩
  have hlp : ((cs.take z).drop at_).length = m := by rw [List.length_drop, List.length_take]; omega
  have HPART : Aside0 (Kd.C (Kd.int .u8) w0 A' m ((cs.take z).drop at_)) := ⟨by
    have h := Kd.C_mid HC.out (show at_ ≤ z by omega) h1 hc
    rw [hlp, show (Kd.int .u8).sz = 1 from rfl, Nat.mul_one, hA'] at h
    exact h⟩
  have HLP := Aside0.mk hlp
  have hwat : IntKind.i64.wrap (at_ : Int) = at_ := by rw [i64_w]; unfold wrap64; omega
  have hzat : z - at_ = m := by omega
  have p2 : z ≤ c := by omega
  have p3 : at_ ≤ z := by omega
  clear hw2 hbX hfr hf1 q1 hlp
  go_wp2_with fail
  refine start_ (n := 18) (S := CurB g A c cs (z : Int)) (ds := [16]) #[false, false, false, false, false, false, false, false, false, false, false, false, false, false, false, false, false, false] (by kernel_rfl) rfl rfl hs0 (fun hH => ?_)
  rw [hX] at hH ⊢
  clear hX hs0
  refine pure_ (i := 1) (N := some 32) (v := ?_) (a' := ?_) #[false, true, false, false, false, false, false, false, false, false, false, false, false, false, false, false, false, false] rfl rfl (by kernel_rfl) (fun _ _ _ h => h) (Or.inl ⟨by rfl, ?_⟩) ?_ ?_
  rotate_left
  · intro w'
    go_simp
    with_reducible rfl
  rotate_left
  · simp only [Act.put, List.setIfInBounds_toArray, List.set_cons_zero, List.set_cons_succ, i64_w, i32_w]
    rfl
  refine pure_ (i := 2) (N := some 33) (v := ?_) (a' := ?_) #[false, true, true, false, false, false, false, false, false, false, false, false, false, false, false, false, false, false] rfl rfl (by kernel_rfl) (fun _ _ _ h => h) (Or.inl ⟨by rfl, ?_⟩) ?_ ?_
  rotate_left
  · intro w'
    go_simp
    with_reducible rfl
  rotate_left
  · simp only [Act.put, List.setIfInBounds_toArray, List.set_cons_zero, List.set_cons_succ, i64_w, i32_w]
    rfl
  refine pure_ (i := 3) (N := some 34) (v := ?_) (a' := ?_) #[false, true, true, true, false, false, false, false, false, false, false, false, false, false, false, false, false, false] rfl rfl (by kernel_rfl) (fun _ _ _ h => h) (Or.inl ⟨by rfl, ?_⟩) ?_ ?_
  rotate_left
  · intro w'
    go_simp
    with_reducible rfl
  rotate_left
  · simp only [Act.put, List.setIfInBounds_toArray, List.set_cons_zero, List.set_cons_succ, i64_w, i32_w]
    rfl
  refine take_ (i := 4) (N := some 35) (v := ?_) (a' := ?_) #[false, true, true, true, true, false, false, false, false, false, false, false, false, false, false, false, false, false] rfl rfl (by kernel_rfl) (fun _ _ _ h => h) (Or.inl ⟨by rfl, ?_⟩) hH ?_ ?_
  rotate_left
  · rintro w' s0
    have t0 := s0.c0
    go_simp
    with_reducible rfl
  rotate_left
  · simp only [Act.put, List.setIfInBounds_toArray, List.set_cons_zero, List.set_cons_succ, i64_w, i32_w]
    rfl
  refine pure_ (i := 5) (N := some 36) (v := ?_) (a' := ?_) #[false, true, true, true, true, true, false, false, false, false, false, false, false, false, false, false, false, false] rfl rfl (by kernel_rfl) (fun _ _ _ h => h) (Or.inl ⟨by rfl, ?_⟩) ?_ ?_
  rotate_left
  · intro w'
    go_simp
    with_reducible rfl
  rotate_left
  · simp only [Act.put, List.setIfInBounds_toArray, List.set_cons_zero, List.set_cons_succ, i64_w, i32_w]
    rfl
  refine pure_ (i := 6) (N := some 37) (v := ?_) (a' := ?_) #[false, true, true, true, true, true, true, false, false, false, false, false, false, false, false, false, false, false] rfl rfl (by kernel_rfl) (fun _ _ _ h => h) (Or.inl ⟨by rfl, ?_⟩) ?_ ?_
  rotate_left
  · intro w'
    go_simp
    with_reducible rfl
  rotate_left
  · simp only [Act.put, List.setIfInBounds_toArray, List.set_cons_zero, List.set_cons_succ, i64_w, i32_w]
    rfl
  refine pure_ (i := 7) (N := some 38) (v := ?_) (a' := ?_) #[false, true, true, true, true, true, true, true, false, false, false, false, false, false, false, false, false, false] rfl rfl (by kernel_rfl) (fun _ _ _ h => h) (Or.inl ⟨by rfl, ?_⟩) ?_ ?_
  rotate_left
  · intro w'
    go_simp
    with_reducible rfl
  rotate_left
  · simp only [Act.put, List.setIfInBounds_toArray, List.set_cons_zero, List.set_cons_succ, i64_w, i32_w]
    rfl
  refine take_ (i := 8) (N := some 39) (v := ?_) (a' := ?_) #[false, true, true, true, true, true, true, true, true, false, false, false, false, false, false, false, false, false] rfl rfl (by kernel_rfl) (fun _ _ _ h => h) (Or.inl ⟨by rfl, ?_⟩) hH ?_ ?_
  rotate_left
  · rintro w' s0
    have t1 := s0.c1
    go_simp
    with_reducible rfl
  rotate_left
  · simp only [Act.put, List.setIfInBounds_toArray, List.set_cons_zero, List.set_cons_succ, i64_w, i32_w]
    rfl
  refine pure_ (i := 9) (N := some 40) (v := ?_) (a' := ?_) #[false, true, true, true, true, true, true, true, true, true, false, false, false, false, false, false, false, false] rfl rfl (by kernel_rfl) (fun _ _ _ h => h) (Or.inl ⟨by rfl, ?_⟩) ?_ ?_
  rotate_left
  · intro w'
    go_simp
    with_reducible rfl
  rotate_left
  · simp only [Act.put, List.setIfInBounds_toArray, List.set_cons_zero, List.set_cons_succ, i64_w, i32_w]
    rfl
  refine pure_ (i := 10) (N := some 41) (v := ?_) (a' := ?_) #[false, true, true, true, true, true, true, true, true, true, true, false, false, false, false, false, false, false] rfl rfl (by kernel_rfl) (fun _ _ _ h => h) (Or.inl ⟨by rfl, ?_⟩) ?_ ?_
  rotate_left
  · intro w'
    go_simp
    with_reducible rfl
  rotate_left
  · simp only [Act.put, List.setIfInBounds_toArray, List.set_cons_zero, List.set_cons_succ, i64_w, i32_w]
    rfl
  refine pure_ (i := 11) (N := some 42) (v := ?_) (a' := ?_) #[false, true, true, true, true, true, true, true, true, true, true, true, false, false, false, false, false, false] rfl rfl (by kernel_rfl) (fun _ _ _ h => h) (Or.inl ⟨by rfl, ?_⟩) ?_ ?_
  rotate_left
  · intro w'
    go_simp
    with_reducible rfl
  rotate_left
  · simp only [Act.put, List.setIfInBounds_toArray, List.set_cons_zero, List.set_cons_succ, i64_w, i32_w]
    rfl
  refine pure_ (i := 12) (N := some 43) (v := ?_) (a' := ?_) #[false, true, true, true, true, true, true, true, true, true, true, true, true, false, false, false, false, false] rfl rfl (by kernel_rfl) (fun _ _ _ h => h) (Or.inl ⟨by rfl, ?_⟩) ?_ ?_
  rotate_left
  · intro w'
    go_simp
    with_reducible rfl
  rotate_left
  · simp only [Act.put, List.setIfInBounds_toArray, List.set_cons_zero, List.set_cons_succ, i64_w, i32_w]
    rfl
  refine pure_ (i := 13) (N := some 44) (v := ?_) (a' := ?_) #[false, true, true, true, true, true, true, true, true, true, true, true, true, true, false, false, false, false] rfl rfl (by kernel_rfl) (fun _ _ _ h => h) (Or.inl ⟨by rfl, ?_⟩) ?_ ?_
  rotate_left
  · intro w'
    go_simp
    with_reducible rfl
  rotate_left
  · simp only [Act.put, List.setIfInBounds_toArray, List.set_cons_zero, List.set_cons_succ, i64_w, i32_w]
    rfl
  refine take_ (i := 14) (N := some 45) (v := ?_) (a' := ?_) #[false, true, true, true, true, true, true, true, true, true, true, true, true, true, true, false, false, false] rfl rfl (by kernel_rfl) (fun _ _ _ h => h) (Or.inl ⟨by rfl, ?_⟩) hH ?_ ?_
  rotate_left
  · rintro w' s0
    have t1 := s0.c1
    go_simp
    with_reducible rfl
  rotate_left
  · simp only [Act.put, List.setIfInBounds_toArray, List.set_cons_zero, List.set_cons_succ, i64_w, i32_w]
    rfl
  refine pure_ (i := 15) (N := some 46) (v := ?_) (a' := ?_) #[false, true, true, true, true, true, true, true, true, true, true, true, true, true, true, true, false, false] rfl rfl (by kernel_rfl) (fun _ _ _ h => h) (Or.inl ⟨by rfl, ?_⟩) ?_ ?_
  rotate_left
  · intro w'
    go_simp
    with_reducible rfl
  rotate_left
  · simp only [Act.put, List.setIfInBounds_toArray, List.set_cons_zero, List.set_cons_succ, i64_w, i32_w]
    rfl
  refine one_ (i := 0) (N := some 31) #[true, true, true, true, true, true, true, true, true, true, true, true, true, true, true, true, false, false] rfl rfl (by kernel_rfl) (by decide) (fun K hK => ?_)
  refine value_ (w1 := X.alloc (.cells #[] 5)) (v := .slice (some ⟨X.heap.size, 0, none⟩) 0 0) (by rfl) rfl ?_ ?_
  · go_simp
    try rfl
  obtain ⟨Y, hY⟩ : ∃ Y, X.alloc (.cells #[] 5) = Y := ⟨_, rfl⟩
  have HLIT : Aside0 (Below X.heap.size X Y ∧ Kd.R (Kd.int .u8) 5 Y W.heap.size (fun _ => True) (.slice (some ⟨X.heap.size, 0, none⟩) 0 0) []) := ⟨by rw [← hY]; exact ⟨below_alloc (Below.refl _ _) _, fun _ _ => trivial, [], World.ownsRow_made X #[] 0 HXS.out (by decide) (by simp), Reps.none _ _⟩⟩
  rw [hY]
  clear hY
  have hS_ : CurB g A c cs (z : Int) Y := hH.below HLIT.out.1
  refine hK.out _ _ hS_ (fun hH1 => ?_)
  clear hS_
  clear hK K
  refine norm_ (a' := ?_) ?_ ?_
  rotate_left
  · show Act.put _ (some 31) _ = _
    simp only [Act.put, List.setIfInBounds_toArray, List.set_cons_zero, List.set_cons_succ, i64_w, i32_w]
    rfl
  refine last_ (i := 16) (N := some 47) #[true, true, true, true, true, true, true, true, true, true, true, true, true, true, true, true, true, false] rfl rfl (by kernel_rfl) (by decide) (fun K hK => ?_)
  refine Kd.R_append_rows_step (Kd.int .u8) (Rr := (Kd.int .u8).K Y) (w0 := Y) W.heap.size (by rfl) _ _ 36 5 _ 1 rfl Try.underlying36 i5 rfl (by decide) (by decide) (.slice (some ⟨X.heap.size, 0, none⟩) 0 0) [] ((cs.take z).drop at_) _ m _ (fun _ => True) (fun _ => False) rfl rfl HLIT.out.2 (Kd.C_below HPART.out (HB0X.out.trans (Below.mono HLIT.out.1 HB0X.out.size))) (fun _ _ h => h) (fun _ h => h.elim) (fun _ _ => trivial) (Below.refl _ _) (Nat.le_trans HXS.out HLIT.out.1.size) (by have := HLP.out; simp; omega) ?_
  intro v6 w6 hO6 hb6 hg6 _
  refine hK.out _ _ ?_
  clear hK K
  refine norm_ (a' := ?_) ?_ ?_
  rotate_left
  · show Act.put _ (some 47) _ = _
    simp only [Act.put, List.setIfInBounds_toArray, List.set_cons_zero, List.set_cons_succ, i64_w, i32_w]
    rfl
  refine pure_ (i := 17) (N := some 4) (v := ?_) (a' := ?_) #[true, true, true, true, true, true, true, true, true, true, true, true, true, true, true, true, true, true] rfl rfl (by kernel_rfl) (fun _ _ _ h => h) (Or.inl ⟨by rfl, ?_⟩) ?_ ?_
  rotate_left
  · intro w'
    go_simp
    with_reducible rfl
  rotate_left
  · simp only [Act.put, List.setIfInBounds_toArray, List.set_cons_zero, List.set_cons_succ, i64_w, i32_w]
    rfl
  refine done_ (by kernel_rfl) ?_
  have hO6' := hO6
  obtain ⟨A6, c6, rfl, _, _⟩ := Kd.R_reads hO6'
  have HO6 := Aside0.mk hO6
  have HCB6 := Aside0.mk (show CurB g A c cs (z : Int) w6 from ⟨(hg6.block g (blk_lt hH1.b) (fun e => by have h3 := blk_lt HCB2.out.b; have h5 : g = X.heap.size := (by injection e); have h6 := blk_lt hH.b; rw [← h5] at h6; exact Nat.lt_irrefl _ h6)).trans hH1.b⟩)
  have HFR6 := Aside0.mk ((HFR.out.then_ (Fr.of_below (own := fun q => q = g) HLIT.out.1) (fun _ _ h => h)).then_ (Fr.of_grown (own := fun q => q = X.heap.size) hg6 rfl) (fun q hq e => by have := HXS.out; omega))
  clear hO6 hO6' hb6 hg6 hH hH1
  go_wp2
  go_ret
  exact ⟨⟨HCB6.out, HFR6.out⟩, _, rfl, HO6.out⟩
/-- A number of bytes, the greatest first. -/
def num (l : List Int) : Int := l.foldl (fun a b => a * 256 + b) 0
theorem num_snoc (l : List Int) (b : Int) : num (l ++ [b]) = num l * 256 + b := by unfold num; rw [List.foldl_append]; rfl
theorem num_take {l : List Int} {k : Nat} (hk : k < l.length) : num (l.take (k + 1)) = num (l.take k) * 256 + rd l (k : Int) := by
  rw [List.take_succ_eq_append_getElem hk, num_snoc]
  congr 1
  unfold rd
  simp [List.getD_eq_getElem?_getD, hk]
theorem num_bd {l : List Int} (hb : ∀ b ∈ l, 0 ≤ b ∧ b < 256) : ∀ k : Nat, k ≤ l.length → 0 ≤ num (l.take k) ∧ num (l.take k) < 256 ^ k
  | 0, _ => by simp [num]
  | k + 1, hk => by
    have h1 := num_bd hb k (by omega)
    have h2 : rd l (k : Int) ∈ l := by unfold rd; simp [List.getD_eq_getElem?_getD, show k < l.length by omega]
    have h3 := hb _ h2
    rw [num_take (by omega), Int.pow_succ]
    omega
set_option maxHeartbeats 4000000 in
set_option maxRecDepth 100000 in
theorem cfix_ok {w0 : World} {g : Nat} {A : Option Addr} {c : Nat} {cs : List Int} {at_ m z : Nat} {W : World} (h : CurB g A c cs (at_ : Int) W) (hC : Kd.C (Kd.int .u8) w0 A cs.length cs) (hc : cs.length ≤ c) (h0 : Below w0.heap.size w0 W) (hg : w0.heap.size ≤ g) (he : at_ + m = z) (h1 : z ≤ cs.length) (h2 : cs.length ≤ 1000000) (hm1 : 1 ≤ m) (hm4 : m ≤ 4) (hby : ∀ b ∈ cs, 0 ≤ b ∧ b < 256) :
    Calls Try.prog 49 #[.pointer (some ⟨g, 0, none⟩), .int .i64 m] W fun e w' => CurQ w0 W g A c cs (z : Int) w' ∧ e = .returned (.int .u64 (num ((cs.take z).drop at_))) := by
  have q2 := h.c2
  have HTK := Aside0.mk (ctake_ok h hC hc h0 hg he h1 h2)
  have hlp : ((cs.take z).drop at_).length = m := by rw [List.length_drop, List.length_take]; omega
  have hbl : ∀ b ∈ (cs.take z).drop at_, 0 ≤ b ∧ b < 256 := fun b hb => hby b (List.mem_of_mem_take (List.mem_of_mem_drop hb))
  obtain ⟨l, hl⟩ : ∃ l, (cs.take z).drop at_ = l := ⟨_, rfl⟩
  rw [hl] at HTK hlp hbl ⊢
  have p0 : ¬ ((m : Int) < 1) := by omega
  have p1 : ¬ ((m : Int) > 8) := by omega
  have HBL := Aside0.mk hbl
  have HLP := Aside0.mk hlp
  clear h hC h0 hg hl hbl hby h1 h2 he hc
  go_enter Try.func49, Try.ntmps49
  go_wp2_with fail
  refine HTK.out.mono ?_
  rintro e1 w1 ⟨hq1, v, rfl, hR⟩
  obtain ⟨B, d, rfl, hld, hCB⟩ := Kd.R_reads hR
  have HQ := Aside0.mk hq1
  have HCB := Aside0.mk hCB
  clear hq1 hR hCB q2 p0 p1
  rw [hlp]
  go_wp2_with fail
  go_loopg [6, 7] m (fun gg s6 s7 wr => ∃ k : Nat, k ≤ m ∧ m - k ≤ gg ∧ s6 = .int .u64 (num (l.take k)) ∧ s7 = .int .i64 k ∧ Aside0 (wr = w1))
  case atStart => exact ⟨0, Nat.zero_le _, by omega, rfl, rfl, ⟨rfl⟩⟩
  case round =>
    obtain ⟨k, hk, hgg, rfl, rfl, HW⟩ := hrel
    obtain rfl := HW.out
    by_cases hlt : k < m
    · obtain ⟨ad, e1, hx⟩ := Kd.at_int HCB.out (k : Int) (by omega) (by omega)
      cases e1
      rw [Int.toNat_natCast] at hx
      have HNT := Aside0.mk (num_take (l := l) (k := k) (by omega))
      have hnb := num_bd HBL.out k (by omega)
      have hp : (256 : Int) ^ k ≤ 16777216 := by
        have : k = 0 ∨ k = 1 ∨ k = 2 ∨ k = 3 := by omega
        rcases this with rfl | rfl | rfl | rfl <;> decide
      have hb := HBL.out (rd l (k : Int)) (by unfold rd; simp [List.getD_eq_getElem?_getD, show k < l.length by omega])
      obtain ⟨y, hy⟩ : ∃ y, rd l (k : Int) = y := ⟨_, rfl⟩
      obtain ⟨n, hn⟩ : ∃ n, num (l.take k) = n := ⟨_, rfl⟩
      rw [hy, hn] at HNT
      rw [hy] at hx hb
      rw [hn] at hnb ⊢
      have hnb1 := hnb.1
      have hnb2 : n < 16777216 := by omega
      have hb1 := hb.1
      have hb2 := hb.2
      have p0 : (0 ≤ (k : Int)) = True := eq_true (by omega)
      have p1 : ((k : Int) < (m : Int)) = True := eq_true (by omega)
      clear hy hn hnb hb hp
      go_wp2
      go_roundg (m - (k + 1))
      case measure => omega
      case rel => exact ⟨k + 1, by omega, by omega, by rw [HNT.out], by go_num, ⟨rfl⟩⟩
    · have hkk : k = m := by omega
      have p1 : ¬ ((k : Int) < (m : Int)) := by omega
      subst hkk
      go_wp2
      go_ret
      refine ⟨HQ.out, ?_⟩
      rw [show l.take k = l from List.take_of_length_le (by have := HLP.out; omega)]
      rfl
#print axioms ctake_ok
#print axioms cfix_ok
end Go.Proofs.Ytaeelmkpjgmdlaa.H
