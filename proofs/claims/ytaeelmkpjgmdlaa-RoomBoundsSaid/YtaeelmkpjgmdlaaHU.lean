/- Mine. Chapter 22, by hand: begin and fit of the table. -/
import Derived.Test.YtaeelmkpjgmdlaaHT
namespace Go.Proofs.Ytaeelmkpjgmdlaa.H
open Go Go.Proofs Go.RowKit Go.Lib Go.Proofs.Ytaeelmkpjgmdlaa.P Go.Proofs.YtaeelmkpjgmdlaaW.PrintWords Go.Proofs.YtaeelmkpjgmdlaaW.PrintLast Go.Proofs.YtaeelmkpjgmdlaaW.PrintMore Go.Proofs.YtaeelmkpjgmdlaaW.PrintFlat
set_option linter.unusedVariables false
set_option linter.unusedSimpArgs false
/-- A message more, at the end; the oldest one gone if there is no room. -/
def begA (L : Room.Lim) (os : List Room.OA) (o : Room.OA) : List Room.OA := (if (os.length : Int) ≥ L.op then os.eraseIdx 0 else os) ++ [o]
structure BegS (t z : Nat) (v : Value) (f : Int) (g : Room.GA) (V : World) : Prop where
  s0 : V.cell? ⟨t, 4, none⟩ = some v
  s1 : V.cell? ⟨z, 0, none⟩ = some (.int .u16 f)
  s2 : V.cell? ⟨z, 1, none⟩ = some (.int .u32 g.ep)
  s3 : V.cell? ⟨z, 2, none⟩ = some (.int .u32 g.id)
  s4 : V.cell? ⟨z + 1, 5, none⟩ = some (.int .u16 g.cnt)
  s5 : V.cell? ⟨z + 1, 1, none⟩ = some (.int .u8 g.ver)
theorem BegS.below {t z : Nat} {v : Value} {f : Int} {g : Room.GA} {V V' : World} (h : BegS t z v f g V) (hb : Below V.heap.size V V') : BegS t z v f g V' :=
  ⟨pw_cell_below hb h.s0, pw_cell_below hb h.s1, pw_cell_below hb h.s2, pw_cell_below hb h.s3, pw_cell_below hb h.s4, pw_cell_below hb h.s5⟩
def BegP (own : Nat → Prop) (t : Nat) (L : Room.Lim) (os : List OB) (o : Room.OA) (W : World) (e' : Ending) (w' : World) : Prop :=
  ∃ os', TS (fun k => own k ∨ W.heap.size ≤ k ∧ k < w'.heap.size) t L os' w' ∧ aOf os' = begA L (aOf os) o ∧ 1 ≤ os'.length ∧ e' = .returned (.int .i64 ((os'.length : Int) - 1)) ∧ Fr own W w'
theorem alloc2 {w W : World} {a b : Obj} (h : (w.alloc a).alloc b = W) : Below w.heap.size w W ∧ W.heap.size = w.heap.size + 1 + 1 ∧ W.heap[w.heap.size]? = some a ∧ W.heap[w.heap.size + 1]? = some b := by
  subst h
  have s1 : (w.alloc a).heap.size = w.heap.size + 1 := by show (w.heap.push a).size = _; simp
  have s2 : ((w.alloc a).alloc b).heap.size = (w.alloc a).heap.size + 1 := by show ((w.alloc a).heap.push b).size = _; simp
  have n2 := heap_alloc_new (w.alloc a) b
  rw [s1] at n2
  refine ⟨(below_alloc (Below.refl _ _) a).alloc (by omega) b, by omega, ?_, n2⟩
  rw [heap_alloc_old _ b (by omega)]; exact heap_alloc_new w a
theorem aOf_eraseIdx : ∀ (os : List OB) (k : Nat), aOf (os.eraseIdx k) = (aOf os).eraseIdx k
  | [], _ => rfl
  | x :: r, 0 => rfl
  | x :: r, k + 1 => by
    show x.a :: aOf (r.eraseIdx k) = x.a :: (aOf r).eraseIdx k
    rw [aOf_eraseIdx r k]
theorem begin_end {own oB oL : Nat → Prop} {t p : Nat} {L : Room.Lim} {os os1 : List OB} {W w1 w2 X w3 w4 : World} {v v1 : Value} {o : Room.OA} {n : Int}
    (hT1 : TS own t L os1 w1) (hF1 : Fr own W w1) (hB2 : Below w1.heap.size w1 w2) (hSX : X.heap.size = w2.heap.size) (hBX : Below w2.heap.size w2 X)
    (hPA : PA (fun k => w1.heap.size ≤ k ∧ k < w2.heap.size) p o.cnt o.ps w2) (hT2 : TS own t L os1 w2) (hBG : Bag OPA 69 oB v os1 X) (hL : ∀ k, oL k → oB k ∧ ∀ o ∈ os1, ¬ o.own k) (hO : ∀ k, oB k → own k ∧ k ≠ t)
    (hR : k7.R 69 X 0 oL v os1) (hO3 : k7.R 69 w3 0 (fun k => oL k ∨ X.heap.size ≤ k) v1 (os1 ++ [⟨o, p, fun k => w1.heap.size ≤ k ∧ k < w2.heap.size⟩])) (hG3 : X.grownBy w3 v.ownBlock)
    (hw4 : w4 = w3.setCell ⟨t, 4, none⟩ v1) (hbl : w4.heap[t]? = some (.cells #[.bool true, .int .i64 L.op, .int .i64 L.by_, .int .i64 L.ex, v1] 64 (0, 0))) (hs4 : w4.heap.size = w3.heap.size)
    (hA : aOf (os1 ++ [⟨o, p, fun k => w1.heap.size ≤ k ∧ k < w2.heap.size⟩]) = begA L (aOf os) o) (hn : n = (os1.length : Int)) : BegP own t L os o W (.returned (.int .i64 n)) w4 := by
  subst hn
  have s1 := hF1.size
  have s2 := hB2.size
  have s3 := hG3.size
  have lt1 := hT1.lt
  have tlt := lt1 t hT1.ot
  have hvo : ∀ k, v.ownBlock = some k → oL k := fun k hk => hR.1 k hk
  have far : ∀ k, k < w2.heap.size → ¬ oL k → k ≠ t → w4.heap[k]? = w2.heap[k]? := fun k hk h1 h2 => by
    rw [hw4, Below.heap_setCell _ _ _ _ h2, hG3.block k (by omega) (fun e => h1 (hvo k e.symm)), hBX.block k hk]
  have hO3b := Kd.R_bound hO3
  have s4 := hBX.size
  have oL_own : ∀ k, oL k → own k ∧ k ≠ t := fun k hk => hO k (hL k hk).1
  have hF2 : Fr (fun k => oL k ∨ k = t) w2 w4 := ⟨by rw [hw4]; exact hG3.os.trans hBX.os, by rw [hw4]; exact hG3.tape.trans hBX.tape, by rw [hw4]; exact hG3.output.trans hBX.output, by omega, fun k hk hn => far k hk (fun e => hn (.inl e)) (fun e => hn (.inr e))⟩
  refine ⟨os1 ++ [⟨o, p, fun k => w1.heap.size ≤ k ∧ k < w2.heap.size⟩], ⟨.inl hT1.ot, ⟨v1, fun k => (own k ∨ W.heap.size ≤ k ∧ k < w4.heap.size) ∧ k ≠ t, hbl, ?_, fun k hk => hk⟩, fun k hk => ?_⟩, hA, by simp, by simp, ?_⟩
  · refine ⟨⟨fun k => (oL k ∨ X.heap.size ≤ k) ∧ k < w3.heap.size ∧ k ≠ t, ?_, fun k hk => ?_⟩, fun x hx => ?_, fun x hx k hk => ?_, ?_, fun k hk => ?_⟩
    · rw [hw4]
      refine Kd.R_far (p := ⟨t, 4, none⟩) (Kd.R_mono hO3b (fun k hk => ⟨hk.1, hk.2.2.1, fun e => ?_⟩)) (fun k hk => hk.2.2) v1
      rcases hk.1 with h | h
      · exact (oL_own k h).2 e
      · omega
    · obtain ⟨h1, h2, h3⟩ := hk
      refine ⟨⟨?_, h3⟩, fun x hx => ?_⟩
      · rcases h1 with h1 | h1
        · exact .inl (oL_own k h1).1
        · exact .inr ⟨by omega, by omega⟩
      · rcases List.mem_append.1 hx with hx | hx
        · rcases h1 with h1 | h1
          · exact (hL k h1).2 x hx
          · intro e
            have := hBG.lt k (hBG.sub x hx k e)
            omega
        · obtain rfl := List.mem_singleton.1 hx
          rintro ⟨e1, e2⟩
          rcases h1 with h1 | h1
          · have := lt1 k (oL_own k h1).1
            omega
          · omega
    · rcases List.mem_append.1 hx with hx | hx
      · exact OPA.fr x w2 w4 _ (hT2.obj x hx) hF2 (fun k hk e => by
          rcases e with e | e
          · exact (hL k e).2 x hx hk
          · exact (hO k (hBG.sub x hx k hk)).2 e)
      · obtain rfl := List.mem_singleton.1 hx
        exact PA.frame hPA hF2 (fun k hk e => by
          rcases e with e | e
          · have := lt1 k (oL_own k e).1
            omega
          · omega)
    · rcases List.mem_append.1 hx with hx | hx
      · exact ⟨.inl (hO k (hBG.sub x hx k hk)).1, (hO k (hBG.sub x hx k hk)).2⟩
      · obtain rfl := List.mem_singleton.1 hx
        obtain ⟨e1, e2⟩ := hk
        exact ⟨.inr ⟨by omega, by omega⟩, by omega⟩
    · rw [List.pairwise_append]
      refine ⟨hBG.apart, List.pairwise_singleton _ _, fun x hx y hy k hk => ?_⟩
      obtain rfl := List.mem_singleton.1 hy
      rintro ⟨e1, e2⟩
      have := lt1 k (hO k (hBG.sub x hx k hk)).1
      omega
    · rcases hk.1 with h | h
      · have := lt1 k h
        omega
      · exact h.2
  · rcases hk with h | h
    · have := lt1 k h
      omega
    · exact h.2
  · refine ⟨hF2.os.trans (hB2.os.trans hF1.os), hF2.tape.trans (hB2.tape.trans hF1.tape), hF2.output.trans (hB2.output.trans hF1.output), by omega, fun k hk hn => ?_⟩
    rw [far k (by omega) (fun e => hn (oL_own k e).1) (fun e => hn (by rw [e]; exact hT1.ot)), hB2.block k (by omega), hF1.block k hk hn]
set_option maxHeartbeats 4000000 in
set_option maxRecDepth 100000 in
theorem begin_calls {own : Nat → Prop} {t : Nat} {L : Room.Lim} {os : List OB} {W : World} (h : TS own t L os W) (hs : Sm L os) (f : Int) (kd : Int) (g : Room.GA) (hg : Gm g) (hc : 1 ≤ g.cnt) (A : Option Addr) (cp : Nat) (h1o : 1 ≤ L.op) :
    Calls Try.prog 32 #[.pointer (some ⟨t, 0, none⟩), .agg #[.int .u16 f, .int .u32 g.ep, .int .u32 g.id], .agg #[.int .u8 kd, .int .u8 g.ver, .int .u32 g.ep, .int .u32 g.id, .int .u16 g.ix, .int .u16 g.cnt, .slice A g.body.length cp]] W (BegP own t L os ⟨f, g.ep, g.id, g.cnt, g.ver, 0, []⟩ W) := by
  have HGM := Aside0.mk hg
  have HC1 := Aside0.mk hc
  obtain ⟨V, hV⟩ : ∃ V, ((W.alloc (.cells #[.int .u16 f, .int .u32 g.ep, .int .u32 g.id] 66)).alloc (.cells #[.int .u8 kd, .int .u8 g.ver, .int .u32 g.ep, .int .u32 g.id, .int .u16 g.ix, .int .u16 g.cnt, .slice A g.body.length cp] 38)) = V := ⟨_, rfl⟩
  obtain ⟨hbV, hsV, e4, e5⟩ := alloc2 hV
  have hTV := h.below hbV
  obtain ⟨B, c, g0, g1, g2, g3, g4, hl, hC⟩ := hTV.reads
  have HBV := Aside0.mk hbV
  have HTV := Aside0.mk hTV
  have HTL := Aside0.mk h.lt
  have HE4 := Aside0.mk e4
  have HE5 := Aside0.mk e5
  have HS := Aside0.mk hs
  have HO1 := Aside0.mk h1o
  clear h hbV hTV hC e4 e5 hg hc hsV hs h1o
  by_cases hf : L.op ≤ (os.length : Int)
  · have hf1 : decide ((os.length : Int) ≥ L.op) = true := decide_eq_true hf
    have HF := Aside0.mk hf
    go_enter Try.func32, Try.ntmps32
    go_wp2
    go_quiet (fail)
    obtain ⟨w0, hw0⟩ : ∃ w0, V.drewN nq = w0 := ⟨_, rfl⟩
    rw [hw0]
    have hbw0 : Below V.heap.size V w0 := by rw [← hw0]; exact pw_below_drewN (Below.refl _ _) _
    have HB0 := Aside0.mk hbw0
    have HPOS : Aside0 (0 < os.length) := ⟨by have h1 := HO1.out; omega⟩
    have hdr := drop_calls (HTV.out.below hbw0) 0 HPOS.out (by have := HS.out.1; omega)
    rw [show ((0 : Nat) : Int) = 0 from rfl] at hdr
    have HDR := Aside0.mk hdr
    clear hw0 hbw0 hdr g0 g1 g2 g3 g4 hf1 hf hV hl
    go_wp2_with fail
    refine HDR.out.mono ?_
    rintro e1 w1 ⟨rfl, hf1, hT1⟩
    have HT1 := Aside0.mk hT1
    have hlow : ∀ k, k < V.heap.size → ¬ own k → w1.heap[k]? = V.heap[k]? := fun k hk hn => (hf1.block k (Nat.lt_of_lt_of_le hk HB0.out.size) hn).trans (HB0.out.block k hk)
    have HF1 : Aside0 (Fr own W w1) := ⟨(Fr.of_below (below_then HBV.out HBV.out.size HB0.out)).then_ hf1 (fun q _ hq => hq)⟩
    have HX4 := Aside0.mk ((hlow _ (blk_lt HE4.out) (fun e => by have := HTL.out _ e; omega)).trans HE4.out)
    have HX5 := Aside0.mk ((hlow _ (blk_lt HE5.out) (fun e => by have := HTL.out _ e; omega)).trans HE5.out)
    obtain ⟨os1, hos1⟩ : ∃ os1, os.eraseIdx 0 = os1 := ⟨_, rfl⟩
    have HA1 : Aside0 (∀ x : OB, x.a = ⟨f, g.ep, g.id, g.cnt, g.ver, 0, []⟩ → aOf (os1 ++ [x]) = begA L (aOf os) ⟨f, g.ep, g.id, g.cnt, g.ver, 0, []⟩) := ⟨fun x hx => by
      unfold begA
      rw [aOf_app, aOf_len, if_pos (show (os.length : Int) ≥ L.op from HF.out), ← hos1, ← hx, aOf_eraseIdx]
      rfl⟩
    have HLN : Aside0 (os1.length ≤ 1000) := ⟨by rw [← hos1, List.length_eraseIdx_of_lt HPOS.out]; have := HS.out.1; omega⟩
    rw [hos1] at HT1
    clear hT1 hf1 hlow hos1
    have hwc : wrap64 g.cnt = g.cnt := by have := HGM.out; unfold Gm at this; unfold wrap64; omega
    have y0 : w1.cell? ⟨W.heap.size + 1, 5, none⟩ = some (.int .u16 g.cnt) := (blk_cell HX5.out 5).trans rfl
    go_wp2_with fail
    refine (pnew_ok g.cnt w1 HC1.out (by have := HGM.out; unfold Gm at this; omega)).mono ?_
    rintro e2 w2 ⟨p, rfl, hb2, hPA⟩
    have hT2 := HT1.out.below hb2
    obtain ⟨v, oB, hb, hbag, hown⟩ := hT2.st
    obtain ⟨X, hX⟩ : ∃ X, w2.drew = X := ⟨_, rfl⟩
    have hbX : Below w2.heap.size w2 X := by rw [← hX]; exact (Below.refl _ _).drew
    have hszX : X.heap.size = w2.heap.size := by rw [← hX]; rfl
    have hbagX := hbag.frame OPA.fr (Fr.of_below hbX (own := fun _ => False)) (fun _ _ h => h)
    obtain ⟨oL, hR, hL⟩ := hbagX.row
    have hbt := (hbX.block t (hT2.lt t hT2.ot)).trans hb
    have hx4 := (hb2.block _ (blk_lt HX4.out)).trans HX4.out
    have hx5 := (hb2.block _ (blk_lt HX5.out)).trans HX5.out
    have hy4 := (hbX.block _ (blk_lt hx4)).trans hx4
    have hy5 := (hbX.block _ (blk_lt hx5)).trans hx5
    have x0 : X.cell? ⟨t, 4, none⟩ = some v := (blk_cell hbt 4).trans rfl
    have x1 : X.cell? ⟨W.heap.size, 0, none⟩ = some (.int .u16 f) := (blk_cell hy4 0).trans rfl
    have x2 : X.cell? ⟨W.heap.size, 1, none⟩ = some (.int .u32 g.ep) := (blk_cell hy4 1).trans rfl
    have x3 : X.cell? ⟨W.heap.size, 2, none⟩ = some (.int .u32 g.id) := (blk_cell hy4 2).trans rfl
    have x4 : X.cell? ⟨W.heap.size + 1, 5, none⟩ = some (.int .u16 g.cnt) := (blk_cell hy5 5).trans rfl
    have x5 : X.cell? ⟨W.heap.size + 1, 1, none⟩ = some (.int .u8 g.ver) := (blk_cell hy5 1).trans rfl
    have HR := Aside0.mk hR
    have HBAG := Aside0.mk hbagX
    have HLL := Aside0.mk hL
    have HOWN := Aside0.mk hown
    have HT2 := Aside0.mk hT2
    have HBT := Aside0.mk hbt
    have HSX := Aside0.mk hszX
    have HPA := Aside0.mk hPA
    have HB2 := Aside0.mk hb2
    have HBX := Aside0.mk hbX
    have HLT : Aside0 (t < X.heap.size) := ⟨blk_lt hbt⟩
    have HNT : Aside0 (v.ownBlock ≠ some t) := ⟨fun e => (hown t (hL t (hR.1 t e)).1).2 rfl⟩
    clear hR hbagX hL hown hT2 hbt hszX hPA hb2 hbX hx4 hx5 hy4 hy5 hb hbag y0
    have hs0 : BegS t W.heap.size v f g w2.drew := by rw [hX]; exact ⟨x0, x1, x2, x3, x4, x5⟩
    go_wp2_with fail
    refine start_ (n := 17) (S := BegS t W.heap.size v f g) (ds := [13, 16]) #[false, false, false, false, false, false, false, false, false, false, false, false, false, false, false, false, false] (by kernel_rfl) rfl rfl hs0 (fun hH => ?_)
    clear hs0
    rw [hX] at hH ⊢
    clear hX
    refine pure_ (i := 0) (N := some 29) (v := ?_) (a' := ?_) #[true, false, false, false, false, false, false, false, false, false, false, false, false, false, false, false, false] rfl rfl (by kernel_rfl) (fun _ _ _ h => h) (Or.inl ⟨by rfl, ?_⟩) ?_ ?_
    rotate_left
    · intro w'
      go_simp
      with_reducible rfl
    rotate_left
    · simp only [Act.put, List.setIfInBounds_toArray, List.set_cons_zero, List.set_cons_succ, i64_w, i32_w]
      rfl
    refine pure_ (i := 1) (N := some 30) (v := ?_) (a' := ?_) #[true, true, false, false, false, false, false, false, false, false, false, false, false, false, false, false, false] rfl rfl (by kernel_rfl) (fun _ _ _ h => h) (Or.inl ⟨by rfl, ?_⟩) ?_ ?_
    rotate_left
    · intro w'
      go_simp
      with_reducible rfl
    rotate_left
    · simp only [Act.put, List.setIfInBounds_toArray, List.set_cons_zero, List.set_cons_succ, i64_w, i32_w]
      rfl
    refine pure_ (i := 2) (N := some 31) (v := ?_) (a' := ?_) #[true, true, true, false, false, false, false, false, false, false, false, false, false, false, false, false, false] rfl rfl (by kernel_rfl) (fun _ _ _ h => h) (Or.inl ⟨by rfl, ?_⟩) ?_ ?_
    rotate_left
    · intro w'
      go_simp
      with_reducible rfl
    rotate_left
    · simp only [Act.put, List.setIfInBounds_toArray, List.set_cons_zero, List.set_cons_succ, i64_w, i32_w]
      rfl
    refine pure_ (i := 3) (N := some 32) (v := ?_) (a' := ?_) #[true, true, true, true, false, false, false, false, false, false, false, false, false, false, false, false, false] rfl rfl (by kernel_rfl) (fun _ _ _ h => h) (Or.inl ⟨by rfl, ?_⟩) ?_ ?_
    rotate_left
    · intro w'
      go_simp
      with_reducible rfl
    rotate_left
    · simp only [Act.put, List.setIfInBounds_toArray, List.set_cons_zero, List.set_cons_succ, i64_w, i32_w]
      rfl
    refine take_ (i := 4) (N := some 33) (v := ?_) (a' := ?_) #[true, true, true, true, true, false, false, false, false, false, false, false, false, false, false, false, false] rfl rfl (by kernel_rfl) (fun _ _ _ h => h) (Or.inl ⟨by rfl, ?_⟩) hH ?_ ?_
    rotate_left
    · rintro w' ⟨s0, s1, s2, s3, s4, s5⟩
      go_simp
      with_reducible rfl
    rotate_left
    · simp only [Act.put, List.setIfInBounds_toArray, List.set_cons_zero, List.set_cons_succ, i64_w, i32_w]
      rfl
    refine take_ (i := 5) (N := some 34) (v := ?_) (a' := ?_) #[true, true, true, true, true, true, false, false, false, false, false, false, false, false, false, false, false] rfl rfl (by kernel_rfl) (fun _ _ _ h => h) (Or.inl ⟨by rfl, ?_⟩) hH ?_ ?_
    rotate_left
    · rintro w' ⟨s0, s1, s2, s3, s4, s5⟩
      go_simp
      with_reducible rfl
    rotate_left
    · simp only [Act.put, List.setIfInBounds_toArray, List.set_cons_zero, List.set_cons_succ, i64_w, i32_w]
      rfl
    refine pure_ (i := 6) (N := some 35) (v := ?_) (a' := ?_) #[true, true, true, true, true, true, true, false, false, false, false, false, false, false, false, false, false] rfl rfl (by kernel_rfl) (fun _ _ _ h => h) (Or.inl ⟨by rfl, ?_⟩) ?_ ?_
    rotate_left
    · intro w'
      go_simp
      with_reducible rfl
    rotate_left
    · simp only [Act.put, List.setIfInBounds_toArray, List.set_cons_zero, List.set_cons_succ, i64_w, i32_w]
      rfl
    refine take_ (i := 7) (N := some 36) (v := ?_) (a' := ?_) #[true, true, true, true, true, true, true, true, false, false, false, false, false, false, false, false, false] rfl rfl (by kernel_rfl) (fun _ _ _ h => h) (Or.inl ⟨by rfl, ?_⟩) hH ?_ ?_
    rotate_left
    · rintro w' ⟨s0, s1, s2, s3, s4, s5⟩
      go_simp
      with_reducible rfl
    rotate_left
    · simp only [Act.put, List.setIfInBounds_toArray, List.set_cons_zero, List.set_cons_succ, i64_w, i32_w]
      rfl
    refine pure_ (i := 8) (N := some 37) (v := ?_) (a' := ?_) #[true, true, true, true, true, true, true, true, true, false, false, false, false, false, false, false, false] rfl rfl (by kernel_rfl) (fun _ _ _ h => h) (Or.inl ⟨by rfl, ?_⟩) ?_ ?_
    rotate_left
    · intro w'
      go_simp
      with_reducible rfl
    rotate_left
    · simp only [Act.put, List.setIfInBounds_toArray, List.set_cons_zero, List.set_cons_succ, i64_w, i32_w]
      rfl
    refine take_ (i := 9) (N := some 38) (v := ?_) (a' := ?_) #[true, true, true, true, true, true, true, true, true, true, false, false, false, false, false, false, false] rfl rfl (by kernel_rfl) (fun _ _ _ h => h) (Or.inl ⟨by rfl, ?_⟩) hH ?_ ?_
    rotate_left
    · rintro w' ⟨s0, s1, s2, s3, s4, s5⟩
      go_simp
      with_reducible rfl
    rotate_left
    · simp only [Act.put, List.setIfInBounds_toArray, List.set_cons_zero, List.set_cons_succ, i64_w, i32_w]
      rfl
    refine pure_ (i := 10) (N := some 39) (v := ?_) (a' := ?_) #[true, true, true, true, true, true, true, true, true, true, true, false, false, false, false, false, false] rfl rfl (by kernel_rfl) (fun _ _ _ h => h) (Or.inl ⟨by rfl, ?_⟩) ?_ ?_
    rotate_left
    · intro w'
      go_simp
      with_reducible rfl
    rotate_left
    · simp only [Act.put, List.setIfInBounds_toArray, List.set_cons_zero, List.set_cons_succ, i64_w, i32_w]
      rfl
    refine pure_ (i := 11) (N := some 40) (v := ?_) (a' := ?_) #[true, true, true, true, true, true, true, true, true, true, true, true, false, false, false, false, false] rfl rfl (by kernel_rfl) (fun _ _ _ h => h) (Or.inl ⟨by rfl, ?_⟩) ?_ ?_
    rotate_left
    · intro w'
      go_simp
      with_reducible rfl
    rotate_left
    · simp only [Act.put, List.setIfInBounds_toArray, List.set_cons_zero, List.set_cons_succ, i64_w, i32_w]
      rfl
    refine one_ (i := 12) (N := some 41) #[true, true, true, true, true, true, true, true, true, true, true, true, true, false, false, false, false] rfl rfl (by kernel_rfl) (by decide) (fun K hK => ?_)
    refine value_ (w1 := X.alloc (.cells #[.int .u16 f, .int .u32 g.ep, .int .u32 g.id, .int .u16 g.cnt, .int .u8 g.ver, .int .i64 0, .pointer (some ⟨p, 0, none⟩)] 69)) (v := .slice (some ⟨X.heap.size, 0, none⟩) 1 1) (by rfl) rfl ?_ ?_
    · go_simp
      try rfl
    have hS_ : BegS t W.heap.size v f g (X.alloc (.cells #[.int .u16 f, .int .u32 g.ep, .int .u32 g.id, .int .u16 g.cnt, .int .u8 g.ver, .int .i64 0, .pointer (some ⟨p, 0, none⟩)] 69)) := hH.below (below_alloc (Below.refl _ _) _)
    refine hK.out _ _ hS_ (fun hH1 => ?_)
    clear hS_
    clear hK K
    refine norm_ (a' := ?_) ?_ ?_
    rotate_left
    · show Act.put _ (some 41) _ = _
      simp only [Act.put, List.setIfInBounds_toArray, List.set_cons_zero, List.set_cons_succ, i64_w, i32_w]
      rfl
    refine last_ (i := 13) (N := some 42) #[true, true, true, true, true, true, true, true, true, true, true, true, true, true, false, false, false] rfl rfl (by kernel_rfl) (by decide) (fun K hK => ?_)
    refine Kd.R_append_step k7 (w0 := X) 0 (by rfl) _ _ 62 69 _ 32 rfl Try.underlying62 i69 rfl (by decide) (by decide) v os1 ⟨⟨f, g.ep, g.id, g.cnt, g.ver, 0, []⟩, p, fun k => w1.heap.size ≤ k ∧ k < w2.heap.size⟩ [.int .u16 f, .int .u32 g.ep, .int .u32 g.id, .int .u16 g.cnt, .int .u8 g.ver, .int .i64 0, .pointer (some ⟨p, 0, none⟩)] (fun k => oL k ∨ X.heap.size ≤ k) (fun _ => False) rfl rfl (k7_mkM _ _ _ _) (fun _ h => h.elim) (fun _ h => .inr h) (Kd.R_mono HR.out (fun _ h => .inl h)) (Below.refl _ _) (Nat.zero_le _) (by have := HLN.out; omega) ?_
    intro v1 w3 hO3 hb3 hg3 hat3
    obtain ⟨C, d, rfl, hlcd, hC3⟩ := Kd.R_reads hO3
    clear hC3 hlcd
    have hbt : w3.heap[t]? = some (.cells #[.bool true, .int .i64 L.op, .int .i64 L.by_, .int .i64 L.ex, v] 64 (0, 0)) := (hg3.block t (by have := HLT.out; exact this) (fun e => HNT.out e.symm)).trans HBT.out
    have hft : w3.frozen? ⟨t, 4, none⟩ = false := blk_frozen hbt 4
    have hct : w3.cell? ⟨t, 4, none⟩ = some v := (blk_cell hbt 4).trans rfl
    have HO3 := Aside0.mk hO3; have HB3 := Aside0.mk hb3; have HG3 := Aside0.mk hg3; have HA3 := Aside0.mk hat3; have HBT3 := Aside0.mk hbt
    clear hO3 hb3 hg3 hat3 hbt
    refine hK.out _ _ ?_
    clear hK K
    refine norm_ (a' := ?_) ?_ ?_
    rotate_left
    · show Act.put _ (some 42) _ = _
      simp only [Act.put, List.setIfInBounds_toArray, List.set_cons_zero, List.set_cons_succ, i64_w, i32_w]
      rfl
    refine pure_ (i := 14) (N := some 43) (v := ?_) (a' := ?_) #[true, true, true, true, true, true, true, true, true, true, true, true, true, true, true, false, false] rfl rfl (by kernel_rfl) (fun _ _ _ h => h) (Or.inl ⟨by rfl, ?_⟩) ?_ ?_
    rotate_left
    · intro w'
      go_simp
      with_reducible rfl
    rotate_left
    · simp only [Act.put, List.setIfInBounds_toArray, List.set_cons_zero, List.set_cons_succ, i64_w, i32_w]
      rfl
    refine pure_ (i := 15) (N := some 44) (v := ?_) (a' := ?_) #[true, true, true, true, true, true, true, true, true, true, true, true, true, true, true, true, false] rfl rfl (by kernel_rfl) (fun _ _ _ h => h) (Or.inl ⟨by rfl, ?_⟩) ?_ ?_
    rotate_left
    · intro w'
      go_simp
      with_reducible rfl
    rotate_left
    · simp only [Act.put, List.setIfInBounds_toArray, List.set_cons_zero, List.set_cons_succ, i64_w, i32_w]
      rfl
    refine last_ (i := 16) (N := none) #[true, true, true, true, true, true, true, true, true, true, true, true, true, true, true, true, true] rfl rfl (by kernel_rfl) (by decide) (fun K hK => ?_)
    refine skip_ (w1 := w3.setCell ⟨t, 4, none⟩ (.slice C (os1 ++ [(⟨⟨f, g.ep, g.id, g.cnt, g.ver, 0, []⟩, p, fun k => w1.heap.size ≤ k ∧ k < w2.heap.size⟩ : OB)]).length d)) (by rfl) rfl ?_ ?_
    · go_simp
      try rfl
    show K (Act.put _ none undef) _
    refine hK.out _ _ ?_
    clear hK K
    refine norm_ (a' := ?_) ?_ ?_
    rotate_left
    · show Act.put _ (none) _ = _
      simp only [Act.put, List.setIfInBounds_toArray, List.set_cons_zero, List.set_cons_succ, i64_w, i32_w]
      rfl
    refine done_ (by kernel_rfl) ?_
    have hsz4 : (w3.setCell ⟨t, 4, none⟩ (.slice C (os1 ++ [(⟨⟨f, g.ep, g.id, g.cnt, g.ver, 0, []⟩, p, fun k => w1.heap.size ≤ k ∧ k < w2.heap.size⟩ : OB)]).length d)).heap.size = w3.heap.size := by simp [World.setCell]
    have hblk := blk_set HBT3.out 4 (.slice C (os1 ++ [(⟨⟨f, g.ep, g.id, g.cnt, g.ver, 0, []⟩, p, fun k => w1.heap.size ≤ k ∧ k < w2.heap.size⟩ : OB)]).length d)
    have hlen : (os1 ++ [(⟨⟨f, g.ep, g.id, g.cnt, g.ver, 0, []⟩, p, fun k => w1.heap.size ≤ k ∧ k < w2.heap.size⟩ : OB)]).length = os1.length + 1 := by simp
    have HLEN := Aside0.mk hlen
    have HS4 := Aside0.mk hsz4
    have HBL := Aside0.mk hblk
    have z4 : (w3.setCell ⟨t, 4, none⟩ (.slice C (os1 ++ [(⟨⟨f, g.ep, g.id, g.cnt, g.ver, 0, []⟩, p, fun k => w1.heap.size ≤ k ∧ k < w2.heap.size⟩ : OB)]).length d)).cell? ⟨t, 4, none⟩ = some (.slice C (os1 ++ [(⟨⟨f, g.ep, g.id, g.cnt, g.ver, 0, []⟩, p, fun k => w1.heap.size ≤ k ∧ k < w2.heap.size⟩ : OB)]).length d) := by rw [blk_cell hblk 4]; simp
    rw [hlen] at z4 ⊢
    clear hlen hsz4 hblk x0 x1 x2 x3 x4 x5
    go_wp2
    go_ret
    rw [← HLEN.out]
    exact begin_end HT1.out HF1.out HB2.out HSX.out HBX.out HPA.out HT2.out HBAG.out HLL.out HOWN.out HR.out HO3.out HG3.out rfl HBL.out HS4.out (HA1.out _ rfl) (by have := HLN.out; unfold wrap64; omega)
  · have hf1 : decide ((os.length : Int) ≥ L.op) = false := decide_eq_false hf
    have HF := Aside0.mk hf
    go_enter Try.func32, Try.ntmps32
    go_wp2
    go_quiet (fail)
    obtain ⟨w1, hw1⟩ : ∃ w1, V.drewN nq = w1 := ⟨_, rfl⟩
    rw [hw1]
    have hbw1 : Below V.heap.size V w1 := by rw [← hw1]; exact pw_below_drewN (Below.refl _ _) _
    have HT1 := Aside0.mk (HTV.out.below hbw1)
    have HF1 : Aside0 (Fr own W w1) := ⟨Fr.of_below (below_then HBV.out HBV.out.size hbw1)⟩
    have HX4 := Aside0.mk ((hbw1.block _ (blk_lt HE4.out)).trans HE4.out)
    have HX5 := Aside0.mk ((hbw1.block _ (blk_lt HE5.out)).trans HE5.out)
    obtain ⟨os1, hos1⟩ : ∃ os1, os = os1 := ⟨_, rfl⟩
    have HA1 : Aside0 (∀ x : OB, x.a = ⟨f, g.ep, g.id, g.cnt, g.ver, 0, []⟩ → aOf (os1 ++ [x]) = begA L (aOf os) ⟨f, g.ep, g.id, g.cnt, g.ver, 0, []⟩) := ⟨fun x hx => by
      unfold begA
      rw [aOf_app, aOf_len, if_neg (show ¬ (os.length : Int) ≥ L.op by omega), ← hos1, ← hx]
      rfl⟩
    have HLN : Aside0 (os1.length ≤ 1000) := ⟨by rw [← hos1]; exact HS.out.1⟩
    rw [hos1] at HT1
    clear hw1 hbw1 hos1 g0 g1 g2 g3 g4 hf1 hf hV hl
    have hwc : wrap64 g.cnt = g.cnt := by have := HGM.out; unfold Gm at this; unfold wrap64; omega
    have y0 : w1.cell? ⟨W.heap.size + 1, 5, none⟩ = some (.int .u16 g.cnt) := (blk_cell HX5.out 5).trans rfl
    go_wp2_with fail
    refine (pnew_ok g.cnt w1 HC1.out (by have := HGM.out; unfold Gm at this; omega)).mono ?_
    rintro e2 w2 ⟨p, rfl, hb2, hPA⟩
    have hT2 := HT1.out.below hb2
    obtain ⟨v, oB, hb, hbag, hown⟩ := hT2.st
    obtain ⟨X, hX⟩ : ∃ X, w2.drew = X := ⟨_, rfl⟩
    have hbX : Below w2.heap.size w2 X := by rw [← hX]; exact (Below.refl _ _).drew
    have hszX : X.heap.size = w2.heap.size := by rw [← hX]; rfl
    have hbagX := hbag.frame OPA.fr (Fr.of_below hbX (own := fun _ => False)) (fun _ _ h => h)
    obtain ⟨oL, hR, hL⟩ := hbagX.row
    have hbt := (hbX.block t (hT2.lt t hT2.ot)).trans hb
    have hx4 := (hb2.block _ (blk_lt HX4.out)).trans HX4.out
    have hx5 := (hb2.block _ (blk_lt HX5.out)).trans HX5.out
    have hy4 := (hbX.block _ (blk_lt hx4)).trans hx4
    have hy5 := (hbX.block _ (blk_lt hx5)).trans hx5
    have x0 : X.cell? ⟨t, 4, none⟩ = some v := (blk_cell hbt 4).trans rfl
    have x1 : X.cell? ⟨W.heap.size, 0, none⟩ = some (.int .u16 f) := (blk_cell hy4 0).trans rfl
    have x2 : X.cell? ⟨W.heap.size, 1, none⟩ = some (.int .u32 g.ep) := (blk_cell hy4 1).trans rfl
    have x3 : X.cell? ⟨W.heap.size, 2, none⟩ = some (.int .u32 g.id) := (blk_cell hy4 2).trans rfl
    have x4 : X.cell? ⟨W.heap.size + 1, 5, none⟩ = some (.int .u16 g.cnt) := (blk_cell hy5 5).trans rfl
    have x5 : X.cell? ⟨W.heap.size + 1, 1, none⟩ = some (.int .u8 g.ver) := (blk_cell hy5 1).trans rfl
    have HR := Aside0.mk hR
    have HBAG := Aside0.mk hbagX
    have HLL := Aside0.mk hL
    have HOWN := Aside0.mk hown
    have HT2 := Aside0.mk hT2
    have HBT := Aside0.mk hbt
    have HSX := Aside0.mk hszX
    have HPA := Aside0.mk hPA
    have HB2 := Aside0.mk hb2
    have HBX := Aside0.mk hbX
    have HLT : Aside0 (t < X.heap.size) := ⟨blk_lt hbt⟩
    have HNT : Aside0 (v.ownBlock ≠ some t) := ⟨fun e => (hown t (hL t (hR.1 t e)).1).2 rfl⟩
    clear hR hbagX hL hown hT2 hbt hszX hPA hb2 hbX hx4 hx5 hy4 hy5 hb hbag y0
    have hs0 : BegS t W.heap.size v f g w2.drew := by rw [hX]; exact ⟨x0, x1, x2, x3, x4, x5⟩
    go_wp2_with fail
    refine start_ (n := 17) (S := BegS t W.heap.size v f g) (ds := [13, 16]) #[false, false, false, false, false, false, false, false, false, false, false, false, false, false, false, false, false] (by kernel_rfl) rfl rfl hs0 (fun hH => ?_)
    clear hs0
    rw [hX] at hH ⊢
    clear hX
    refine pure_ (i := 0) (N := some 29) (v := ?_) (a' := ?_) #[true, false, false, false, false, false, false, false, false, false, false, false, false, false, false, false, false] rfl rfl (by kernel_rfl) (fun _ _ _ h => h) (Or.inl ⟨by rfl, ?_⟩) ?_ ?_
    rotate_left
    · intro w'
      go_simp
      with_reducible rfl
    rotate_left
    · simp only [Act.put, List.setIfInBounds_toArray, List.set_cons_zero, List.set_cons_succ, i64_w, i32_w]
      rfl
    refine pure_ (i := 1) (N := some 30) (v := ?_) (a' := ?_) #[true, true, false, false, false, false, false, false, false, false, false, false, false, false, false, false, false] rfl rfl (by kernel_rfl) (fun _ _ _ h => h) (Or.inl ⟨by rfl, ?_⟩) ?_ ?_
    rotate_left
    · intro w'
      go_simp
      with_reducible rfl
    rotate_left
    · simp only [Act.put, List.setIfInBounds_toArray, List.set_cons_zero, List.set_cons_succ, i64_w, i32_w]
      rfl
    refine pure_ (i := 2) (N := some 31) (v := ?_) (a' := ?_) #[true, true, true, false, false, false, false, false, false, false, false, false, false, false, false, false, false] rfl rfl (by kernel_rfl) (fun _ _ _ h => h) (Or.inl ⟨by rfl, ?_⟩) ?_ ?_
    rotate_left
    · intro w'
      go_simp
      with_reducible rfl
    rotate_left
    · simp only [Act.put, List.setIfInBounds_toArray, List.set_cons_zero, List.set_cons_succ, i64_w, i32_w]
      rfl
    refine pure_ (i := 3) (N := some 32) (v := ?_) (a' := ?_) #[true, true, true, true, false, false, false, false, false, false, false, false, false, false, false, false, false] rfl rfl (by kernel_rfl) (fun _ _ _ h => h) (Or.inl ⟨by rfl, ?_⟩) ?_ ?_
    rotate_left
    · intro w'
      go_simp
      with_reducible rfl
    rotate_left
    · simp only [Act.put, List.setIfInBounds_toArray, List.set_cons_zero, List.set_cons_succ, i64_w, i32_w]
      rfl
    refine take_ (i := 4) (N := some 33) (v := ?_) (a' := ?_) #[true, true, true, true, true, false, false, false, false, false, false, false, false, false, false, false, false] rfl rfl (by kernel_rfl) (fun _ _ _ h => h) (Or.inl ⟨by rfl, ?_⟩) hH ?_ ?_
    rotate_left
    · rintro w' ⟨s0, s1, s2, s3, s4, s5⟩
      go_simp
      with_reducible rfl
    rotate_left
    · simp only [Act.put, List.setIfInBounds_toArray, List.set_cons_zero, List.set_cons_succ, i64_w, i32_w]
      rfl
    refine take_ (i := 5) (N := some 34) (v := ?_) (a' := ?_) #[true, true, true, true, true, true, false, false, false, false, false, false, false, false, false, false, false] rfl rfl (by kernel_rfl) (fun _ _ _ h => h) (Or.inl ⟨by rfl, ?_⟩) hH ?_ ?_
    rotate_left
    · rintro w' ⟨s0, s1, s2, s3, s4, s5⟩
      go_simp
      with_reducible rfl
    rotate_left
    · simp only [Act.put, List.setIfInBounds_toArray, List.set_cons_zero, List.set_cons_succ, i64_w, i32_w]
      rfl
    refine pure_ (i := 6) (N := some 35) (v := ?_) (a' := ?_) #[true, true, true, true, true, true, true, false, false, false, false, false, false, false, false, false, false] rfl rfl (by kernel_rfl) (fun _ _ _ h => h) (Or.inl ⟨by rfl, ?_⟩) ?_ ?_
    rotate_left
    · intro w'
      go_simp
      with_reducible rfl
    rotate_left
    · simp only [Act.put, List.setIfInBounds_toArray, List.set_cons_zero, List.set_cons_succ, i64_w, i32_w]
      rfl
    refine take_ (i := 7) (N := some 36) (v := ?_) (a' := ?_) #[true, true, true, true, true, true, true, true, false, false, false, false, false, false, false, false, false] rfl rfl (by kernel_rfl) (fun _ _ _ h => h) (Or.inl ⟨by rfl, ?_⟩) hH ?_ ?_
    rotate_left
    · rintro w' ⟨s0, s1, s2, s3, s4, s5⟩
      go_simp
      with_reducible rfl
    rotate_left
    · simp only [Act.put, List.setIfInBounds_toArray, List.set_cons_zero, List.set_cons_succ, i64_w, i32_w]
      rfl
    refine pure_ (i := 8) (N := some 37) (v := ?_) (a' := ?_) #[true, true, true, true, true, true, true, true, true, false, false, false, false, false, false, false, false] rfl rfl (by kernel_rfl) (fun _ _ _ h => h) (Or.inl ⟨by rfl, ?_⟩) ?_ ?_
    rotate_left
    · intro w'
      go_simp
      with_reducible rfl
    rotate_left
    · simp only [Act.put, List.setIfInBounds_toArray, List.set_cons_zero, List.set_cons_succ, i64_w, i32_w]
      rfl
    refine take_ (i := 9) (N := some 38) (v := ?_) (a' := ?_) #[true, true, true, true, true, true, true, true, true, true, false, false, false, false, false, false, false] rfl rfl (by kernel_rfl) (fun _ _ _ h => h) (Or.inl ⟨by rfl, ?_⟩) hH ?_ ?_
    rotate_left
    · rintro w' ⟨s0, s1, s2, s3, s4, s5⟩
      go_simp
      with_reducible rfl
    rotate_left
    · simp only [Act.put, List.setIfInBounds_toArray, List.set_cons_zero, List.set_cons_succ, i64_w, i32_w]
      rfl
    refine pure_ (i := 10) (N := some 39) (v := ?_) (a' := ?_) #[true, true, true, true, true, true, true, true, true, true, true, false, false, false, false, false, false] rfl rfl (by kernel_rfl) (fun _ _ _ h => h) (Or.inl ⟨by rfl, ?_⟩) ?_ ?_
    rotate_left
    · intro w'
      go_simp
      with_reducible rfl
    rotate_left
    · simp only [Act.put, List.setIfInBounds_toArray, List.set_cons_zero, List.set_cons_succ, i64_w, i32_w]
      rfl
    refine pure_ (i := 11) (N := some 40) (v := ?_) (a' := ?_) #[true, true, true, true, true, true, true, true, true, true, true, true, false, false, false, false, false] rfl rfl (by kernel_rfl) (fun _ _ _ h => h) (Or.inl ⟨by rfl, ?_⟩) ?_ ?_
    rotate_left
    · intro w'
      go_simp
      with_reducible rfl
    rotate_left
    · simp only [Act.put, List.setIfInBounds_toArray, List.set_cons_zero, List.set_cons_succ, i64_w, i32_w]
      rfl
    refine one_ (i := 12) (N := some 41) #[true, true, true, true, true, true, true, true, true, true, true, true, true, false, false, false, false] rfl rfl (by kernel_rfl) (by decide) (fun K hK => ?_)
    refine value_ (w1 := X.alloc (.cells #[.int .u16 f, .int .u32 g.ep, .int .u32 g.id, .int .u16 g.cnt, .int .u8 g.ver, .int .i64 0, .pointer (some ⟨p, 0, none⟩)] 69)) (v := .slice (some ⟨X.heap.size, 0, none⟩) 1 1) (by rfl) rfl ?_ ?_
    · go_simp
      try rfl
    have hS_ : BegS t W.heap.size v f g (X.alloc (.cells #[.int .u16 f, .int .u32 g.ep, .int .u32 g.id, .int .u16 g.cnt, .int .u8 g.ver, .int .i64 0, .pointer (some ⟨p, 0, none⟩)] 69)) := hH.below (below_alloc (Below.refl _ _) _)
    refine hK.out _ _ hS_ (fun hH1 => ?_)
    clear hS_
    clear hK K
    refine norm_ (a' := ?_) ?_ ?_
    rotate_left
    · show Act.put _ (some 41) _ = _
      simp only [Act.put, List.setIfInBounds_toArray, List.set_cons_zero, List.set_cons_succ, i64_w, i32_w]
      rfl
    refine last_ (i := 13) (N := some 42) #[true, true, true, true, true, true, true, true, true, true, true, true, true, true, false, false, false] rfl rfl (by kernel_rfl) (by decide) (fun K hK => ?_)
    refine Kd.R_append_step k7 (w0 := X) 0 (by rfl) _ _ 62 69 _ 32 rfl Try.underlying62 i69 rfl (by decide) (by decide) v os1 ⟨⟨f, g.ep, g.id, g.cnt, g.ver, 0, []⟩, p, fun k => w1.heap.size ≤ k ∧ k < w2.heap.size⟩ [.int .u16 f, .int .u32 g.ep, .int .u32 g.id, .int .u16 g.cnt, .int .u8 g.ver, .int .i64 0, .pointer (some ⟨p, 0, none⟩)] (fun k => oL k ∨ X.heap.size ≤ k) (fun _ => False) rfl rfl (k7_mkM _ _ _ _) (fun _ h => h.elim) (fun _ h => .inr h) (Kd.R_mono HR.out (fun _ h => .inl h)) (Below.refl _ _) (Nat.zero_le _) (by have := HLN.out; omega) ?_
    intro v1 w3 hO3 hb3 hg3 hat3
    obtain ⟨C, d, rfl, hlcd, hC3⟩ := Kd.R_reads hO3
    clear hC3 hlcd
    have hbt : w3.heap[t]? = some (.cells #[.bool true, .int .i64 L.op, .int .i64 L.by_, .int .i64 L.ex, v] 64 (0, 0)) := (hg3.block t (by have := HLT.out; exact this) (fun e => HNT.out e.symm)).trans HBT.out
    have hft : w3.frozen? ⟨t, 4, none⟩ = false := blk_frozen hbt 4
    have hct : w3.cell? ⟨t, 4, none⟩ = some v := (blk_cell hbt 4).trans rfl
    have HO3 := Aside0.mk hO3; have HB3 := Aside0.mk hb3; have HG3 := Aside0.mk hg3; have HA3 := Aside0.mk hat3; have HBT3 := Aside0.mk hbt
    clear hO3 hb3 hg3 hat3 hbt
    refine hK.out _ _ ?_
    clear hK K
    refine norm_ (a' := ?_) ?_ ?_
    rotate_left
    · show Act.put _ (some 42) _ = _
      simp only [Act.put, List.setIfInBounds_toArray, List.set_cons_zero, List.set_cons_succ, i64_w, i32_w]
      rfl
    refine pure_ (i := 14) (N := some 43) (v := ?_) (a' := ?_) #[true, true, true, true, true, true, true, true, true, true, true, true, true, true, true, false, false] rfl rfl (by kernel_rfl) (fun _ _ _ h => h) (Or.inl ⟨by rfl, ?_⟩) ?_ ?_
    rotate_left
    · intro w'
      go_simp
      with_reducible rfl
    rotate_left
    · simp only [Act.put, List.setIfInBounds_toArray, List.set_cons_zero, List.set_cons_succ, i64_w, i32_w]
      rfl
    refine pure_ (i := 15) (N := some 44) (v := ?_) (a' := ?_) #[true, true, true, true, true, true, true, true, true, true, true, true, true, true, true, true, false] rfl rfl (by kernel_rfl) (fun _ _ _ h => h) (Or.inl ⟨by rfl, ?_⟩) ?_ ?_
    rotate_left
    · intro w'
      go_simp
      with_reducible rfl
    rotate_left
    · simp only [Act.put, List.setIfInBounds_toArray, List.set_cons_zero, List.set_cons_succ, i64_w, i32_w]
      rfl
    refine last_ (i := 16) (N := none) #[true, true, true, true, true, true, true, true, true, true, true, true, true, true, true, true, true] rfl rfl (by kernel_rfl) (by decide) (fun K hK => ?_)
    refine skip_ (w1 := w3.setCell ⟨t, 4, none⟩ (.slice C (os1 ++ [(⟨⟨f, g.ep, g.id, g.cnt, g.ver, 0, []⟩, p, fun k => w1.heap.size ≤ k ∧ k < w2.heap.size⟩ : OB)]).length d)) (by rfl) rfl ?_ ?_
    · go_simp
      try rfl
    show K (Act.put _ none undef) _
    refine hK.out _ _ ?_
    clear hK K
    refine norm_ (a' := ?_) ?_ ?_
    rotate_left
    · show Act.put _ (none) _ = _
      simp only [Act.put, List.setIfInBounds_toArray, List.set_cons_zero, List.set_cons_succ, i64_w, i32_w]
      rfl
    refine done_ (by kernel_rfl) ?_
    have hsz4 : (w3.setCell ⟨t, 4, none⟩ (.slice C (os1 ++ [(⟨⟨f, g.ep, g.id, g.cnt, g.ver, 0, []⟩, p, fun k => w1.heap.size ≤ k ∧ k < w2.heap.size⟩ : OB)]).length d)).heap.size = w3.heap.size := by simp [World.setCell]
    have hblk := blk_set HBT3.out 4 (.slice C (os1 ++ [(⟨⟨f, g.ep, g.id, g.cnt, g.ver, 0, []⟩, p, fun k => w1.heap.size ≤ k ∧ k < w2.heap.size⟩ : OB)]).length d)
    have hlen : (os1 ++ [(⟨⟨f, g.ep, g.id, g.cnt, g.ver, 0, []⟩, p, fun k => w1.heap.size ≤ k ∧ k < w2.heap.size⟩ : OB)]).length = os1.length + 1 := by simp
    have HLEN := Aside0.mk hlen
    have HS4 := Aside0.mk hsz4
    have HBL := Aside0.mk hblk
    have z4 : (w3.setCell ⟨t, 4, none⟩ (.slice C (os1 ++ [(⟨⟨f, g.ep, g.id, g.cnt, g.ver, 0, []⟩, p, fun k => w1.heap.size ≤ k ∧ k < w2.heap.size⟩ : OB)]).length d)).cell? ⟨t, 4, none⟩ = some (.slice C (os1 ++ [(⟨⟨f, g.ep, g.id, g.cnt, g.ver, 0, []⟩, p, fun k => w1.heap.size ≤ k ∧ k < w2.heap.size⟩ : OB)]).length d) := by rw [blk_cell hblk 4]; simp
    rw [hlen] at z4 ⊢
    clear hlen hsz4 hblk x0 x1 x2 x3 x4 x5
    go_wp2
    go_ret
    rw [← HLEN.out]
    exact begin_end HT1.out HF1.out HB2.out HSX.out HBX.out HPA.out HT2.out HBAG.out HLL.out HOWN.out HR.out HO3.out HG3.out rfl HBL.out HS4.out (HA1.out _ rfl) (by have := HLN.out; unfold wrap64; omega)
end Go.Proofs.Ytaeelmkpjgmdlaa.H
