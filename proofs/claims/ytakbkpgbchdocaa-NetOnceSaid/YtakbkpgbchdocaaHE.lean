/- Mine. Chapter 39, by hand: net.Take. -/
import Derived.Test.YtakbkpgbchdocaaHD
namespace Go.Proofs.Ytakbkpgbchdocaa.H
open Go Go.Proofs Go.RowKit Go.Lib Go.Proofs.Ytakbkpgbchdocaa.P Go.Proofs.YtakbkpgbchdocaaW.PrintWords Go.Proofs.YtakbkpgbchdocaaW.PrintLast Go.Proofs.YtakbkpgbchdocaaW.PrintMore Go.Proofs.YtakbkpgbchdocaaW.PrintFlat
set_option linter.unusedVariables false
set_option linter.unusedSimpArgs false
theorem skip_step {P : Program} {o : Oper} {ops : Array Oper} {a : Act} {W w1 : World} {Kc : Act → World → Prop} {Q : Exit → Act → World → Prop} (hw : Region.wanted o (yielded ops a.tmps) = true) (hrun : (execOp a.eval o).run P W = .ok .skip w1) (h : Kc (a.put o.dst undef) w1) : if Region.wanted o (yielded ops a.tmps) = true then Oper.wp P o a W Kc Q else Kc (a.put o.dst undef) W := by
  rw [if_pos hw]
  unfold Oper.wp
  rw [hrun]
  exact h
/-- An element of a row that is made. -/
theorem own_at {w : World} {base : Nat} {ok : Nat → Prop} {g n c : Nat} {l : List S26} {k : Nat} (h : k26.R 26 w base ok (.slice (some ⟨g, 0, none⟩) n c) l) (hk : k < l.length) :
    ∃ v, w.cell? ⟨g, k * 4, none⟩ = some (.int .u16 (rd_T26 l k).f0) ∧ w.cell? ⟨g, k * 4 + 1, none⟩ = some (.int .u16 (rd_T26 l k).f1) ∧ w.cell? ⟨g, k * 4 + 2, none⟩ = some v ∧ w.cell? ⟨g, k * 4 + 3, none⟩ = some (.bool (rd_T26 l k).f3) ∧
      (Kd.int .u8).R 5 w base (fun q => ok q ∧ q ≠ g) v (rd_T26 l k).f2 := by
  obtain ⟨h0, inner, hown, hr⟩ := h
  have hx : l[k]? = some (rd_T26 l k) := by
    unfold rd_T26
    simp [List.getD_eq_getElem?_getD, hk]
  have hm := hr.2 k _ hx
  obtain ⟨v, hcs, hR⟩ := k26_openM hm
  have hlen := hown.1
  rcases hown.2 with ⟨hv, _⟩ | ⟨g', cap, cur, hv, hg, hh, h3, h4, h5, h6⟩
  · cases hv
  injection hv with ha hn hc
  injection ha with ha
  injection ha with hg'
  subst hg'
  have hcs' : List.take 4 (List.drop (k * 4) inner) = [Value.int .u16 (rd_T26 l k).f0, .int .u16 (rd_T26 l k).f1, v, .bool (rd_T26 l k).f3] := hcs
  have h6' : List.take (l.length * 4) cur.toList = inner := h6
  have hin : ∀ j, j < 4 → w.cell? ⟨g, k * 4 + j, none⟩ = inner[k * 4 + j]? := fun j hj => by
    rw [cell_of_row w g _ cur 26 (0, 0) hh, ← Array.getElem?_toList, ← h6', List.getElem?_take, if_pos (by omega)]
  have hseg : ∀ j, j < 4 → inner[k * 4 + j]? = [Value.int .u16 (rd_T26 l k).f0, .int .u16 (rd_T26 l k).f1, v, .bool (rd_T26 l k).f3][j]? := fun j hj => by
    rw [← hcs', List.getElem?_take, if_pos hj, List.getElem?_drop]
  refine ⟨v, ?_, ?_, ?_, ?_, Kd.R_mono hR (fun q hq => ⟨hq.1, fun e => hq.2 (by rw [e]; rfl)⟩)⟩
  · have := (hin 0 (by omega)).trans (hseg 0 (by omega)); exact this
  · exact (hin 1 (by omega)).trans (hseg 1 (by omega))
  · exact (hin 2 (by omega)).trans (hseg 2 (by omega))
  · exact (hin 3 (by omega)).trans (hseg 3 (by omega))
def takeF (l : List S26) (i : Int) : List S26 × S26 × Int := if 0 ≤ i ∧ i < (l.length : Int) then (l.eraseIdx i.toNat, rd_T26 l i, 0) else (l, z26, 1)
/-- What is read of what Take hands back. -/
def TakeP (ys : List S26) (p : S26) (en : Int) (w : World) (e : Ending) (w' : World) : Prop := ∃ A c Ap cp, e = .returned (.tuple #[.slice A ys.length c, .agg #[.int .u16 p.f0, .int .u16 p.f1, .slice Ap p.f2.length cp, .bool p.f3], .int .i64 en]) ∧ ys.length ≤ c ∧ Kd.C k26 w' A ys.length ys ∧ p.f2.length ≤ cp ∧ Kd.C (Kd.int .u8) w' Ap p.f2.length p.f2 ∧ Below w.heap.size w w'
set_option maxRecDepth 100000 in
set_option maxHeartbeats 4000000 in
theorem take_calls (A0 : Option Addr) (n0 c0 : Nat) (l0 : List S26) (i : Int) (w : World) (hr0 : Kd.C k26 w A0 n0 l0) (hc0 : n0 ≤ c0) (hf : Fits l0) :
    Calls Try.prog 11 #[.slice A0 n0 c0, .int .i64 i] w (TakeP (takeF l0 i).1 (takeF l0 i).2.1 (takeF l0 i).2.2 w) := by
  obtain rfl : l0.length = n0 := hr0.1
  obtain ⟨W, hW⟩ : ∃ W, w.alloc (.cells #[.int .u16 0, .int .u16 0, .slice none 0 0, .bool false] 26) = W := ⟨_, rfl⟩
  have hbW : Below w.heap.size w W := by rw [← hW]; exact below_alloc (Below.refl _ _) _
  have hgW : W.heap[w.heap.size]? = some (.cells #[.int .u16 0, .int .u16 0, .slice none 0 0, .bool false] 26 (0, 0)) := by rw [← hW]; exact heap_alloc_new w _
  have hsW : W.heap.size = w.heap.size + 1 := by rw [← hW]; simp
  obtain ⟨b, hb⟩ : ∃ b, w.heap.size = b := ⟨_, rfl⟩
  rw [hb] at hgW hsW
  have HC := Aside0.mk (copied_calls A0 l0.length c0 l0 W (Kd.C_below hr0 hbW) hc0 (by have := hf.1; omega) (fun x hx => by have := hf.2 x hx; omega))
  have HF := Aside0.mk (And.intro hf hc0)
  have HBW := Aside0.mk hbW
  have HGW := Aside0.mk hgW
  have HSW := Aside0.mk hsW
  have HBB := Aside0.mk hb
  clear hr0 hf hbW hgW hsW
  unfold takeF
  by_cases hin : 0 ≤ i ∧ i < (l0.length : Int)
  · rw [if_pos hin]
    obtain ⟨k, hk⟩ : ∃ k : Nat, i = k := ⟨i.toNat, by omega⟩
    subst hk
    rw [Int.toNat_natCast]
    have hkl : k < l0.length := by omega
    have HKL := Aside0.mk hkl
    have p0 : (0 ≤ (k : Int)) = True := eq_true (by omega)
    have p1 : ((k : Int) < (l0.length : Int)) = True := eq_true (by omega)
    clear hin
    go_enter Try.func11, Try.ntmps11
    go_wp2_with fail
    refine HC.out.mono ?_
    rintro e w2 ⟨v, rfl, hR, hb2⟩
    obtain ⟨g, c, rfl⟩ : ∃ g c, v = .slice (some ⟨g, 0, none⟩) l0.length c := by
      obtain ⟨_, inner, hown, _⟩ := hR
      rcases hown.2 with ⟨_, h0⟩ | ⟨g, cap, cur, hv, _⟩
      · omega
      · exact ⟨g, cap, hv⟩
    obtain ⟨v2, x0, x1, x2, x3, hR2⟩ := own_at hR hkl
    obtain ⟨x, hx⟩ : ∃ x, rd_T26 l0 k = x := ⟨_, rfl⟩
    have hx' : rd_T26 l0 (k : Int) = x := hx
    rw [hx] at x0 x1 x3 hR2
    obtain ⟨A2, c2, rfl, hl2, _⟩ := Kd.R_reads hR2
    have HX := Aside0.mk (And.intro x0 (And.intro x1 (And.intro x2 x3)))
    have HR := Aside0.mk hR
    have HR2 := Aside0.mk hR2
    have HL2 := Aside0.mk hl2
    have HB := Aside0.mk hb2
    have hlc := (Kd.R_reads' hR).2.1
    have HPL := Aside0.mk (place_ok (some ⟨g, 0, none⟩) c l0 k w2 (Kd.R_reads' hR).2.2 hlc)
    rw [decide_eq_true (show 0 ≤ (k : Int) ∧ (k : Int) < (l0.length : Int) by omega)] at HPL
    rw [hx']
    have hgb := (hb2.block b (by have := HSW.out; omega)).trans HGW.out
    have HGB := Aside0.mk hgb
    clear hR hb2 hgb hW hR2 hl2 hlc x0 x1 x2 x3
    go_wp2_with fail
    refine HPL.out.mono ?_
    rintro e w3 ⟨rfl, hb3⟩
    have HB3 := Aside0.mk hb3
    have x0 := (hb3.cell (World.block_lt_of_cell? _ _ HX.out.1)).trans HX.out.1
    have x1 := (hb3.cell (World.block_lt_of_cell? _ _ HX.out.2.1)).trans HX.out.2.1
    have x2 := (hb3.cell (World.block_lt_of_cell? _ _ HX.out.2.2.1)).trans HX.out.2.2.1
    have x3 := (hb3.cell (World.block_lt_of_cell? _ _ HX.out.2.2.2)).trans HX.out.2.2.2
    have hmix : Try.prog.follows .mixedOrders = true := by kernel_rfl
    clear hb3
    go_wp2_with fail
    obtain ⟨V, hV⟩ : ∃ V, (w3.alloc (.cells #[.int .u16 x.f0, .int .u16 x.f1, .slice A2 x.f2.length c2, .bool x.f3] 26)).drew = V := ⟨_, rfl⟩
    obtain ⟨g8, hg8⟩ : ∃ g8, w3.heap.size = g8 := ⟨_, rfl⟩
    have hbV : Below w3.heap.size w3 V := by rw [← hV]; exact (below_alloc (Below.refl _ _) _).drew
    have hbox : V.heap[g8]? = some (.cells #[.int .u16 x.f0, .int .u16 x.f1, .slice A2 x.f2.length c2, .bool x.f3] 26 (0, 0)) := by rw [← hV, ← hg8]; exact heap_alloc_new w3 _
    have hRV : k26.R 26 V W.heap.size (fun _ => True) (.slice (some ⟨g, 0, none⟩) l0.length c) l0 := Kd.R_below (Kd.R_below HR.out HB3.out) hbV
    have hR2V : (Kd.int .u8).R 5 V W.heap.size (fun q => True ∧ q ≠ g) (.slice A2 x.f2.length c2) x.f2 := Kd.R_below (Kd.R_below HR2.out HB3.out) hbV
    have hgl : g < w2.heap.size := World.block_lt_of_cell? _ _ HX.out.1
    have hgb' : W.heap.size ≤ g := Kd.R_base HR.out g rfl
    have hwv : W.heap.size ≤ V.heap.size := Nat.le_trans HB.out.size (Nat.le_trans HB3.out.size hbV.size)
    have hbv : V.heap[b]? = some (.cells #[.int .u16 0, .int .u16 0, .slice none 0 0, .bool false] 26 (0, 0)) := by
      rw [hbV.block b (by have := HSW.out; have := HB.out.size; have := HB3.out.size; omega), HB3.out.block b (blk_lt HGB.out)]
      exact HGB.out
    have hne8 : g8 ≠ g := by have := HB3.out.size; omega
    have hne9 : g8 ≠ b := by have := HSW.out; have := HB.out.size; have := HB3.out.size; omega
    have hneb : b ≠ g := by have := HSW.out; omega
    have HDEL := Aside0.mk (del_calls hRV HKL.out hwv (by have := HF.out.1.1; omega))
    have HS4 : Aside0 (∀ w4 : World, V.grownBy w4 (some g) → (w4.cell? ⟨g8, 0, none⟩ = some (.int .u16 x.f0) ∧ w4.cell? ⟨g8, 1, none⟩ = some (.int .u16 x.f1) ∧ w4.cell? ⟨g8, 2, none⟩ = some (.slice A2 x.f2.length c2) ∧ w4.cell? ⟨g8, 3, none⟩ = some (.bool x.f3))) := ⟨fun w4 hg => by
      obtain ⟨z0, z1, z2, z3, _⟩ := box4f ((hg.block g8 (blk_lt hbox) (fun e => hne8 (by cases e; rfl))).trans hbox)
      exact ⟨z0, z1, z2, z3⟩⟩
    have HS5 : Aside0 (∀ w4 : World, (w4.cell? ⟨g8, 0, none⟩ = some (.int .u16 x.f0) ∧ w4.cell? ⟨g8, 1, none⟩ = some (.int .u16 x.f1) ∧ w4.cell? ⟨g8, 2, none⟩ = some (.slice A2 x.f2.length c2) ∧ w4.cell? ⟨g8, 3, none⟩ = some (.bool x.f3)) → ((w4.setCells b 0 [.int .u16 x.f0, .int .u16 x.f1, .slice A2 x.f2.length c2, .bool x.f3]).cell? ⟨g8, 0, none⟩ = some (.int .u16 x.f0) ∧ (w4.setCells b 0 [.int .u16 x.f0, .int .u16 x.f1, .slice A2 x.f2.length c2, .bool x.f3]).cell? ⟨g8, 1, none⟩ = some (.int .u16 x.f1) ∧ (w4.setCells b 0 [.int .u16 x.f0, .int .u16 x.f1, .slice A2 x.f2.length c2, .bool x.f3]).cell? ⟨g8, 2, none⟩ = some (.slice A2 x.f2.length c2) ∧ (w4.setCells b 0 [.int .u16 x.f0, .int .u16 x.f1, .slice A2 x.f2.length c2, .bool x.f3]).cell? ⟨g8, 3, none⟩ = some (.bool x.f3))) := ⟨fun w4 ⟨h0, h1, h2, h3⟩ => by
      have hf := setCells_far (g := b) [.int .u16 x.f0, .int .u16 x.f1, .slice A2 x.f2.length c2, .bool x.f3] 0 (w := w4) g8 hne9
      exact ⟨(World.cell?_of_block (w := w4) hf).trans h0, (World.cell?_of_block (w := w4) hf).trans h1, (World.cell?_of_block (w := w4) hf).trans h2, (World.cell?_of_block (w := w4) hf).trans h3⟩⟩
    have HBX : Aside0 (∀ w4 : World, V.grownBy w4 (some g) → w4.heap[b]? = some (.cells #[.int .u16 0, .int .u16 0, .slice none 0 0, .bool false] 26 (0, 0))) := ⟨fun w4 hg => (hg.block b (blk_lt hbv) (fun e => hneb (by cases e; rfl))).trans hbv⟩
    have HST : Aside0 (∀ w4 : World, V.grownBy w4 (some g) → (Instr.storeAt 26 (.pointer (some ⟨b, 0, none⟩)) (.agg #[.int .u16 x.f0, .int .u16 x.f1, .slice A2 x.f2.length c2, .bool x.f3])).run Try.prog w4 = .ok () (w4.setCells b 0 [.int .u16 x.f0, .int .u16 x.f1, .slice A2 x.f2.length c2, .bool x.f3])) := ⟨fun w4 hg => run_store_run 26 _ _ (HBX.out w4 hg) rfl (by kernel_rfl) (by simp) (by simp [Value.oneCell'])⟩
    have hS0 := HS4.out V ⟨rfl, rfl, rfl, Nat.le_refl _, fun _ _ _ => rfl⟩
    have HRV := Aside0.mk (And.intro hR2V (And.intro hbV (And.intro hwv hneb)))
    have HGG := Aside0.mk (And.intro hgb' hbv)
    have hw8 : wrap64 ((k : Int) + 1) = (k : Int) + 1 := by have h1 := HF.out.1.1; have h2 := HKL.out; unfold wrap64; omega
    rw [hg8]
    refine start_ (n := 9) (S := fun V' : World => V'.cell? ⟨g8, 0, none⟩ = some (.int .u16 x.f0) ∧ V'.cell? ⟨g8, 1, none⟩ = some (.int .u16 x.f1) ∧ V'.cell? ⟨g8, 2, none⟩ = some (.slice A2 x.f2.length c2) ∧ V'.cell? ⟨g8, 3, none⟩ = some (.bool x.f3)) (ds := []) #[false, false, false, false, false, false, false, false, false] (by kernel_rfl) rfl rfl (by rw [hV]; exact hS0) (fun hHeld => ?_)
    rw [hV] at hHeld ⊢
    clear hS0 hV hR2V hbV hwv hneb hgb' hbv hRV hbox hg8
    refine pure_ (i := 0) (N := some 21) (v := ?_) (a' := ?_) #[true, false, false, false, false, false, false, false, false] rfl rfl (by kernel_rfl) (fun _ _ _ h => h) (Or.inl ⟨by rfl, ?_⟩) ?_ ?_
    rotate_left
    · intro w'
      go_simp
      with_reducible rfl
    rotate_left
    · simp only [Act.put, List.setIfInBounds_toArray, List.set_cons_zero, List.set_cons_succ, i64_w, i32_w]
      rfl
    refine pure_ (i := 1) (N := some 22) (v := ?_) (a' := ?_) #[true, true, false, false, false, false, false, false, false] rfl rfl (by kernel_rfl) (fun _ _ _ h => h) (Or.inl ⟨by rfl, ?_⟩) ?_ ?_
    rotate_left
    · intro w'
      go_simp
      with_reducible rfl
    rotate_left
    · simp only [Act.put, List.setIfInBounds_toArray, List.set_cons_zero, List.set_cons_succ, i64_w, i32_w]
      rfl
    refine pure_ (i := 2) (N := some 23) (v := ?_) (a' := ?_) #[true, true, true, false, false, false, false, false, false] rfl rfl (by kernel_rfl) (fun _ _ _ h => h) (Or.inl ⟨by rfl, ?_⟩) ?_ ?_
    rotate_left
    · intro w'
      go_simp
      with_reducible rfl
    rotate_left
    · simp only [Act.put, List.setIfInBounds_toArray, List.set_cons_zero, List.set_cons_succ, i64_w, i32_w]
      rfl
    refine pure_ (i := 3) (N := some 24) (v := ?_) (a' := ?_) #[true, true, true, true, false, false, false, false, false] rfl rfl (by kernel_rfl) (fun _ _ _ h => h) (Or.inl ⟨by rfl, ?_⟩) ?_ ?_
    rotate_left
    · intro w'
      go_simp
      with_reducible rfl
    rotate_left
    · simp only [Act.put, List.setIfInBounds_toArray, List.set_cons_zero, List.set_cons_succ, i64_w, i32_w]
      rfl
    refine take_ (i := 5) (N := some 26) (v := ?_) (a' := ?_) #[true, true, true, true, false, true, false, false, false] rfl rfl (by kernel_rfl) (fun _ _ _ h => h) (Or.inl ⟨by rfl, ?_⟩) hHeld ?_ ?_
    rotate_left
    · rintro w' ⟨s0, s1, s2, s3⟩
      go_simp
      with_reducible rfl
    rotate_left
    · simp only [Act.put, List.setIfInBounds_toArray, List.set_cons_zero, List.set_cons_succ, i64_w, i32_w]
      rfl
    refine one_ (i := 4) (N := some 25) #[true, true, true, true, true, true, false, false, false] rfl rfl (by kernel_rfl) (by decide) (fun K hK => ?_)
    refine goes_ Try.func22 (by kernel_rfl) rfl #[.slice (some ⟨g, 0, none⟩) l0.length c, .int .i64 k, .int .i64 (wrap64 ((k : Int) + 1))] (by rfl) rfl rfl (by (try simp only [List.map_toArray, List.map_cons, List.map_nil]); first | done | rfl) ?_
    rw [hw8]
    refine HDEL.out.mono ?_
    rintro e w4 ⟨rfl, hR4, hg4⟩
    refine ⟨_, rfl, ?_⟩
    have hS4 := HS4.out _ hg4
    refine hK.out _ _ hS4 (fun hHeld4 => ?_)
    have HR4 := Aside0.mk hR4
    have HG4 := Aside0.mk hg4
    clear hR4 hg4 hS4 hHeld
    clear hK K
    refine norm_ (a' := ?_) ?_ ?_
    rotate_left
    · show Act.put _ (some 25) _ = _
      simp only [Act.put, List.setIfInBounds_toArray, List.set_cons_zero, List.set_cons_succ, i64_w, i32_w]
      rfl
    refine pure_ (i := 6) (N := some 4) (v := ?_) (a' := ?_) #[true, true, true, true, true, true, true, false, false] rfl rfl (by kernel_rfl) (fun _ _ _ h => h) (Or.inl ⟨by rfl, ?_⟩) ?_ ?_
    rotate_left
    · intro w'
      go_simp
      with_reducible rfl
    rotate_left
    · simp only [Act.put, List.setIfInBounds_toArray, List.set_cons_zero, List.set_cons_succ, i64_w, i32_w]
      rfl
    refine one_ (i := 7) (N := none) #[true, true, true, true, true, true, true, true, false] rfl rfl (by kernel_rfl) (by decide) (fun K hK => ?_)
    refine skip_step (by rfl) (w1 := w4.setCells b 0 [.int .u16 x.f0, .int .u16 x.f1, .slice A2 x.f2.length c2, .bool x.f3]) (by have hst := HST.out _ HG4.out; simp [execOp, Act.eval, hst, Result.andThen]) ?_
    have hS5 := HS5.out _ hHeld4
    refine hK.out _ _ hS5 (fun hHeld5 => ?_)
    clear hK K
    refine norm_ (a' := ?_) ?_ ?_
    rotate_left
    · show Act.put _ (none) _ = _
      simp only [Act.put, List.setIfInBounds_toArray, List.set_cons_zero, List.set_cons_succ, i64_w, i32_w]
      rfl
    refine pure_ (i := 8) (N := some 6) (v := ?_) (a' := ?_) #[true, true, true, true, true, true, true, true, true] rfl rfl (by kernel_rfl) (fun _ _ _ h => h) (Or.inl ⟨by rfl, ?_⟩) ?_ ?_
    rotate_left
    · intro w'
      go_simp
      with_reducible rfl
    rotate_left
    · simp only [Act.put, List.setIfInBounds_toArray, List.set_cons_zero, List.set_cons_succ, i64_w, i32_w]
      rfl
    refine done_ (by kernel_rfl) ?_
    go_wp2_with fail
    obtain ⟨w5, hw5⟩ : ∃ w5, w4.setCells b 0 [.int .u16 x.f0, .int .u16 x.f1, .slice A2 x.f2.length c2, .bool x.f3] = w5 := ⟨_, rfl⟩
    obtain ⟨cur', h3, h4, h5⟩ := setCells_row [.int .u16 x.f0, .int .u16 x.f1, .slice A2 x.f2.length c2, .bool x.f3] 0 w4 _ (HBX.out _ HG4.out) (by simp)
    obtain ⟨s1, s2, s3, s4⟩ := setCells_same b [.int .u16 x.f0, .int .u16 x.f1, .slice A2 x.f2.length c2, .bool x.f3] 0 w4
    have hfar : ∀ q, q ≠ b → w5.heap[q]? = w4.heap[q]? := fun q hq => by rw [← hw5]; exact setCells_far _ 0 q hq
    have hcur : cur' = #[.int .u16 x.f0, .int .u16 x.f1, .slice A2 x.f2.length c2, .bool x.f3] := by
      have : cur'.toList = [.int .u16 x.f0, .int .u16 x.f1, .slice A2 x.f2.length c2, .bool x.f3] := by rw [h5]; simp
      exact Array.toList_inj.1 this
    subst hcur
    rw [hw5] at h3 s1 s2 s3 s4 ⊢
    obtain ⟨q0, q1, q2, q3, _, _, _, _⟩ := box4f h3
    (try simp only [Exit.inBlock, Exit.then])
    refine bodyPost_ret (v := .tuple #[.slice (some ⟨g, 0, none⟩) (l0.length - 1) c, .agg #[.int .u16 x.f0, .int .u16 x.f1, .slice A2 x.f2.length c2, .bool x.f3], .int .i64 0]) ?hres rfl ?_
    case hres =>
      simp only [results, Try.f11]
      go_simp
    rw [hx']
    have hlen : (l0.eraseIdx k).length = l0.length - 1 := List.length_eraseIdx_of_lt HKL.out
    have hbW : b < W.heap.size := by have := HSW.out; omega
    have hRf : k26.R 26 w5 W.heap.size (fun q => W.heap.size ≤ q) (.slice (some ⟨g, 0, none⟩) (l0.length - 1) c) (l0.eraseIdx k) := Kd.R_step (Kd.R_mono (Kd.R_bound HR4.out) (fun q hq => hq.2.1)) (fun q hq _ => hfar q (by omega))
    have hRp : (Kd.int .u8).R 5 w5 W.heap.size (fun q => q ≠ g ∧ W.heap.size ≤ q) (.slice A2 x.f2.length c2) x.f2 :=
      Kd.R_step (Kd.R_step (Kd.R_mono (Kd.R_bound HRV.out.1) (fun q hq => (⟨hq.1.2, hq.2.1⟩ : q ≠ g ∧ W.heap.size ≤ q))) (fun q hq hlt => HG4.out.block q hlt (fun e => hq.1 (by cases e; rfl)))) (fun q hq _ => hfar q (by have := hq.2; omega))
    have hle : w.heap.size ≤ b := Nat.le_of_eq HBB.out
    have hb4 : Below w.heap.size V w4 := ⟨HG4.out.os, HG4.out.tape, HG4.out.output, HG4.out.size, fun q hq => HG4.out.block q (Nat.lt_of_lt_of_le hq (Nat.le_trans HBW.out.size HRV.out.2.2.1)) (fun e => by cases e; have := HGG.out.1; omega)⟩
    have hb5 : Below w.heap.size w4 w5 := ⟨s1, s2, s3, by rw [s4]; exact Nat.le_refl _, fun q hq => hfar q (by omega)⟩
    refine ⟨some ⟨g, 0, none⟩, c, A2, c2, by rw [hlen], ?_, ?_, HL2.out, (Kd.R_reads' hRp).2.2, ?_⟩
    · rw [hlen]; have := (Kd.R_reads' hRf).1; have := (Kd.R_reads' hRf).2.1; omega
    · have := (Kd.R_reads' hRf).2.2; exact this
    · exact ((((HBW.out.trans (HB.out.mono HBW.out.size)).trans (HB3.out.mono (Nat.le_trans HBW.out.size HB.out.size))).trans (HRV.out.2.1.mono (Nat.le_trans (Nat.le_trans HBW.out.size HB.out.size) HB3.out.size))).trans hb4).trans hb5
  · rw [if_neg hin]
    have HIN := Aside0.mk hin
    clear hin
    go_enter Try.func11, Try.ntmps11
    go_wp2_with fail
    refine HC.out.mono ?_
    rintro e w2 ⟨v, rfl, hR, hb2⟩
    have HR := Aside0.mk hR
    have HB := Aside0.mk hb2
    obtain ⟨A, c, rfl, hlc, hCC⟩ := Kd.R_reads hR
    have HCC := Aside0.mk hCC
    have HLC := Aside0.mk hlc
    have hgb := (hb2.block b (by have := HSW.out; omega)).trans HGW.out
    have HGB := Aside0.mk hgb
    clear hR hb2 hCC hlc hgb hW
    go_wp2_with fail
    refine (place_ok A c l0 i w2 HCC.out HLC.out).mono ?_
    rintro e w3 ⟨rfl, hb3⟩
    rw [decide_eq_false HIN.out]
    have HB3 := Aside0.mk hb3
    obtain ⟨x0, x1, x2, x3, y0, y1, y2, y3⟩ := box4f ((hb3.block b (blk_lt HGB.out)).trans HGB.out)
    have z0 := blk_put ((hb3.block b (blk_lt HGB.out)).trans HGB.out) 0 (.int .u16 0) (cs' := #[.int .u16 0, .int .u16 0, .slice none 0 0, .bool false]) rfl
    have z1 := blk_put z0 1 (.int .u16 0) (cs' := #[.int .u16 0, .int .u16 0, .slice none 0 0, .bool false]) rfl
    have z2 := blk_put z1 2 (.slice none 0 0) (cs' := #[.int .u16 0, .int .u16 0, .slice none 0 0, .bool false]) rfl
    have z3 := blk_put z2 3 (.bool false) (cs' := #[.int .u16 0, .int .u16 0, .slice none 0 0, .bool false]) rfl
    obtain ⟨V, hV⟩ : ∃ V, ((((w3.setCell ⟨b, 0, none⟩ (.int .u16 0)).setCell ⟨b, 1, none⟩ (.int .u16 0)).setCell ⟨b, 2, none⟩ (.slice none 0 0)).setCell ⟨b, 3, none⟩ (.bool false)) = V := ⟨_, rfl⟩
    have hbV : Below w.heap.size w V := by
      rw [← hV]
      have hle : w.heap.size ≤ b := Nat.le_of_eq HBB.out
      exact (((((HBW.out.trans (HB.out.mono HBW.out.size)).trans (HB3.out.mono (Nat.le_trans HBW.out.size HB.out.size))).setCell hle _).setCell hle _).setCell hle _).setCell hle _
    have hCV : Kd.C k26 V A l0.length l0 := by
      have h1 : k26.R 26 w3 W.heap.size (fun _ => True) (.slice A l0.length c) l0 := Kd.R_below HR.out HB3.out
      have h2 : k26.R 26 V W.heap.size (fun k => W.heap.size ≤ k) (.slice A l0.length c) l0 := Kd.R_step (Kd.R_mono (Kd.R_bound h1) (fun k hk => hk.2.1)) (fun k hk _ => by
        have hne : k ≠ b := by have := HSW.out; omega
        rw [← hV, Below.heap_setCell _ _ _ _ hne, Below.heap_setCell _ _ _ _ hne, Below.heap_setCell _ _ _ _ hne, Below.heap_setCell _ _ _ _ hne])
      exact (Kd.R_reads' h2).2.2
    rw [hV] at z3
    obtain ⟨q0, q1, q2, q3, _, _, _, _⟩ := box4f z3
    have HBV := Aside0.mk hbV
    have HCV := Aside0.mk hCV
    clear hb3 z0 z1 z2 z3 hbV hCV
    go_wp2_with fail
    (try simp only [Exit.inBlock, Exit.then])
    refine bodyPost_ret (v := .tuple #[.slice A l0.length c, .agg #[.int .u16 0, .int .u16 0, .slice none 0 0, .bool false], .int .i64 1]) ?hres rfl ?_
    case hres =>
      simp only [results, Try.f11]
      go_simp
    exact ⟨A, c, none, 0, rfl, HLC.out, HCV.out, Nat.le_refl _, ⟨rfl, Nat.zero_le _, fun h => absurd h (Nat.lt_irrefl _)⟩, HBV.out⟩
#print axioms take_calls
end Go.Proofs.Ytakbkpgbchdocaa.H
