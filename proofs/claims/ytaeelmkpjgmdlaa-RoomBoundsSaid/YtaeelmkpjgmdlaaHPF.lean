/- Mine. Chapters 22 and 23, by hand (turned from chapter 21): Whole of the reference's parts. -/
import Derived.Test.YtaeelmkpjgmdlaaHPE
namespace Go.Proofs.Ytaeelmkpjgmdlaa.H
open Go Go.Proofs Go.RowKit Go.Lib Go.Proofs.Ytaeelmkpjgmdlaa.P Go.Proofs.YtaeelmkpjgmdlaaW.PrintWords Go.Proofs.YtaeelmkpjgmdlaaW.PrintLast Go.Proofs.YtaeelmkpjgmdlaaW.PrintMore Go.Proofs.YtaeelmkpjgmdlaaW.PrintFlat
set_option linter.unusedVariables false
set_option linter.unusedSimpArgs false
theorem strOfNums_app (a b : List Int) : strOfNums (a ++ b) = strOfNums a ++ strOfNums b := by
  apply ByteArray.ext
  simp [strOfNums]
theorem strOfNums_zero : strOfNums [] = ByteArray.empty := rfl
theorem len_le_of_sub : ∀ (l m : List Int), l.Nodup → (∀ x ∈ l, x ∈ m) → l.length ≤ m.length
  | [], _, _, _ => Nat.zero_le _
  | x :: r, m, hn, hs => by
    have hx := hs x (by simp)
    have ih := len_le_of_sub r (m.erase x) (List.nodup_cons.1 hn).2 (fun y hy => by
      have hne : y ≠ x := fun e => (List.nodup_cons.1 hn).1 (e ▸ hy)
      exact (List.mem_erase_of_ne hne).2 (hs y (by simp [hy])))
    rw [List.length_erase_of_mem hx] at ih
    have : 0 < m.length := List.length_pos_of_mem hx
    simp only [List.length_cons]
    omega
theorem full_of_len {l : List Int} {c : Int} (hn : l.Nodup) (hr : ∀ x ∈ l, 0 ≤ x ∧ x < c) (hl : c ≤ l.length) (i : Int) (h0 : 0 ≤ i) (h1 : i < c) : i ∈ l := by
  by_cases hm : i ∈ l
  · exact hm
  · exfalso
    have h := len_le_of_sub (i :: l) ((List.range c.toNat).map fun (n : Nat) => (n : Int)) (List.nodup_cons.2 ⟨hm, hn⟩) (fun x hx => by
      have hx' : 0 ≤ x ∧ x < c := by
        rcases List.mem_cons.1 hx with rfl | hx
        · exact ⟨h0, h1⟩
        · exact hr x hx
      exact List.mem_map.2 ⟨x.toNat, by simp; omega, by omega⟩)
    simp at h
    omega
abbrev psOf (qs : List Q) : List Int := qs.map Q.i
abbrev ssOf (qs : List Q) : List ByteArray := qs.map fun q => strOfNums q.bs
theorem at_place {qs : List Q} {i : Int} {k : Nat} (hn : (qs.map Q.i).Nodup) (h : (psOf qs)[k]? = some i) : rdOf ByteArray.empty (ssOf qs) (k : Int) = strOfNums (bAt qs i) := by
  rw [List.getElem?_map] at h
  obtain ⟨q, hq, rfl⟩ := Option.map_eq_some_iff.1 h
  have h1 : rdOf ByteArray.empty (ssOf qs) (k : Int) = strOfNums q.bs := by
    unfold rdOf
    rw [Int.toNat_natCast, List.getD_eq_getElem?_getD, List.getElem?_map, hq]
    rfl
  have hm := List.mem_of_getElem? hq
  have h2 : bAt qs q.i = q.bs := by
    unfold bAt
    have : qs.find? (fun x => x.i == q.i) = some q := by
      clear h h1 hq
      induction qs with
      | nil => simp at hm
      | cons y r ih =>
        rw [List.map_cons, List.nodup_cons] at hn
        rcases List.mem_cons.1 hm with rfl | hm
        · simp
        · have hne : ¬ (y.i == q.i) = true := fun e => hn.1 (List.mem_map.2 ⟨q, hm, (beq_iff_eq.1 e).symm⟩)
          rw [List.find?_cons, show (y.i == q.i) = false by simpa using hne]
          exact ih hn.2 hm
    rw [this]
    rfl
  rw [h1, h2]
theorem place_one {ps : List Int} {i r : Int} {k : Nat} (hn : ps.Nodup) (hk : ps[k]? = some i) (h : PlaceP ps i r) : r = k := by
  rcases h with ⟨rfl, hm⟩ | ⟨j, hj, rfl, hj2⟩
  · exact absurd (List.mem_of_getElem? hk) hm
  · have : j = k := by
      have h1 := (List.getElem?_eq_some_iff.1 hk).1
      rw [List.getElem?_eq_getElem hj] at hj2
      rw [List.getElem?_eq_getElem h1] at hk
      injection hj2 with e1
      injection hk with e2
      exact (List.getElem_inj hn).1 (e1.trans e2.symm)
    rw [this]
def RWholeP (c : Int) (qs : List Q) (W : World) (e : Ending) (w' : World) : Prop := Below W.heap.size W w' ∧
  (((qs.length : Int) < c ∧ e = .returned (.tuple #[.string ByteArray.empty, .bool false])) ∨ (c ≤ qs.length ∧ e = .returned (.tuple #[.string (strOfNums (whole qs c.toNat)), .bool true])))
set_option maxRecDepth 100000 in
set_option maxHeartbeats 2000000 in
theorem rwhole_calls {own : Nat → Prop} {g : Nat} {c : Int} {qs : List Q} {W : World} (h : RS own g c (psOf qs) (ssOf qs) W) (hc : c ≤ 65535) (hc0 : 0 ≤ c) (hl : qs.length ≤ 65535) (hn : (qs.map Q.i).Nodup) (hr : ∀ x ∈ qs, 0 ≤ x.i ∧ x.i < c) (ht : tot qs ≤ 4194304) (ht0 : 0 ≤ tot qs) :
    Calls Try.prog 41 #[.pointer (some ⟨g, 0, none⟩)] W (RWholeP c qs W) := by
  have hmis := rmissing_calls h hc hc0 (by simpa using hl)
  rw [List.length_map] at hmis
  have HM := Aside0.mk hmis
  have HH := Aside0.mk h
  have HB := Aside0.mk (Below.refl W.heap.size W)
  by_cases hlt : (qs.length : Int) < c
  · have hm1 : 0 < c - (qs.length : Int) := by omega
    clear h hmis
    go_enter Try.func41, Try.ntmps41
    go_wp2_with (first | (go_at_call 66; refine HM.out.mono ?_; rintro e w1 ⟨rfl, hb1⟩; have HB1 := Aside0.mk hb1; clear hb1) | go_in)
    go_ret2
    exact ⟨HB1.out, .inl ⟨hlt, rfl⟩⟩
  · have hm1 : ¬ (0 < c - (qs.length : Int)) := by omega
    have HT := Aside0.mk (And.intro ht ht0)
    have HC := Aside0.mk (And.intro hc (And.intro hc0 (And.intro hl (And.intro hn hr))))
    clear h hmis hn hr ht ht0
    go_enter Try.func41, Try.ntmps41
    go_wp2_with (first | (go_at_call 66; refine HM.out.mono ?_; rintro e w1 ⟨rfl, hb1⟩; have HB1 := Aside0.mk hb1; clear hb1) | fail)
    go_loopg [4, 5] c.toNat (fun gg s4 s5 wr => ∃ k : Nat, k ≤ c.toNat ∧ c.toNat - k ≤ gg ∧ s5 = .int .i64 k ∧ s4 = .string (strOfNums (whole qs k)) ∧ Aside0 (Below W.heap.size W wr))
    case atStart => exact ⟨0, Nat.zero_le _, by omega, rfl, rfl, HB1⟩
    case round =>
      obtain ⟨k, hk, hgg, rfl, rfl, HBk⟩ := hrel
      have hHk := HH.out.frame (S := fun _ => False) (Fr.of_below HBk.out) (fun _ _ h => h)
      obtain ⟨A1, c1, A2, c2, q0, q1, q2, hC1, hC2⟩ := hHk.reads
      by_cases hlt : k < c.toNat
      · have hkc : (k : Int) < c := by omega
        have hin : (k : Int) ∈ psOf qs := full_of_len HC.out.2.2.2.1 (fun x hx => by
          obtain ⟨q, hq, rfl⟩ := List.mem_map.1 hx
          exact HC.out.2.2.2.2 q hq) (by rw [List.length_map]; omega) (k : Int) (by omega) hkc
        obtain ⟨j, hj⟩ := List.getElem?_of_mem hin
        have hjl : j < (ssOf qs).length := by
          have := (List.getElem?_eq_some_iff.1 hj).1
          simpa using this
        obtain ⟨ad, rfl, hx⟩ := Kd.at_string hC2 (j : Int) (by omega) (by omega)
        rw [Int.toNat_natCast, at_place HC.out.2.2.2.1 hj] at hx
        have p0 : (0 ≤ (j : Int)) = True := eq_true (by omega)
        have p1 : ((j : Int) < ((ssOf qs).length : Int)) = True := eq_true (by omega)
        have HCL : Aside0 (∀ V, Below W.heap.size W V → Calls Try.prog 65 #[.pointer (some ⟨g, 0, none⟩), .int .i64 k] V fun e w' => e = .returned (.int .i64 j) ∧ Below V.heap.size V w') := ⟨fun V hV => by
          refine (place_calls (HH.out.frame (S := fun _ => False) (Fr.of_below hV) (fun _ _ h => h)) (k : Int) (by rw [List.length_map]; exact HC.out.2.2.1)).mono ?_
          rintro e w2 ⟨hb2, r, rfl, hr⟩
          rw [place_one HC.out.2.2.2.1 hj hr]
          exact ⟨rfl, hb2⟩⟩
        have HS2 : Aside0 (∀ V w2 : World, (fun V : World => Below W.heap.size W V ∧ V.cell? ⟨g, 2, none⟩ = some (.slice (some ad) (ssOf qs).length c2) ∧ V.cell? (ad.add j) = some (.string (strOfNums (bAt qs k)))) V → Below V.heap.size V w2 → (fun V : World => Below W.heap.size W V ∧ V.cell? ⟨g, 2, none⟩ = some (.slice (some ad) (ssOf qs).length c2) ∧ V.cell? (ad.add j) = some (.string (strOfNums (bAt qs k)))) w2) := ⟨fun V w2 hV hb => ⟨below_then hV.1 hV.1.size hb, (hb.cell (World.block_lt_of_cell? _ _ hV.2.1)).trans hV.2.1, (hb.cell (World.block_lt_of_cell? _ _ hV.2.2)).trans hV.2.2⟩⟩
        have HS : (fun V : World => Below W.heap.size W V ∧ V.cell? ⟨g, 2, none⟩ = some (.slice (some ad) (ssOf qs).length c2) ∧ V.cell? (ad.add j) = some (.string (strOfNums (bAt qs k)))) wr.drew := ⟨HBk.out.drew, q2, hx⟩
        have hsz : ¬ (9223372036854775807 < (strOfNums (whole qs k)).size + (strOfNums (bAt qs (k : Int))).size) := by
          rw [strOfNums_size, strOfNums_size]
          have h1 := whole_le qs k
          have h2 := bAt_le qs k
          have h3 := HT.out
          have h4 : (k : Int) * tot qs ≤ 65535 * 4194304 := Int.mul_le_mul (by omega) h3.1 h3.2 (by omega)
          omega
        generalize hLL : (ssOf qs).length = LL at *
        clear hHk hC1 hC2 hin hj hjl hLL q1 q2 hx
        go_wp2
        refine start_ (n := 12) (S := fun V : World => Below W.heap.size W V ∧ V.cell? ⟨g, 2, none⟩ = some (.slice (some ad) LL c2) ∧ V.cell? (ad.add j) = some (.string (strOfNums (bAt qs k)))) (ds := []) #[false, false, false, false, false, false, false, false, false, false, false, false] (by kernel_rfl) rfl rfl HS (fun hHeld => ?_)
        clear HS
        refine pure_ (i := 0) (N := some 17) (v := ?_) (a' := ?_) #[true, false, false, false, false, false, false, false, false, false, false, false] rfl rfl (by kernel_rfl) (fun _ _ _ h => h) (Or.inl ⟨by rfl, ?_⟩) ?_ ?_
        rotate_left
        · intro w'
          go_simp
          with_reducible rfl
        rotate_left
        · simp only [Act.put, List.setIfInBounds_toArray, List.set_cons_zero, List.set_cons_succ, i64_w, i32_w]
          rfl
        refine pure_ (i := 1) (N := some 18) (v := ?_) (a' := ?_) #[true, true, false, false, false, false, false, false, false, false, false, false] rfl rfl (by kernel_rfl) (fun _ _ _ h => h) (Or.inl ⟨by rfl, ?_⟩) ?_ ?_
        rotate_left
        · intro w'
          go_simp
          with_reducible rfl
        rotate_left
        · simp only [Act.put, List.setIfInBounds_toArray, List.set_cons_zero, List.set_cons_succ, i64_w, i32_w]
          rfl
        refine pure_ (i := 2) (N := some 19) (v := ?_) (a' := ?_) #[true, true, true, false, false, false, false, false, false, false, false, false] rfl rfl (by kernel_rfl) (fun _ _ _ h => h) (Or.inl ⟨by rfl, ?_⟩) ?_ ?_
        rotate_left
        · intro w'
          go_simp
          with_reducible rfl
        rotate_left
        · simp only [Act.put, List.setIfInBounds_toArray, List.set_cons_zero, List.set_cons_succ, i64_w, i32_w]
          rfl
        refine pure_ (i := 3) (N := some 20) (v := ?_) (a' := ?_) #[true, true, true, true, false, false, false, false, false, false, false, false] rfl rfl (by kernel_rfl) (fun _ _ _ h => h) (Or.inl ⟨by rfl, ?_⟩) ?_ ?_
        rotate_left
        · intro w'
          go_simp
          with_reducible rfl
        rotate_left
        · simp only [Act.put, List.setIfInBounds_toArray, List.set_cons_zero, List.set_cons_succ, i64_w, i32_w]
          rfl
        refine take_ (i := 4) (N := some 21) (v := ?_) (a' := ?_) #[true, true, true, true, true, false, false, false, false, false, false, false] rfl rfl (by kernel_rfl) (fun _ _ _ h => h) (Or.inl ⟨by rfl, ?_⟩) hHeld ?_ ?_
        rotate_left
        · rintro w' ⟨s0, s1, s2⟩
          go_simp
          with_reducible rfl
        rotate_left
        · simp only [Act.put, List.setIfInBounds_toArray, List.set_cons_zero, List.set_cons_succ, i64_w, i32_w]
          rfl
        refine pure_ (i := 5) (N := some 22) (v := ?_) (a' := ?_) #[true, true, true, true, true, true, false, false, false, false, false, false] rfl rfl (by kernel_rfl) (fun _ _ _ h => h) (Or.inl ⟨by rfl, ?_⟩) ?_ ?_
        rotate_left
        · intro w'
          go_simp
          with_reducible rfl
        rotate_left
        · simp only [Act.put, List.setIfInBounds_toArray, List.set_cons_zero, List.set_cons_succ, i64_w, i32_w]
          rfl
        refine pure_ (i := 6) (N := some 23) (v := ?_) (a' := ?_) #[true, true, true, true, true, true, true, false, false, false, false, false] rfl rfl (by kernel_rfl) (fun _ _ _ h => h) (Or.inl ⟨by rfl, ?_⟩) ?_ ?_
        rotate_left
        · intro w'
          go_simp
          with_reducible rfl
        rotate_left
        · simp only [Act.put, List.setIfInBounds_toArray, List.set_cons_zero, List.set_cons_succ, i64_w, i32_w]
          rfl
        refine one_ (i := 7) (N := some 24) #[true, true, true, true, true, true, true, true, false, false, false, false] rfl rfl (by kernel_rfl) (by decide) (fun K hK => ?_)
        refine goes_ Try.func65 (by kernel_rfl) rfl #[.pointer (some ⟨g, 0, none⟩), .int .i64 k] (by rfl) rfl rfl (by (try simp only [List.map_toArray, List.map_cons, List.map_nil]); first | done | rfl) ?_
        refine (HCL.out _ hHeld.1).mono ?_
        rintro e w2 ⟨rfl, hb2⟩
        refine ⟨_, rfl, ?_⟩
        have hS2 := HS2.out _ _ hHeld hb2
        refine hK.out _ _ hS2 (fun hHeld2 => ?_)
        clear hb2 hHeld hS2
        clear hK K
        refine norm_ (a' := ?_) ?_ ?_
        rotate_left
        · show Act.put _ (some 24) _ = _
          simp only [Act.put, List.setIfInBounds_toArray, List.set_cons_zero, List.set_cons_succ, i64_w, i32_w]
          rfl
        refine pure_ (i := 8) (N := some 25) (v := ?_) (a' := ?_) #[true, true, true, true, true, true, true, true, true, false, false, false] rfl rfl (by kernel_rfl) (fun _ _ _ h => h) (Or.inl ⟨by rfl, ?_⟩) ?_ ?_
        rotate_left
        · intro w'
          go_simp
          with_reducible rfl
        rotate_left
        · simp only [Act.put, List.setIfInBounds_toArray, List.set_cons_zero, List.set_cons_succ, i64_w, i32_w]
          rfl
        refine take_ (i := 9) (N := some 26) (v := ?_) (a' := ?_) #[true, true, true, true, true, true, true, true, true, true, false, false] rfl rfl (by kernel_rfl) (fun _ _ _ h => h) (Or.inl ⟨by rfl, ?_⟩) hHeld2 ?_ ?_
        rotate_left
        · rintro w' ⟨s0, s1, s2⟩
          go_simp
          with_reducible rfl
        rotate_left
        · simp only [Act.put, List.setIfInBounds_toArray, List.set_cons_zero, List.set_cons_succ, i64_w, i32_w]
          rfl
        refine pure_ (i := 10) (N := some 27) (v := ?_) (a' := ?_) #[true, true, true, true, true, true, true, true, true, true, true, false] rfl rfl (by kernel_rfl) (fun _ _ _ h => h) (Or.inl ⟨by rfl, ?_⟩) ?_ ?_
        rotate_left
        · intro w'
          go_simp
          with_reducible rfl
        rotate_left
        · simp only [Act.put, List.setIfInBounds_toArray, List.set_cons_zero, List.set_cons_succ, i64_w, i32_w]
          rfl
        refine pure_ (i := 11) (N := some 4) (v := ?_) (a' := ?_) #[true, true, true, true, true, true, true, true, true, true, true, true] rfl rfl (by kernel_rfl) (fun _ _ _ h => h) (Or.inl ⟨by rfl, ?_⟩) ?_ ?_
        rotate_left
        · intro w'
          go_simp
          with_reducible rfl
        rotate_left
        · simp only [Act.put, List.setIfInBounds_toArray, List.set_cons_zero, List.set_cons_succ, i64_w, i32_w]
          rfl
        refine done_ (by kernel_rfl) ?_
        have HBf := Aside0.mk hHeld2.1
        go_wp2
        go_roundg (c.toNat - (k + 1))
        case measure => omega
        case rel =>
          refine ⟨k + 1, by omega, by omega, by go_num, ?_, HBf⟩
          rw [whole_succ, strOfNums_app]
      · have hkc : ¬ ((k : Int) < c) := by omega
        have hkk : k = c.toNat := by omega
        clear hHk hC1 hC2
        go_wp2
        go_ret2
        refine ⟨HBk.out, .inr ⟨by omega, ?_⟩⟩
        rw [← hkk]
        rfl
#print axioms rwhole_calls
end Go.Proofs.Ytaeelmkpjgmdlaa.H
