/- Mine. Chapters 22 and 23, by hand (turned from chapter 21): the reference's parts (a struct with two rows of its own). -/
import Derived.Test.YtaeelmkpjgmdlaaHPC
namespace Go.Proofs.Ytaeelmkpjgmdlaa.H
open Go Go.Proofs Go.RowKit Go.Lib Go.Proofs.Ytaeelmkpjgmdlaa.P Go.Proofs.YtaeelmkpjgmdlaaW.PrintWords Go.Proofs.YtaeelmkpjgmdlaaW.PrintLast Go.Proofs.YtaeelmkpjgmdlaaW.PrintMore Go.Proofs.YtaeelmkpjgmdlaaW.PrintFlat
set_option linter.unusedVariables false
set_option linter.unusedSimpArgs false
theorem i3 : (Try.prog.info? 3).map (fun i => (i.zero, i.size, i.bytes)) = some (some (.int .i64 0), 1, 8) := by kernel_rfl
theorem i9 : (Try.prog.info? 9).map (fun i => (i.zero, i.size, i.bytes)) = some (some (.string ByteArray.empty), 1, 16) := by kernel_rfl
def RS (own : Nat → Prop) (g : Nat) (c : Int) (ps : List Int) (ss : List ByteArray) (W : World) : Prop :=
  ∃ (oP oB : Nat → Prop) (vp vb : Value), (∀ k, oP k → own k ∧ k ≠ g ∧ ¬ oB k) ∧ (∀ k, oB k → own k ∧ k ≠ g) ∧ own g ∧
    W.heap[g]? = some (.cells #[.int .i64 c, vp, vb] 87 (0, 0)) ∧ Kd.R (Kd.int .i64) 3 W 0 oP vp ps ∧ Kd.R Kd.string 9 W 0 oB vb ss ∧ (∀ k, own k → k < W.heap.size)
theorem RS.frame {own S : Nat → Prop} {g : Nat} {c : Int} {ps : List Int} {ss : List ByteArray} {W W' : World} (h : RS own g c ps ss W) (hf : Fr S W W') (hd : ∀ k, own k → ¬ S k) : RS own g c ps ss W' := by
  obtain ⟨oP, oB, vp, vb, h1, h2, h3, h4, h5, h6, h7⟩ := h
  refine ⟨oP, oB, vp, vb, h1, h2, h3, (hf.block g (h7 g h3) (hd g h3)).trans h4, Kd.R_step h5 (fun k hk hlt => hf.block k hlt (hd k (h1 k hk).1)), Kd.R_step h6 (fun k hk hlt => hf.block k hlt (hd k (h2 k hk).1)), fun k hk => Nat.lt_of_lt_of_le (h7 k hk) hf.size⟩
theorem RS.lt {own : Nat → Prop} {g : Nat} {c : Int} {ps : List Int} {ss : List ByteArray} {W : World} (h : RS own g c ps ss W) : ∀ k, own k → k < W.heap.size := by
  obtain ⟨oP, oB, vp, vb, h1, h2, h3, h4, h5, h6, h7⟩ := h
  exact h7
/-- What is read. -/
theorem RS.reads {own : Nat → Prop} {g : Nat} {c : Int} {ps : List Int} {ss : List ByteArray} {W : World} (h : RS own g c ps ss W) :
    ∃ A1 c1 A2 c2, W.cell? ⟨g, 0, none⟩ = some (.int .i64 c) ∧ W.cell? ⟨g, 1, none⟩ = some (.slice A1 ps.length c1) ∧ W.cell? ⟨g, 2, none⟩ = some (.slice A2 ss.length c2) ∧ Kd.C (Kd.int .i64) W A1 ps.length ps ∧ Kd.C Kd.string W A2 ss.length ss := by
  obtain ⟨oP, oB, vp, vb, h1, h2, h3, h4, h5, h6, h7⟩ := h
  obtain ⟨A1, c1, rfl, _, k1⟩ := Kd.R_reads h5
  obtain ⟨A2, c2, rfl, _, k2⟩ := Kd.R_reads h6
  refine ⟨A1, c1, A2, c2, ?_, ?_, ?_, k1, k2⟩
  all_goals (unfold World.cell?; rw [h4]; rfl)
def PlaceP (ps : List Int) (i : Int) (r : Int) : Prop := (r = -1 ∧ i ∉ ps) ∨ ∃ k : Nat, k < ps.length ∧ r = k ∧ ps[k]? = some i
set_option maxRecDepth 100000 in
set_option maxHeartbeats 2000000 in
theorem place_calls {own : Nat → Prop} {g : Nat} {c : Int} {ps : List Int} {ss : List ByteArray} {W : World} (h : RS own g c ps ss W) (i : Int) (hl : ps.length ≤ 65535) :
    Calls Try.prog 65 #[.pointer (some ⟨g, 0, none⟩), .int .i64 i] W fun e w' => Below W.heap.size W w' ∧ ∃ r, e = .returned (.int .i64 r) ∧ PlaceP ps i r := by
  have HH := Aside0.mk h
  have HB := Aside0.mk (Below.refl W.heap.size W)
  clear h
  go_enter Try.func65, Try.ntmps65
  go_wp2
  go_loopg [5] ps.length (fun gg s5 wr => ∃ k : Nat, k ≤ ps.length ∧ ps.length - k ≤ gg ∧ s5 = .int .i64 k ∧ Aside0 (Below W.heap.size W wr) ∧ Aside0 (∀ j, j < k → ps[j]? ≠ some i))
  case atStart => exact ⟨0, Nat.zero_le _, by omega, rfl, HB, ⟨fun j hj => by omega⟩⟩
  case round =>
    obtain ⟨k, hk, hgg, rfl, HBk, HN⟩ := hrel
    have hHk := HH.out.frame (S := fun _ => False) (Fr.of_below HBk.out) (fun _ _ h => h)
    obtain ⟨A1, c1, A2, c2, q0, q1, q2, hC1, hC2⟩ := hHk.reads
    by_cases hlt : k < ps.length
    · obtain ⟨ad, rfl, hx⟩ := Kd.at_int hC1 (k : Int) (by omega) (by omega)
      rw [Int.toNat_natCast] at hx
      have hrd : ps[k]? = some (rd ps (k : Int)) := by
        unfold rd
        simp [List.getD_eq_getElem?_getD, hlt]
      have p0 : (0 ≤ (k : Int)) = True := eq_true (by omega)
      have p1 : ((k : Int) < (ps.length : Int)) = True := eq_true (by omega)
      clear hHk hC1 hC2
      by_cases he : rd ps (k : Int) = i
      · have c5b0 : (rd ps (k : Int) == i) = true := beq_iff_eq.mpr he
        have HRD := Aside0.mk hrd
        clear hrd
        go_wp2
        go_ret
        exact ⟨HBk.out, _, rfl, .inr ⟨k, hlt, rfl, by rw [HRD.out, he]⟩⟩
      · have c5b0 : (rd ps (k : Int) == i) = false := beq_eq_false_iff_ne.mpr he
        have HRD := Aside0.mk hrd
        clear hrd
        go_wp2
        go_roundg (ps.length - (k + 1))
        case measure => omega
        case rel =>
          refine ⟨k + 1, by omega, by omega, by go_num, HBk, ⟨fun j hj => ?_⟩⟩
          by_cases hjk : j = k
          · subst hjk
            rw [HRD.out]
            intro e
            injection e with e
            exact he e
          · exact HN.out j (by omega)
    · have p1 : ¬ ((k : Int) < (ps.length : Int)) := by omega
      clear hHk hC1 hC2
      go_wp2
      go_ret
      refine ⟨HBk.out, _, rfl, .inl ⟨rfl, fun hm => ?_⟩⟩
      obtain ⟨j, hj⟩ := List.getElem?_of_mem hm
      have hj1 : j < ps.length := by
        rw [List.getElem?_eq_some_iff] at hj
        exact hj.1
      exact HN.out j (by omega) hj
set_option maxRecDepth 100000 in
set_option maxHeartbeats 2000000 in
theorem rmissing_calls {own : Nat → Prop} {g : Nat} {c : Int} {ps : List Int} {ss : List ByteArray} {W : World} (h : RS own g c ps ss W) (hc : c ≤ 65535) (hc0 : 0 ≤ c) (hl : ps.length ≤ 65535) :
    Calls Try.prog 66 #[.pointer (some ⟨g, 0, none⟩)] W fun e w' => e = .returned (.int .i64 (c - ps.length)) ∧ Below W.heap.size W w' := by
  have HB := Aside0.mk (Below.refl W.heap.size W)
  obtain ⟨A1, c1, A2, c2, q0, q1, q2, hC1, hC2⟩ := h.reads
  have hw : wrap64 (c - (ps.length : Int)) = c - (ps.length : Int) := by unfold wrap64; omega
  clear h hC1 hC2
  go_enter Try.func66, Try.ntmps66
  go_wp2
  repeat (go_quiet (fail); try go_wp2)
  go_ret
  exact ⟨rfl, pw_below_drewN HB.out _⟩
def sizes (ss : List ByteArray) : Int := (ss.map fun x => (x.size : Int)).sum
theorem sizes_nn (ss : List ByteArray) : 0 ≤ sizes ss := by
  unfold sizes
  induction ss with
  | nil => simp
  | cons x r ih => simp only [List.map_cons, List.sum_cons]; omega
theorem sizes_append (a b : List ByteArray) : sizes (a ++ b) = sizes a + sizes b := by simp [sizes]
theorem sizes_take (ss : List ByteArray) (k : Nat) (hk : k < ss.length) : sizes (ss.take (k + 1)) = sizes (ss.take k) + ((rdOf ByteArray.empty ss (k : Int)).size : Int) := by
  rw [List.take_add_one, sizes_append]
  unfold rdOf
  simp [sizes, hk, List.getD_eq_getElem?_getD]
theorem sizes_take_le (ss : List ByteArray) (k : Nat) : sizes (ss.take k) ≤ sizes ss := by
  have h := sizes_append (ss.take k) (ss.drop k)
  rw [List.take_append_drop] at h
  have := sizes_nn (ss.drop k)
  omega
set_option maxRecDepth 100000 in
set_option maxHeartbeats 2000000 in
theorem rsize_calls {own : Nat → Prop} {g : Nat} {c : Int} {ps : List Int} {ss : List ByteArray} {W : World} (h : RS own g c ps ss W) (hl : ss.length ≤ 65535) (ht : sizes ss ≤ 4611686018427387904) :
    Calls Try.prog 38 #[.pointer (some ⟨g, 0, none⟩)] W fun e w' => e = .returned (.int .i64 (sizes ss)) ∧ Below W.heap.size W w' := by
  have HH := Aside0.mk h
  have HB := Aside0.mk (Below.refl W.heap.size W)
  have HT := Aside0.mk ht
  clear h ht
  go_enter Try.func38, Try.ntmps38
  go_wp2
  go_loopg [3, 4] ss.length (fun gg s3 s4 wr => ∃ k : Nat, k ≤ ss.length ∧ ss.length - k ≤ gg ∧ s3 = .int .i64 (sizes (ss.take k)) ∧ s4 = .int .i64 k ∧ Aside0 (Below W.heap.size W wr))
  case atStart => exact ⟨0, Nat.zero_le _, by omega, by simp [sizes], rfl, HB⟩
  case round =>
    obtain ⟨k, hk, hgg, rfl, rfl, HBk⟩ := hrel
    have hHk := HH.out.frame (S := fun _ => False) (Fr.of_below HBk.out) (fun _ _ h => h)
    obtain ⟨A1, c1, A2, c2, q0, q1, q2, hC1, hC2⟩ := hHk.reads
    by_cases hlt : k < ss.length
    · obtain ⟨ad, rfl, hx⟩ := Kd.at_string hC2 (k : Int) (by omega) (by omega)
      rw [Int.toNat_natCast] at hx
      have p0 : (0 ≤ (k : Int)) = True := eq_true (by omega)
      have p1 : ((k : Int) < (ss.length : Int)) = True := eq_true (by omega)
      clear hHk hC1 hC2
      go_wp2
      go_roundg (ss.length - (k + 1))
      case measure => omega
      case rel =>
        refine ⟨k + 1, by omega, by omega, ?_, by go_num, HBk⟩
        have e1 := sizes_take ss k hlt
        have e2 := sizes_take_le ss (k + 1)
        have e3 := sizes_nn (ss.take k)
        have e4 := HT.out
        have e5 : wrap64 (sizes (ss.take k) + ((rdOf ByteArray.empty ss (k : Int)).size : Int)) = sizes (ss.take (k + 1)) := by rw [← e1]; have := sizes_nn (ss.take (k + 1)); unfold wrap64; omega
        first | rw [e5] | (simp only [e5])
    · have p1 : ¬ ((k : Int) < (ss.length : Int)) := by omega
      have hkk : k = ss.length := by omega
      clear hHk hC1 hC2
      go_wp2
      go_ret
      exact ⟨by first | rfl | (rw [hkk, List.take_length]; done) | (simp; done), HBk.out⟩
set_option maxRecDepth 100000 in
set_option maxHeartbeats 2000000 in
theorem rhas_calls {own : Nat → Prop} {g : Nat} {c : Int} {ps : List Int} {ss : List ByteArray} {W : World} (h : RS own g c ps ss W) (i : Int) (hl : ps.length ≤ 65535) :
    Calls Try.prog 37 #[.pointer (some ⟨g, 0, none⟩), .int .i64 i] W fun e w' => e = .returned (.bool (ps.any fun x => x == i)) ∧ Below W.heap.size W w' := by
  have HP := Aside0.mk (place_calls h i hl)
  clear h
  go_enter Try.func37, Try.ntmps37
  go_wp2_with (first | (go_at_call 65; refine HP.out.mono ?_; rintro e w1 ⟨hb1, r, rfl, hr⟩; have HB1 := Aside0.mk hb1; have HR := Aside0.mk hr; clear hb1 hr) | go_in)
  go_ret
  refine ⟨?_, HB1.out⟩
  rcases HR.out with ⟨rfl, hm⟩ | ⟨k, hk, rfl, hk2⟩
  · have : (ps.any fun x => x == i) = false := by
      rw [List.any_eq_false]
      intro x hx he
      exact hm (by have := beq_iff_eq.1 he; rw [← this]; exact hx)
    rw [this]
    rfl
  · have : (ps.any fun x => x == i) = true := by
      rw [List.any_eq_true]
      exact ⟨i, List.mem_of_getElem? hk2, by simp⟩
    rw [this]
    simp
#print axioms place_calls
#print axioms rsize_calls
#print axioms rhas_calls
end Go.Proofs.Ytaeelmkpjgmdlaa.H
