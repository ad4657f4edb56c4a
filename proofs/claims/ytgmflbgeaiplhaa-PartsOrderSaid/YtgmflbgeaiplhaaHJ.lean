/- Mine. Chapter 21, by hand: the law PartsOrder, walked. -/
import Derived.Test.YtgmflbgeaiplhaaHI
namespace Go.Proofs.Ytgmflbgeaiplhaa.H
open Go Go.Proofs Go.RowKit Go.Lib Go.Proofs.Ytgmflbgeaiplhaa.P Go.Proofs.YtgmflbgeaiplhaaW.PrintWords Go.Proofs.YtgmflbgeaiplhaaW.PrintLast Go.Proofs.YtgmflbgeaiplhaaW.PrintMore Go.Proofs.YtgmflbgeaiplhaaW.PrintFlat
set_option linter.unusedVariables false
set_option linter.unusedSimpArgs false
def P2 (w : World) (p b p' b' : Nat) (c : Int) (qs rs : List Q) (V : World) : Prop := Below w.heap.size w V ∧ ∃ o1 o2 : Nat → Prop, CS o1 p b c qs V ∧ CS o2 p' b' c rs V ∧ (∀ k, o1 k → ¬ o2 k) ∧ (∀ k, o1 k → w.heap.size ≤ k) ∧ (∀ k, o2 k → w.heap.size ≤ k)
section
variable {w V V' : World} {p b p' b' : Nat} {c : Int} {qs rs : List Q}
theorem P2.symm (h : P2 w p b p' b' c qs rs V) : P2 w p' b' p b c rs qs V := by
  obtain ⟨h0, o1, o2, h1, h2, h3, h4, h5⟩ := h
  exact ⟨h0, o2, o1, h2, h1, fun k hk hk2 => h3 k hk2 hk, h5, h4⟩
theorem P2.below (h : P2 w p b p' b' c qs rs V) (hb : Below V.heap.size V V') : P2 w p b p' b' c qs rs V' := by
  obtain ⟨h0, o1, o2, h1, h2, h3⟩ := h
  exact ⟨below_then h0 h0.size hb, o1, o2, h1.below hb, h2.below hb, h3⟩
theorem add2 (h : P2 w p b p' b' c qs rs V) (i : Int) (hi : (Lit.int .i64 i).wf = true) (A : Option Addr) (cp : Nat) (l : List Int) (hcp : l.length ≤ cp)
    (hbody : Kd.C (Kd.int .u8) w A l.length l) (hl : l.length ≤ 140737488355328) (ht : tot qs ≤ 4611686018427387904) (hq : qs.length ≤ 65535) (h0i : 0 ≤ i) (h1i : i < c) (ha : (qs.any fun x => x.i == i) = false) :
    Calls Try.prog 9 #[.pointer (some ⟨p, 0, none⟩), .int .i64 i, .slice A l.length cp] V fun e w' => e = .returned (.int .i64 0) ∧ ∃ v, P2 w p b p' b' c (qs ++ [⟨i, v, l⟩]) rs w' := by
  obtain ⟨h0, o1, o2, h1, h2, h3, h4, h5⟩ := h
  refine (add_ok h1 i hi A cp l hcp (fun V' hV' => Kd.C_below hbody (h0.trans (hV'.below h0.size h4))) hl (tot_nn qs) ht hq h0i h1i ha).mono ?_
  rintro e w1 ⟨rfl, hf, v, g3⟩
  refine ⟨rfl, v, h0.trans (hf.below h0.size h4), Grew o1 V w1, o2, g3, h2.frame hf (fun k hk => fr_far (w := w) hf h3 k hk), ?_, ?_, h5⟩
  · intro k hk hk2
    rcases hk with hk | hk
    · exact h3 k hk hk2
    · have := h2.lt k hk2
      omega
  · intro k hk
    rcases hk with hk | hk
    · exact h4 k hk
    · exact Nat.le_trans h0.size hk.1
theorem missing2 (h : P2 w p b p' b' c qs rs V) (hc : c ≤ 65535) (hc0 : 0 ≤ c) (hl : qs.length ≤ 65535) : Calls Try.prog 11 #[.pointer (some ⟨p, 0, none⟩)] V fun e w' => e = .returned (.int .i64 (c - qs.length)) ∧ P2 w p b p' b' c qs rs w' := by
  refine (missing_calls h.2.choose_spec.choose_spec.1 hc hc0 hl).mono ?_
  intro e w' ⟨h1, h2⟩
  exact ⟨h1, h.below h2⟩
theorem size2 (h : P2 w p b p' b' c qs rs V) : Calls Try.prog 13 #[.pointer (some ⟨p, 0, none⟩)] V fun e w' => e = .returned (.int .i64 (tot qs)) ∧ P2 w p b p' b' c qs rs w' := by
  refine (size_calls h.2.choose_spec.choose_spec.1).mono ?_
  intro e w' ⟨h1, h2⟩
  exact ⟨h1, h.below h2⟩
theorem whole2 (h : P2 w p b p' b' c qs rs V) (hc : c ≤ 65535) (hc0 : 0 ≤ c) (hl : qs.length ≤ 65535) (ht : tot qs ≤ 4194304) (hcl : c ≤ qs.length) : Calls Try.prog 17 #[.pointer (some ⟨p, 0, none⟩)] V fun e w' => ∃ A c2, e = .returned (.tuple #[.slice A (whole qs c.toNat).length c2, .bool true]) ∧ Kd.C (Kd.int .u8) w' A (whole qs c.toNat).length (whole qs c.toNat) ∧ Below V.heap.size V w' ∧ P2 w p b p' b' c qs rs w' := by
  refine (whole_calls h.2.choose_spec.choose_spec.1 hc hc0 hl ht (tot_nn qs)).mono ?_
  intro e w' ⟨h1, h2⟩
  rcases h2 with ⟨h2, rfl⟩ | ⟨h2, v, rfl, hR⟩
  · omega
  · obtain ⟨A, c2, rfl, _, hC⟩ := Kd.R_reads hR
    exact ⟨A, c2, rfl, hC, h1, h.below h1⟩
end
/-! the plain part -/
def pre (l : List (List Int)) (j : Nat) : List Int := (List.range j).flatMap fun (k : Nat) => rd_L2 l k
theorem pre_succ (l : List (List Int)) (j : Nat) : pre l (j + 1) = pre l j ++ rd_L2 l j := by simp [pre, List.range_succ]
/-- The list holds, of the places from a to b, each once, with the law's bytes. -/
structure Full (l : List (List Int)) (a b : Int) (qs : List Q) : Prop where
  len : (qs.length : Int) = b - a
  rg : ∀ x ∈ qs, a ≤ x.i ∧ x.i < b ∧ x.bs = rd_L2 l x.i
theorem Full.nil (l : List (List Int)) (a : Int) : Full l a a [] := ⟨by simp, fun x hx => by simp at hx⟩
theorem Full.any_out {l : List (List Int)} {a b : Int} {qs : List Q} (h : Full l a b qs) (i : Int) (hi : i < a ∨ b ≤ i) : (qs.any fun x => x.i == i) = false := by
  rw [List.any_eq_false]
  intro x hx he
  have := h.rg x hx
  have := beq_iff_eq.1 he
  omega
theorem Full.up {l : List (List Int)} {a b : Int} {qs : List Q} (h : Full l a b qs) (hab : a ≤ b) (v : Value) : Full l a (b + 1) (qs ++ [⟨b, v, rd_L2 l b⟩]) := ⟨by have := h.len; simp; omega, fun x hx => by
  rcases List.mem_append.1 hx with hx | hx
  · have := h.rg x hx
    exact ⟨this.1, by omega, this.2.2⟩
  · obtain rfl : x = ⟨b, v, rd_L2 l b⟩ := by simpa using hx
    exact ⟨hab, by show b < b + 1; omega, rfl⟩⟩
theorem Full.down {l : List (List Int)} {a b : Int} {qs : List Q} (h : Full l a b qs) (hab : a ≤ b) (v : Value) : Full l (a - 1) b (qs ++ [⟨a - 1, v, rd_L2 l (a - 1)⟩]) := ⟨by have := h.len; simp; omega, fun x hx => by
  rcases List.mem_append.1 hx with hx | hx
  · have := h.rg x hx
    exact ⟨by omega, this.2.1, this.2.2⟩
  · obtain rfl : x = ⟨a - 1, v, rd_L2 l (a - 1)⟩ := by simpa using hx
    exact ⟨by show a - 1 ≤ a - 1; omega, by show a - 1 < b; omega, rfl⟩⟩
theorem tot_le {qs : List Q} {B : Int} (h : ∀ x ∈ qs, (x.bs.length : Int) ≤ B) : tot qs ≤ B * qs.length := by
  unfold tot
  induction qs with
  | nil => simp
  | cons x r ih =>
    have h1 := h x (by simp)
    have h2 := ih (fun y hy => h y (by simp [hy]))
    rw [List.map_cons, List.sum_cons, List.length_cons, show ((r.length + 1 : Nat) : Int) = (r.length : Int) + 1 by omega, Int.mul_add, Int.mul_one]
    omega
theorem Full.bAt_eq {l : List (List Int)} {n : Nat} {qs : List Q} (h : Full l 0 n qs) (hn : (qs.map Q.i).Nodup) (k : Nat) (hk : k < n) : bAt qs k = rd_L2 l k := by
  have hin : (k : Int) ∈ qs.map Q.i := full_of_len hn (fun x hx => by
    obtain ⟨q, hq, rfl⟩ := List.mem_map.1 hx
    exact ⟨(h.rg q hq).1, (h.rg q hq).2.1⟩) (by rw [List.length_map, h.len]; omega) (k : Int) (by omega) (by omega)
  obtain ⟨q, hq, hqk⟩ := List.mem_map.1 hin
  unfold bAt
  cases hf : qs.find? (fun x => x.i == (k : Int)) with
  | none =>
    rw [List.find?_eq_none] at hf
    exact absurd (beq_iff_eq.2 hqk) (hf q hq)
  | some x =>
    have hx := h.rg x (List.mem_of_find?_eq_some hf)
    have he : x.i = (k : Int) := beq_iff_eq.1 (List.find?_some (p := fun x : Q => x.i == (k : Int)) hf)
    show x.bs = _
    rw [hx.2.2, he]
theorem Full.whole_eq {l : List (List Int)} {n : Nat} {qs : List Q} (h : Full l 0 n qs) (hn : (qs.map Q.i).Nodup) : whole qs n = pre l n := by
  unfold whole pre
  have : ∀ (m : Nat), m ≤ n → (List.range m).flatMap (fun (i : Nat) => bAt qs i) = (List.range m).flatMap fun (k : Nat) => rd_L2 l k := by
    intro m
    induction m with
    | zero => intro _; rfl
    | succ m ih =>
      intro hm
      rw [List.range_succ, List.flatMap_append, List.flatMap_append, ih (by omega)]
      simp [h.bAt_eq hn m (by omega)]
  exact this n (Nat.le_refl n)
theorem P2.nd {w V : World} {p b p' b' : Nat} {c : Int} {qs rs : List Q} (h : P2 w p b p' b' c qs rs V) : (qs.map Q.i).Nodup := h.2.choose_spec.choose_spec.1.nd
set_option maxRecDepth 100000 in
set_option maxHeartbeats 8000000 in
theorem order_calls (A0 : Option Addr) (c0 : Nat) (l0 : List (List Int)) (w : World) (hr0 : Kd.C (Kd.slice 5 (Kd.int .u8)) w A0 l0.length l0) (hc0 : l0.length ≤ c0) (hb : ∀ x ∈ l0, x.length ≤ 140737488355328) :
    Calls Try.prog 4 #[.slice A0 l0.length c0] w fun e w' => e = .returned (.bool true) ∧ Below w.heap.size w w' := by
  have HR0 := Aside0.mk hr0
  have HC0 := Aside0.mk hc0
  have HBD := Aside0.mk hb
  have HAW : Aside0 (∀ V, Below w.heap.size w V → Calls Try.prog 6 #[] V fun e w' => e = .returned (.bool true) ∧ Below w.heap.size w w') := ⟨fun V hV => (awake_calls V).mono (fun e w' h => ⟨h.1, below_then hV hV.size h.2⟩)⟩
  clear hr0 hc0 hb
  have HB0 := Aside0.mk (Below.refl w.heap.size w)
  by_cases hlo : (l0.length : Int) < 1
  · go_enter Try.func4, Try.ntmps4
    go_wp2_with fail
    refine (HAW.out _ HB0.out).mono ?_
    rintro e w2 ⟨rfl, hb2⟩
    have HB2 := Aside0.mk hb2
    clear hb2
    go_wp2_with fail
    go_ret
    exact ⟨rfl, HB2.out⟩
  by_cases hhi : (l0.length : Int) > 60
  · go_enter Try.func4, Try.ntmps4
    go_wp2_with fail
    refine (HAW.out _ HB0.out).mono ?_
    rintro e w2 ⟨rfl, hb2⟩
    have HB2 := Aside0.mk hb2
    clear hb2
    go_wp2_with fail
    go_ret
    exact ⟨rfl, HB2.out⟩
  have HN : Aside0 (1 ≤ (l0.length : Int) ∧ (l0.length : Int) ≤ 60) := ⟨by omega⟩
  go_enter Try.func4, Try.ntmps4
  go_wp2_with fail
  refine (new_ok (l0.length : Int) w HN.out.1 (by have := HN.out; omega)).mono ?_
  rintro e w2 ⟨p, b, rfl, hb2, hp, hb, hCS⟩
  have HB2 := Aside0.mk hb2
  have HCS := Aside0.mk hCS
  have HPB := Aside0.mk (And.intro hp hb)
  clear hb2 hCS hp hb
  go_wp2_with fail
  refine (new_ok (l0.length : Int) w2 HN.out.1 (by have := HN.out; omega)).mono ?_
  rintro e w3 ⟨p', b', rfl, hb3, hp', hb', hCS'⟩
  have HPS0 : Aside0 (P2 w p b p' b' (l0.length : Int) [] [] w3) := ⟨⟨below_then HB2.out HB2.out.size hb3, _, _, HCS.out.below hb3, hCS', fun k hk hk2 => by
    have h1 := HCS.out.lt k hk
    omega, fun k hk => by
    have h2 := HPB.out
    omega, fun k hk => by
    have h1 := HB2.out.size
    omega⟩⟩
  clear hb3 hp' hb' hCS'
  go_wp2_with fail
  go_loopg [7, 8] l0.length (fun gg s7 s8 wr => ∃ (ji : Int) (qs rs : List Q), 0 ≤ ji ∧ ji ≤ l0.length ∧ l0.length - ji.toNat ≤ gg ∧ s7 = .string (strOfNums (pre l0 ji.toNat)) ∧ s8 = .int .i64 ji ∧ Aside0 (Full l0 0 ji qs ∧ Full l0 (l0.length - ji) l0.length rs ∧ tot qs = (pre l0 ji.toNat).length ∧ ∀ k : Int, 0 ≤ k → k < ji → (rd_L2 l0 k).length ≤ 300) ∧ Aside0 (P2 w p b p' b' l0.length qs rs wr))
  case atStart => exact ⟨0, [], [], by omega, by omega, by simp, rfl, rfl, ⟨Full.nil l0 0, by have := Full.nil l0 (l0.length : Int); rwa [Int.sub_zero], by simp [tot, pre], fun k h1 h2 => by omega⟩, HPS0⟩
  case round =>
    obtain ⟨ji, qs, rs, hj0, hj1, hgg, rfl, rfl, HF, HPSr⟩ := hrel
    by_cases hlt : ji < (l0.length : Int)
    · obtain ⟨ad, A1, c1, rfl, hx1, hl1, hC1⟩ := at_L2 HR0.out ji hj0 hlt
      obtain ⟨m, hm⟩ : ∃ m : Int, (l0.length : Int) - 1 - ji = m := ⟨_, rfl⟩
      have hm0 : 0 ≤ m := by omega
      have hm1 : m < (l0.length : Int) := by omega
      obtain ⟨ad2, A2, c2, had, hx2, hl2, hC2⟩ := at_L2 HR0.out m hm0 hm1
      cases had
      have hb1 : (rd_L2 l0 ji).length ≤ 140737488355328 := HBD.out _ (by
        unfold rd_L2
        rw [List.getD_eq_getElem?_getD, List.getElem?_eq_getElem (by omega)]
        exact List.getElem_mem _)
      have hb2 : (rd_L2 l0 m).length ≤ 140737488355328 := HBD.out _ (by
        unfold rd_L2
        rw [List.getD_eq_getElem?_getD, List.getElem?_eq_getElem (by omega)]
        exact List.getElem_mem _)
      have hN := HN.out
      have hwa : wrap64 ((l0.length : Int) - 1) = (l0.length : Int) - 1 := by unfold wrap64; omega
      have hwb : wrap64 ((l0.length : Int) - 1 - ji) = m := by unfold wrap64; omega
      have hjw : (Lit.int .i64 ji).wf = true := by simp [Lit.wf, IntKind.min, IntKind.max, IntKind.bits, IntKind.signed]; omega
      have hmw : (Lit.int .i64 m).wf = true := by simp [Lit.wf, IntKind.min, IntKind.max, IntKind.bits, IntKind.signed]; omega
      obtain ⟨xs, hxs⟩ : ∃ xs, rd_L2 l0 ji = xs := ⟨_, rfl⟩
      obtain ⟨ys, hys⟩ : ∃ ys, rd_L2 l0 m = ys := ⟨_, rfl⟩
      have HXS := Aside0.mk hxs
      have HYS := Aside0.mk hys
      rw [hxs] at hx1 hl1 hC1 hb1
      rw [hys] at hx2 hl2 hC2 hb2
      have hrd : ∀ V, Below w.heap.size w V → V.cell? (ad.add ji.toNat) = some (.slice A1 xs.length c1) ∧ V.cell? (ad.add m.toNat) = some (.slice A2 ys.length c2) := fun V hV => ⟨(hV.cell (World.block_lt_of_cell? _ _ hx1)).trans hx1, (hV.cell (World.block_lt_of_cell? _ _ hx2)).trans hx2⟩
      have HRD := Aside0.mk hrd
      have p0 : (0 ≤ ji) = True := eq_true hj0
      have p1 : (ji < (l0.length : Int)) = True := eq_true hlt
      have p2 : (0 ≤ m) = True := eq_true hm0
      have p3 : (m < (l0.length : Int)) = True := eq_true hm1
      have HJ := Aside0.mk (And.intro hj0 (And.intro hj1 (And.intro hlt (And.intro hgg (And.intro hm (And.intro hm0 hm1))))))
      have HLC := Aside0.mk (And.intro hl1 (And.intro hl2 (And.intro hb1 (And.intro hb2 (And.intro hjw hmw)))))
      have HC1 := Aside0.mk hC1
      have HC2 := Aside0.mk hC2
      obtain ⟨t1, t2⟩ := HRD.out _ HPSr.out.1
      clear hx1 hx2 hl1 hl2 hC1 hC2 hb1 hb2 hN hjw hmw hxs hys hrd hm hm0 hm1 hj0 hj1 hgg
      by_cases hbig : (xs.length : Int) > 300
      · go_wp2_with fail
        refine (HAW.out _ HPSr.out.1).mono ?_
        rintro e w4 ⟨rfl, hb4⟩
        have HB4 := Aside0.mk hb4
        clear hb4
        go_wp2_with fail
        go_ret
        exact ⟨rfl, HB4.out⟩
      · have HSM : Aside0 (xs.length ≤ 300) := ⟨by omega⟩
        have HT : Aside0 (tot qs ≤ 4194304 ∧ tot rs ≤ 4611686018427387904 ∧ qs.length ≤ 65535 ∧ rs.length ≤ 65535) := ⟨by
          have f1 := HF.out.1.len
          have f2 := HF.out.2.1.len
          have hj := HJ.out
          have hn := HN.out
          have g1 : tot qs ≤ 300 * qs.length := tot_le (fun x hx => by
            have h1 := HF.out.1.rg x hx
            rw [h1.2.2]
            have := HF.out.2.2.2 x.i h1.1 h1.2.1
            omega)
          have g2 : tot rs ≤ 140737488355328 * rs.length := tot_le (fun x hx => by
            have h1 := HF.out.2.1.rg x hx
            rw [h1.2.2]
            have : (rd_L2 l0 x.i).length ≤ 140737488355328 := HBD.out _ (by
              unfold rd_L2
              rw [List.getD_eq_getElem?_getD, List.getElem?_eq_getElem (by omega)]
              exact List.getElem_mem _)
            omega)
          omega⟩
        go_wp2_with fail
        refine (add2 HPSr.out ji HLC.out.2.2.2.2.1 A1 c1 xs HLC.out.1 HC1.out HLC.out.2.2.1 (by have := HT.out; omega) HT.out.2.2.1 HJ.out.1 HJ.out.2.2.1 (HF.out.1.any_out ji (.inr (Int.le_refl _)))).mono ?_
        rintro e w4 ⟨rfl, v4, hps4⟩
        have HPS4 := Aside0.mk hps4
        obtain ⟨t3, t4⟩ := HRD.out _ hps4.1
        clear hps4
        go_wp2_with fail
        refine (add2 HPS4.out.symm m HLC.out.2.2.2.2.2 A2 c2 ys HLC.out.2.1 HC2.out HLC.out.2.2.2.1 HT.out.2.1 HT.out.2.2.2 HJ.out.2.2.2.2.2.1 HJ.out.2.2.2.2.2.2 (HF.out.2.1.any_out m (.inl (by have := HJ.out; omega)))).mono ?_
        rintro e w5 ⟨rfl, v5, hps5⟩
        have HPS5 := Aside0.mk hps5.symm
        obtain ⟨t5, t6⟩ := HRD.out _ hps5.1
        have hcv : (Go.convert 33 9 (.slice A1 xs.length c1)).run Try.prog w5 = .ok (.string (strOfNums xs)) w5 := Kd.C_string (P := Try.prog) (A := A1) (c := c1) Try.underlying33 Try.underlying5 Try.underlying9 (Kd.C_below HC1.out hps5.1)
        have hsz : ¬ (9223372036854775807 < (strOfNums (pre l0 ji.toNat)).size + (strOfNums xs).size) := by
          rw [strOfNums_size, strOfNums_size]
          have h1 := HF.out.2.2.1
          have h2 := HT.out
          have h3 := HSM.out
          omega
        clear hps5
        go_wp2_with fail
        go_roundg (l0.length - (ji.toNat + 1))
        case measure => have := HJ.out; omega
        case rel =>
          have hj := HJ.out
          have hn := HN.out
          have e1 : (ji + 1).toNat = ji.toNat + 1 := by omega
          have e2 : ((ji.toNat : Nat) : Int) = ji := by omega
          refine ⟨ji + 1, qs ++ [⟨ji, v4, xs⟩], rs ++ [⟨m, v5, ys⟩], by omega, by omega, by omega, ?_, ?_, ⟨?_, ?_, ?_, ?_⟩, HPS5⟩
          · rw [e1, pre_succ, e2, HXS.out, strOfNums_app]
          · first | rfl | (have hw : wrap64 (ji + 1) = ji + 1 := (by unfold wrap64; omega); rw [hw])
          · have := HF.out.1.up hj.1 v4
            rw [HXS.out] at this
            exact this
          · have h1 := HF.out.2.1.down (by omega) v5
            have e3 : (l0.length : Int) - ji - 1 = m := by omega
            rw [e3, HYS.out] at h1
            have e4 : (l0.length : Int) - (ji + 1) = m := by omega
            rw [e4]
            exact h1
          · rw [tot_app, HF.out.2.2.1, e1, pre_succ, List.length_append, e2, HXS.out]
            simp
          · intro k hk0 hk1
            by_cases hk : k = ji
            · rw [hk, HXS.out]; exact HSM.out
            · exact HF.out.2.2.2 k hk0 (by omega)
    · have hje : ji = (l0.length : Int) := by omega
      subst hje
      have hn := HN.out
      have hFq : Full l0 0 (l0.length : Nat) qs := HF.out.1
      have hFr : Full l0 0 (l0.length : Nat) rs := by have := HF.out.2.1; rwa [Int.sub_self] at this
      have HWQ := Aside0.mk (hFq.whole_eq HPSr.out.nd)
      have HWR := Aside0.mk (hFr.whole_eq HPSr.out.symm.nd)
      have hlq := hFq.len
      have hlr := hFr.len
      rw [Int.sub_zero] at hlq hlr
      have HTQ : Aside0 (tot qs ≤ 4194304 ∧ tot rs ≤ 4194304 ∧ (qs.length : Int) = l0.length ∧ (rs.length : Int) = l0.length ∧ tot qs = (pre l0 l0.length).length) := ⟨by
        have g1 : tot qs ≤ 300 * qs.length := tot_le (fun x hx => by
          have h1 := hFq.rg x hx
          rw [h1.2.2]
          have := HF.out.2.2.2 x.i h1.1 h1.2.1
          omega)
        have g2 : tot rs ≤ 300 * rs.length := tot_le (fun x hx => by
          have h1 := hFr.rg x hx
          rw [h1.2.2]
          have := HF.out.2.2.2 x.i h1.1 h1.2.1
          omega)
        have g3 := HF.out.2.2.1
        rw [Int.toNat_natCast] at g3
        omega⟩
      rw [Int.toNat_natCast]
      obtain ⟨all, hall⟩ : ∃ all, pre l0 l0.length = all := ⟨_, rfl⟩
      rw [hall] at HWQ HWR HTQ
      rw [hall]
      clear hFq hFr hlq hlr hgg hj0 hj1 hall
      go_wp2_with fail
      refine (whole2 HPSr.out (by omega) (by omega) (by have := HTQ.out; omega) HTQ.out.1 (by have := HTQ.out; omega)).mono ?_
      rintro e w4 ⟨A4, c4, rfl, hC4, hb4, hps4⟩
      rw [Int.toNat_natCast, HWQ.out] at hC4 ⊢
      have HC4 := Aside0.mk hC4
      have HPS4 := Aside0.mk hps4
      clear hC4 hb4 hps4
      go_wp2_with fail
      refine (whole2 HPS4.out.symm (by omega) (by omega) (by have := HTQ.out; omega) HTQ.out.2.1 (by have := HTQ.out; omega)).mono ?_
      rintro e w5 ⟨A5, c5, rfl, hC5, hb5, hps5⟩
      rw [Int.toNat_natCast, HWR.out] at hC5 ⊢
      have HPS5 := Aside0.mk hps5.symm
      have hcv1 : (Go.convert 33 9 (.slice A4 all.length c4)).run Try.prog w5 = .ok (.string (strOfNums all)) w5 := Kd.C_string (P := Try.prog) (A := A4) (c := c4) Try.underlying33 Try.underlying5 Try.underlying9 (Kd.C_below HC4.out hb5)
      have hcv2 : (Go.convert 33 9 (.slice A5 all.length c5)).run Try.prog w5 = .ok (.string (strOfNums all)) w5 := Kd.C_string (P := Try.prog) (A := A5) (c := c5) Try.underlying33 Try.underlying5 Try.underlying9 hC5
      clear hC5 hb5 hps5
      have hss : ((strOfNums all).size : Int) = tot qs := by rw [strOfNums_size]; exact HTQ.out.2.2.2.2.symm
      have hms : (l0.length : Int) - (qs.length : Int) = 0 := by have := HTQ.out; omega
      go_wp2_with fail
      refine (size2 HPS5.out).mono ?_
      rintro e w6 ⟨rfl, hps6⟩
      have HPS6 := Aside0.mk hps6
      clear hps6
      go_wp2_with fail
      refine (missing2 HPS6.out (by omega) (by omega) (by have := HTQ.out; omega)).mono ?_
      rintro e w7 ⟨rfl, hps7⟩
      rw [hms]
      have HPS7 := Aside0.mk hps7
      clear hps7
      go_wp2_with fail
      refine (HAW.out _ HPS7.out.1).mono ?_
      rintro e w8 ⟨rfl, hb8⟩
      have HB8 := Aside0.mk hb8
      clear hb8
      go_wp2_with fail
      go_ret
      exact ⟨rfl, HB8.out⟩
#print axioms order_calls
end Go.Proofs.Ytgmflbgeaiplhaa.H
