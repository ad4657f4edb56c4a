/- Mine. Chapter 22, by hand: the reference's table: find, without, Held, Tick, New. -/
import Derived.Test.YtaeelmkpjgmdlaaHKD
namespace Go.Proofs.Ytaeelmkpjgmdlaa.H
open Go Go.Proofs Go.RowKit Go.Lib Go.Proofs.Ytaeelmkpjgmdlaa.P Go.Proofs.YtaeelmkpjgmdlaaW.PrintWords Go.Proofs.YtaeelmkpjgmdlaaW.PrintLast Go.Proofs.YtaeelmkpjgmdlaaW.PrintMore Go.Proofs.YtaeelmkpjgmdlaaW.PrintFlat
set_option linter.unusedVariables false
set_option linter.unusedSimpArgs false
/-- The reference's table. -/
structure XS (own : Nat → Prop) (x : Nat) (L : Room.Lim) (os : List OB) (W : World) : Prop where
  ox : own x
  st : ∃ v oB, W.heap[x]? = some (.cells #[.int .i64 L.op, .int .i64 L.by_, .int .i64 L.ex, v] 48 (0, 0)) ∧ Bag OPB 74 oB v os W ∧ ∀ k, oB k → own k ∧ k ≠ x
  lt : ∀ k, own k → k < W.heap.size
theorem XS.frame {own S : Nat → Prop} {x : Nat} {L : Room.Lim} {os : List OB} {W W' : World} (h : XS own x L os W) (hf : Fr S W W') (hd : ∀ k, own k → ¬ S k) : XS own x L os W' where
  ox := h.ox
  st := by
    obtain ⟨v, oB, h1, h2, h3⟩ := h.st
    exact ⟨v, oB, (hf.block x (h.lt x h.ox) (hd x h.ox)).trans h1, h2.frame OPB.fr hf (fun k hk => hd k (h3 k hk).1), h3⟩
  lt := fun k hk => Nat.lt_of_lt_of_le (h.lt k hk) hf.size
theorem XS.below {own : Nat → Prop} {x : Nat} {L : Room.Lim} {os : List OB} {W W' : World} (h : XS own x L os W) (hb : Below W.heap.size W W') : XS own x L os W' := h.frame (S := fun _ => False) (Fr.of_below hb) (fun _ _ h => h)
theorem XS.reads {own : Nat → Prop} {x : Nat} {L : Room.Lim} {os : List OB} {W : World} (h : XS own x L os W) : ∃ A c, W.cell? ⟨x, 0, none⟩ = some (.int .i64 L.op) ∧ W.cell? ⟨x, 1, none⟩ = some (.int .i64 L.by_) ∧ W.cell? ⟨x, 2, none⟩ = some (.int .i64 L.ex) ∧
    W.cell? ⟨x, 3, none⟩ = some (.slice A os.length c) ∧ os.length ≤ c ∧ Kd.C k7 W A os.length os := by
  obtain ⟨v, oB, h1, h2, h3⟩ := h.st
  obtain ⟨A, c, rfl, hl, hC⟩ := h2.reads
  exact ⟨A, c, (blk_cell h1 0).trans rfl, (blk_cell h1 1).trans rfl, (blk_cell h1 2).trans rfl, (blk_cell h1 3).trans rfl, hl, hC⟩
theorem XS.obj {own : Nat → Prop} {x : Nat} {L : Room.Lim} {os : List OB} {W : World} (h : XS own x L os W) : ∀ o ∈ os, OPB o W := by
  obtain ⟨v, oB, h1, h2, h3⟩ := h.st
  exact h2.obj
abbrev okey4 (o : OB) : (Nat → Prop) × Nat × Int × Room.Pt := (o.own, o.p, o.a.cnt, o.a.ps)
/-- A row made anew, of messages that were there. -/
theorem Bag.fresh {own okN : Nat → Prop} {v v' : Value} {os os' : List OB} {W W' : World} (h : Bag OPB 74 own v os W) (hb : Below W.heap.size W W') (hrow : k7.R 74 W' 0 okN v' os') (hN : ∀ q, okN q → W.heap.size ≤ q)
    (hm : (os'.map okey4).Sublist (os.map okey4)) : Bag OPB 74 (fun q => own q ∨ W.heap.size ≤ q ∧ q < W'.heap.size) v' os' W' := by
  have hmem : ∀ o' ∈ os', ∃ o ∈ os, o'.own = o.own ∧ o'.p = o.p ∧ o'.a.cnt = o.a.cnt ∧ o'.a.ps = o.a.ps := fun o' ho' => by
    have h1 := hm.subset (List.mem_map.2 ⟨o', ho', rfl⟩)
    obtain ⟨o, ho, e⟩ := List.mem_map.1 h1
    injection e with e1 e2
    injection e2 with e2 e3
    injection e3 with e3 e4
    exact ⟨o, ho, e1.symm, e2.symm, e3.symm, e4.symm⟩
  refine ⟨⟨fun q => okN q ∧ q < W'.heap.size, Kd.R_mono (Kd.R_bound hrow) (fun q hq => ⟨hq.1, hq.2.2.1⟩), fun q hq => ⟨.inr ⟨hN q hq.1, hq.2⟩, fun o' ho' e => ?_⟩⟩, fun o' ho' => ?_, fun o' ho' q hq => ?_, ?_, fun q hq => ?_⟩
  · obtain ⟨o, ho, e1, _⟩ := hmem o' ho'
    rw [e1] at e
    have h1 := h.lt q (h.sub o ho q e)
    have h2 := hN q hq.1
    omega
  · obtain ⟨o, ho, e1, e2, e3, e4⟩ := hmem o' ho'
    unfold OPB
    rw [e1, e2, e3, e4]
    exact OPB.fr o W W' (fun _ => False) (h.obj o ho) (Fr.of_below hb) (fun _ _ h => h)
  · obtain ⟨o, ho, e1, _⟩ := hmem o' ho'
    rw [e1] at hq
    exact .inl (h.sub o ho q hq)
  · have h2 : (os.map okey4).Pairwise (fun a b => ∀ k, a.1 k → ¬ b.1 k) := by rw [List.pairwise_map]; exact h.apart
    have h3 := h2.sublist hm
    rw [List.pairwise_map] at h3
    exact h3
  · rcases hq with hq | hq
    · exact Nat.lt_of_lt_of_le (h.lt q hq) hb.size
    · exact hq.2
theorem XS.turn {own okN : Nat → Prop} {x : Nat} {L : Room.Lim} {os os' : List OB} {W w3 w4 : World} {v' : Value} (h : XS own x L os W) (hb : Below W.heap.size W w3) (hrow : k7.R 74 w3 0 okN v' os') (hN : ∀ q, okN q → W.heap.size ≤ q)
    (hm : (os'.map okey4).Sublist (os.map okey4)) (hw : w4 = w3.setCell ⟨x, 3, none⟩ v') : Fr own W w4 ∧ XS (fun q => own q ∨ W.heap.size ≤ q ∧ q < w4.heap.size) x L os' w4 := by
  obtain ⟨v, oB, h1, h2, h3⟩ := h.st
  have hxl := h.lt x h.ox
  have hbx : w3.heap[x]? = some (.cells #[.int .i64 L.op, .int .i64 L.by_, .int .i64 L.ex, v] 48 (0, 0)) := (hb.block x hxl).trans h1
  have hblk := blk_set hbx 3 v'
  have hsz : w4.heap.size = w3.heap.size := by rw [hw]; simp [World.setCell]
  have hf4 : Fr (fun k => k = x) w3 w4 := ⟨by rw [hw]; rfl, by rw [hw]; rfl, by rw [hw]; rfl, by omega, fun k hk hn => by rw [hw]; exact Below.heap_setCell _ _ _ _ hn⟩
  have hs := hb.size
  have hbag := (h2.fresh hb hrow hN hm).frame OPB.fr hf4 (fun k hk e => by
    rcases hk with hk | hk
    · exact (h3 k hk).2 e
    · omega)
  refine ⟨(Fr.of_below (own := own) hb).then_ hf4 (fun q _ e => by rw [e]; exact h.ox), .inl h.ox, ⟨v', _, ?_, hbag, fun k hk => ?_⟩, fun k hk => ?_⟩
  · rw [hw, hblk]; simp
  · rcases hk with hk | hk
    · exact ⟨.inl (h3 k hk).1, (h3 k hk).2⟩
    · exact ⟨.inr ⟨hk.1, by omega⟩, by omega⟩
  · rcases hk with hk | hk
    · have := h.lt k hk; omega
    · exact hk.2
set_option maxHeartbeats 2000000 in
set_option maxRecDepth 100000 in
theorem xfind_calls {own : Nat → Prop} {x : Nat} {L : Room.Lim} {os : List OB} {W : World} (h : XS own x L os W) (hm : os.length ≤ 1000) (f e i : Int) :
    Calls Try.prog 36 #[.pointer (some ⟨x, 0, none⟩), .int .u16 f, .int .u32 e, .int .u32 i] W fun e' w' => e' = .returned (.int .i64 (Room.ixI (Room.isK f e i) (aOf os))) ∧ Below W.heap.size W w' := by
  obtain ⟨A, c, g0, g1, g2, g3, hl, hC⟩ := h.reads
  have HC := Aside0.mk hC
  have HB := Aside0.mk (Below.refl W.heap.size W)
  clear h hC
  go_enter Try.func36, Try.ntmps36
  go_wp2
  go_loopg [9] os.length (fun gg s9 wr => ∃ k : Nat, k ≤ os.length ∧ os.length - k ≤ gg ∧ s9 = .int .i64 k ∧ Aside0 (wr = W) ∧ Aside0 (∀ j, j < k → Room.isK f e i (rd7 os j).a = false))
  case atStart => exact ⟨0, Nat.zero_le _, by omega, rfl, ⟨rfl⟩, ⟨fun j hj => absurd hj (Nat.not_lt_zero _)⟩⟩
  case round =>
    obtain ⟨k, hk, hgg, rfl, HW, HO⟩ := hrel
    obtain rfl := HW.out
    by_cases hlt : k < os.length
    · obtain ⟨ad, e1, hx0, hx1, hx2, hx3, hx4, hx5, hx6⟩ := at7 HC.out (k : Int) (by omega) (by omega)
      cases e1
      simp only [Int.toNat_natCast] at hx0 hx1 hx2 hx3 hx4 hx5 hx6
      obtain ⟨y, hy⟩ : ∃ y, rd7 os k = y := ⟨_, rfl⟩
      rw [hy] at hx0 hx1 hx2 hx3 hx4 hx5 hx6
      have HY := Aside0.mk hy
      have p0 : (0 ≤ (k : Int)) = True := eq_true (by omega)
      have p1 : ((k : Int) < (os.length : Int)) = True := eq_true (by omega)
      have hcase : (y.a.fr == f) = false ∨ ((y.a.fr == f) = true ∧ (y.a.ep == e) = false) ∨ ((y.a.fr == f) = true ∧ (y.a.ep == e) = true ∧ (y.a.id == i) = false) ∨ ((y.a.fr == f) = true ∧ (y.a.ep == e) = true ∧ (y.a.id == i) = true) := by
        cases (y.a.fr == f) <;> cases (y.a.ep == e) <;> cases (y.a.id == i) <;> simp
      clear hy
      rcases hcase with h1 | ⟨h1, h2⟩ | ⟨h1, h2, h3⟩ | ⟨h1, h2, h3⟩
      case inr.inr.inr =>
        have HK : Aside0 (Room.isK f e i y.a = true) := ⟨by unfold Room.isK; rw [h1, h2, h3]; rfl⟩
        go_wp2
        go_ret
        refine ⟨?_, HB.out⟩
        have h := Room.ixI_hit (p := fun o : OB => Room.isK f e i o.a) (os := os) zB k hlt (by have h := HK.out; rw [← HY.out] at h; simpa [rd7] using h) (fun j hj => by have := HO.out j hj; simpa [rd7] using this)
        rw [show aOf os = os.map OB.a from rfl, ixI_map, h]
        rfl
      all_goals
        have HK : Aside0 (Room.isK f e i y.a = false) := ⟨by unfold Room.isK; simp_all⟩
        go_wp2
        go_roundg (os.length - (k + 1))
        case measure => omega
        case rel =>
          refine ⟨k + 1, by omega, by omega, by go_num, ⟨rfl⟩, ⟨fun j hj => ?_⟩⟩
          rcases Nat.lt_or_ge j k with h | h
          · exact HO.out j h
          · obtain rfl : j = k := by omega
            rw [HY.out]; exact HK.out
    · have p1 : ¬ ((k : Int) < (os.length : Int)) := by omega
      go_wp2
      go_ret
      refine ⟨?_, HB.out⟩
      rw [show aOf os = os.map OB.a from rfl, ixI_map, Room.ixI_miss (p := fun o : OB => Room.isK f e i o.a) (os := os) zB (fun j hj => by have := HO.out j (by omega); simpa [rd7] using this)]
      rfl
set_option maxHeartbeats 2000000 in
set_option maxRecDepth 100000 in
theorem xheld_calls {own : Nat → Prop} {x : Nat} {L : Room.Lim} {os : List OB} {W : World} (h : XS own x L os W) (hm : os.length ≤ 1000) (hh : Room.held (aOf os) ≤ 4611686018427387904) (hc : ∀ o ∈ os, 1 ≤ o.a.cnt ∧ o.a.cnt ≤ 65535) :
    Calls Try.prog 17 #[.pointer (some ⟨x, 0, none⟩)] W fun e' w' => e' = .returned (.int .i64 (Room.held (aOf os))) ∧ Below W.heap.size W w' := by
  have HH := Aside0.mk h
  have HHH := Aside0.mk hh
  have HCT := Aside0.mk hc
  have HB0 := Aside0.mk (Below.refl W.heap.size W)
  clear h hh hc
  go_enter Try.func17, Try.ntmps17
  go_wp2
  go_loopg [3, 4] os.length (fun gg s3 s4 wr => ∃ k : Nat, k ≤ os.length ∧ os.length - k ≤ gg ∧ s3 = .int .i64 (Room.held (aOf (os.take k))) ∧ s4 = .int .i64 k ∧ Aside0 (Below W.heap.size W wr))
  case atStart => exact ⟨0, Nat.zero_le _, by omega, rfl, rfl, HB0⟩
  case round =>
    obtain ⟨k, hk, hgg, rfl, rfl, HBk⟩ := hrel
    have hX := HH.out.below HBk.out
    obtain ⟨A, c, g0, g1, g2, g3, hl, hC⟩ := hX.reads
    by_cases hlt : k < os.length
    · obtain ⟨ad, e1, hx0, hx1, hx2, hx3, hx4, hx5, hx6⟩ := at7 hC (k : Int) (by omega) (by omega)
      cases e1
      simp only [Int.toNat_natCast] at hx0 hx1 hx2 hx3 hx4 hx5 hx6
      have hm7 : rd7 os k ∈ os := by rw [rd7_eq hlt]; exact List.getElem_mem _
      have HSZ := Aside0.mk (rsize_ok (hX.obj _ hm7) (by have := HCT.out _ hm7; omega) (by have := HCT.out _ hm7; omega) (by have h1 := size_le_held hm7; have h2 := HHH.out; omega))
      have HKK := Aside0.mk (held_take hlt)
      obtain ⟨y, hy⟩ : ∃ y, rd7 os k = y := ⟨_, rfl⟩
      rw [hy] at hx0 hx1 hx2 hx3 hx4 hx5 hx6 HSZ HKK
      clear hX hy hC hm7
      have p0 : (0 ≤ (k : Int)) = True := eq_true (by omega)
      have p1 : ((k : Int) < (os.length : Int)) = True := eq_true (by omega)
      go_wp2_with fail
      refine HSZ.out.mono ?_
      rintro e' w1 ⟨rfl, hb1⟩
      have HB1 := Aside0.mk (below_then HBk.out HBk.out.size hb1)
      clear hb1 hx0 hx1 hx2 hx3 hx4 hx5 hx6 HSZ
      go_wp2
      go_roundg (os.length - (k + 1))
      case measure => omega
      case rel =>
        refine ⟨k + 1, by omega, by omega, ?_, by go_num, HB1⟩
        have e1 := HKK.out
        have e2 := held_take_le os (k + 1)
        have e3 := Room.held_nn (aOf (os.take k))
        have e4 := HHH.out
        have e5 := Room.held_nn (aOf (os.take (k + 1)))
        have e6 : wrap64 (Room.held (aOf (os.take k)) + Room.size y.a.ps) = Room.held (aOf (os.take (k + 1))) := by rw [← e1]; unfold wrap64; omega
        rw [e6]
    · have hkk : k = os.length := by omega
      have p1 : ¬ ((k : Int) < (os.length : Int)) := by omega
      go_wp2
      go_ret
      refine ⟨?_, HBk.out⟩
      subst hkk
      first | rfl | (rw [List.take_length]; rfl)
theorem erase_snoc {α : Type} (l : List α) (x : α) (a : Nat) : (l ++ [x]).eraseIdx a = if a = l.length then l else l.eraseIdx a ++ [x] := by
  split
  · rename_i h
    rw [h, List.eraseIdx_append_of_length_le (Nat.le_refl _)]
    simp
  · rename_i h
    rcases Nat.lt_or_ge a l.length with h1 | h1
    · rw [List.eraseIdx_append_of_lt_length h1]
    · rw [List.eraseIdx_of_length_le (by simp; omega), List.eraseIdx_of_length_le h1]
set_option maxHeartbeats 2000000 in
set_option maxRecDepth 100000 in
theorem without_calls {own : Nat → Prop} {x : Nat} {L : Room.Lim} {os : List OB} {W : World} (h : XS own x L os W) (hm : os.length ≤ 1000) (at_ : Int) (a : Nat) (ha : ∀ k : Nat, k < os.length → ((k : Int) = at_ ↔ k = a)) :
    Calls Try.prog 39 #[.pointer (some ⟨x, 0, none⟩), .int .i64 at_] W fun e' w' => e' = .returned (.tuple #[]) ∧ Fr own W w' ∧ XS (fun q => own q ∨ W.heap.size ≤ q ∧ q < w'.heap.size) x L (os.eraseIdx a) w' := by
  have HH := Aside0.mk h
  have HA := Aside0.mk ha
  have HB0 := Aside0.mk (Below.refl W.heap.size W)
  have HR0 : Aside0 (k7.R 74 W 0 (fun q => W.heap.size ≤ q) (.slice none 0 0) ((os.take 0).eraseIdx a)) := ⟨by rw [List.take_zero, List.eraseIdx_nil]; exact Kd.R_nil _ _ _ _ _⟩
  clear h ha
  go_enter Try.func39, Try.ntmps39
  go_wp2
  go_loopg [4, 5] os.length (fun gg s4 s5 wr => ∃ k : Nat, k ≤ os.length ∧ os.length - k ≤ gg ∧ s5 = .int .i64 k ∧ Aside0 (Below W.heap.size W wr) ∧ Aside0 (k7.R 74 wr 0 (fun q => W.heap.size ≤ q) s4 ((os.take k).eraseIdx a)))
  case atStart => exact ⟨0, Nat.zero_le _, by omega, rfl, HB0, HR0⟩
  case round =>
    obtain ⟨k, hk, hgg, rfl, HBk, HRK⟩ := hrel
    have hX := HH.out.below HBk.out
    obtain ⟨A, c, g0, g1, g2, g3, hl, hC⟩ := hX.reads
    by_cases hlt : k < os.length
    · obtain ⟨ad, e1, hx0, hx1, hx2, hx3, hx4, hx5, hx6⟩ := at7 hC (k : Int) (by omega) (by omega)
      cases e1
      simp only [Int.toNat_natCast] at hx0 hx1 hx2 hx3 hx4 hx5 hx6
      rw [rd7_eq hlt] at hx0 hx1 hx2 hx3 hx4 hx5 hx6
      obtain ⟨y, hy⟩ : ∃ y, os[k] = y := ⟨_, rfl⟩
      rw [hy] at hx0 hx1 hx2 hx3 hx4 hx5 hx6
      have HET : Aside0 ((os.take (k + 1)).eraseIdx a = if a = k then os.take k else (os.take k).eraseIdx a ++ [y]) := ⟨by
        rw [List.take_succ_eq_append_getElem hlt, hy, erase_snoc, List.length_take, Nat.min_eq_left (by omega)]⟩
      have p0 : (0 ≤ (k : Int)) = True := eq_true (by omega)
      have p1 : ((k : Int) < (os.length : Int)) = True := eq_true (by omega)
      have hak := HA.out k hlt
      clear hX hC hy
      by_cases hka : k = a
      · have hb : ((k : Int) != at_) = false := by simpa using hak.2 hka
        have hb2 : ((k : Int) == at_) = true := by simpa using hak.2 hka
        have HKA := Aside0.mk hka
        clear hak hka
        go_wp2
        go_roundg (os.length - (k + 1))
        case measure => omega
        case rel =>
          refine ⟨k + 1, by omega, by omega, by go_num, HBk, ⟨?_⟩⟩
          rw [HET.out, if_pos HKA.out.symm]
          have h := HRK.out
          rw [List.eraseIdx_of_length_le (by rw [List.length_take]; have := HKA.out; omega)] at h
          exact h
      · have hne : ¬ ((k : Int) = at_) := fun e => hka (hak.1 e)
        have hb : ((k : Int) != at_) = true := by simpa using hne
        have hb2 : ((k : Int) == at_) = false := by simpa using hne
        have HKA := Aside0.mk hka
        have HSZ := Aside0.mk HBk.out.size
        have HLQ : Aside0 ((((os.take k).eraseIdx a).length + 1) * 32 ≤ 140737488355328) := ⟨by have h1 := (List.eraseIdx_sublist (os.take k) a).length_le; have h2 := List.length_take_le k os; omega⟩
        obtain ⟨acc, hacc⟩ : ∃ acc, (os.take k).eraseIdx a = acc := ⟨_, rfl⟩
        rw [hacc] at HRK HET HLQ
        obtain ⟨A4, c4, rfl, _, _⟩ := Kd.R_reads HRK.out
        clear hak hka hne hacc
        go_wp2_with (at_builtin; (with_reducible refine Kd.R_append k7 (w0 := wr) 0 rfl _ _ 46 74 _ 32 rfl Try.underlying46 i74 rfl (by decide) (by decide) (.slice A4 acc.length c4) acc y [.int .u16 y.a.fr, .int .u32 y.a.ep, .int .u32 y.a.id, .int .u16 y.a.cnt, .int .u8 y.a.ver, .int .i64 y.a.age, .pointer (some ⟨y.p, 0, none⟩)] (fun q => W.heap.size ≤ q) (fun _ => False) rfl rfl ?hp ?hokp ?hfresh ?hO ?hB (Nat.zero_le _) ?hl ?_); (case hp => exact k7_mkM _ _ _ _); (case hokp => exact fun _ h => h.elim); (case hfresh => exact fun _ h => Nat.le_trans HSZ.out h); (case hO => exact HRK.out); (case hB => exact Below.refl _ _); (case hl => exact HLQ.out); intro v8 w8 hO8 hb8 hg8 hat8; have HO8 := Aside0.mk hO8; have HG8 := Aside0.mk hg8; clear hO8 hb8 hg8 hat8)
        go_roundg (os.length - (k + 1))
        case measure => omega
        case rel =>
          refine ⟨k + 1, by omega, by omega, by go_num, ⟨pw_below_grown HBk.out _ HBk.out.size HG8.out (fun q hq => HRK.out.1 q hq)⟩, ⟨?_⟩⟩
          rw [HET.out, if_neg (fun e => HKA.out e.symm)]
          exact HO8.out
    · have hkk : k = os.length := by omega
      have p1 : ¬ ((k : Int) < (os.length : Int)) := by omega
      subst hkk
      rw [List.take_length] at HRK
      obtain ⟨A4, c4, rfl, _, _⟩ := Kd.R_reads HRK.out
      have hbx := hX.st.choose_spec.choose_spec.1
      have hfx : wr.frozen? ⟨x, 3, none⟩ = false := blk_frozen hbx 3
      clear hX hC hbx
      go_wp2
      go_end0
      have h := HH.out.turn HBk.out HRK.out (fun _ h => h) ((List.eraseIdx_sublist os a).map _) rfl
      exact ⟨rfl, h.1, h.2⟩
#print axioms without_calls
end Go.Proofs.Ytaeelmkpjgmdlaa.H
