/- Mine. Chapter 22, by hand: Held, there, refused, fit, begin of the table. -/
import Derived.Test.YtaeelmkpjgmdlaaHI
namespace Go.Proofs.Ytaeelmkpjgmdlaa.H
open Go Go.Proofs Go.RowKit Go.Lib Go.Proofs.Ytaeelmkpjgmdlaa.P Go.Proofs.YtaeelmkpjgmdlaaW.PrintWords Go.Proofs.YtaeelmkpjgmdlaaW.PrintLast Go.Proofs.YtaeelmkpjgmdlaaW.PrintMore Go.Proofs.YtaeelmkpjgmdlaaW.PrintFlat
set_option linter.unusedVariables false
set_option linter.unusedSimpArgs false
def aOf (os : List OB) : List Room.OA := os.map OB.a
theorem aOf_len (os : List OB) : (aOf os).length = os.length := List.length_map _
theorem aOf_app (a b : List OB) : aOf (a ++ b) = aOf a ++ aOf b := List.map_append
theorem held_take {os : List OB} {k : Nat} (hk : k < os.length) : Room.held (aOf (os.take (k + 1))) = Room.held (aOf (os.take k)) + Room.size (rd7 os (k : Int)).a.ps := by
  rw [List.take_succ_eq_append_getElem hk, rd7_eq hk, aOf_app, Room.held_app]
  simp [Room.held, aOf]
theorem held_take_le (os : List OB) (k : Nat) : Room.held (aOf (os.take k)) ≤ Room.held (aOf os) := by
  have h : Room.held (aOf (os.take k ++ os.drop k)) = Room.held (aOf (os.take k)) + Room.held (aOf (os.drop k)) := by rw [aOf_app, Room.held_app]
  rw [List.take_append_drop] at h
  have := Room.held_nn (aOf (os.drop k))
  omega
set_option maxHeartbeats 2000000 in
set_option maxRecDepth 100000 in
theorem held_calls {own : Nat → Prop} {t : Nat} {L : Room.Lim} {os : List OB} {W : World} (h : TS own t L os W) (hh : Room.held (aOf os) ≤ 4611686018427387904) (hm : os.length ≤ 140737488355328) :
    Calls Try.prog 16 #[.pointer (some ⟨t, 0, none⟩)] W fun e' w' => e' = .returned (.int .i64 (Room.held (aOf os))) ∧ Below W.heap.size W w' := by
  obtain ⟨A, c, g0, g1, g2, g3, g4, hl, hC⟩ := h.reads
  have HH := Aside0.mk h
  have HHH := Aside0.mk hh
  have HC := Aside0.mk hC
  have HB0 := Aside0.mk (Below.refl W.heap.size W)
  clear h hC hh
  go_enter Try.func16, Try.ntmps16
  go_wp2
  go_loopg [3, 5, 13] os.length (fun gg s3 _ s13 wr => ∃ k : Nat, k ≤ os.length ∧ os.length - k ≤ gg ∧ s3 = .int .i64 (Room.held (aOf (os.take k))) ∧ s13 = .int .i64 k ∧ Aside0 (Below W.heap.size W wr))
  case atStart => exact ⟨0, Nat.zero_le _, by omega, rfl, rfl, HB0⟩
  case round =>
    obtain ⟨k, hk, hgg, rfl, rfl, HBk⟩ := hrel
    clear g0 g1 g2 g3 g4
    by_cases hlt : k < os.length
    · obtain ⟨ad, e1, hx0, hx1, hx2, hx3, hx4, hx5, hx6⟩ := at7 (Kd.C_below HC.out HBk.out) (k : Int) (by omega) (by omega)
      cases e1
      simp only [Int.toNat_natCast] at hx0 hx1 hx2 hx3 hx4 hx5 hx6
      have hobj : OPA (rd7 os k) (wr.alloc (.cells #[.int .u16 (rd7 os k).a.fr, .int .u32 (rd7 os k).a.ep, .int .u32 (rd7 os k).a.id, .int .u16 (rd7 os k).a.cnt, .int .u8 (rd7 os k).a.ver, .int .i64 (rd7 os k).a.age, .pointer (some ⟨(rd7 os k).p, 0, none⟩)] 69)) := by
        have hm : rd7 os k ∈ os := by rw [rd7_eq hlt]; exact List.getElem_mem _
        exact (HH.out.below (below_alloc HBk.out _)).obj _ hm
      have HSZ := Aside0.mk (size_ok hobj)
      have HKK := Aside0.mk (held_take hlt)
      obtain ⟨y, hy⟩ : ∃ y, rd7 os k = y := ⟨_, rfl⟩
      rw [hy] at hx0 hx1 hx2 hx3 hx4 hx5 hx6 HSZ HKK
      clear hobj hy
      have p0 : (0 ≤ (k : Int)) = True := eq_true (by omega)
      have p1 : ((k : Int) < (os.length : Int)) = True := eq_true (by omega)
      go_wp2_with fail
      refine HSZ.out.mono ?_
      rintro e' w1 ⟨rfl, hb1⟩
      have HB1 := Aside0.mk (below_then HBk.out HBk.out.size (below_then (below_alloc (Below.refl _ _) _) (by simp) hb1))
      clear hb1 hx0 hx1 hx2 hx3 hx4 hx5 hx6 HSZ
      go_wp2
      go_roundg (os.length - (k + 1))
      case measure => omega
      case rel =>
        refine ⟨k + 1, by omega, by omega, ?_, by go_num, HB1⟩
        have e1 := HKK.out
        have e2 := held_take_le os (k + 1)
        have e3 := Room.held_nn (aOf (os.take k))
        have e4 := HHH.out
        have e5 := Room.held_nn (aOf (os.take (k + 1)))
        have e6 : wrap64 (Room.held (aOf (os.take k)) + Room.size y.a.ps) = Room.held (aOf (os.take (k + 1))) := by rw [← e1]; unfold wrap64; omega
        rw [e6]
    · have hkk : k = os.length := by omega
      have p1 : ¬ ((k : Int) < (os.length : Int)) := by omega
      go_wp2
      go_ret
      refine ⟨?_, HBk.out⟩
      subst hkk
      first | rfl | (rw [List.take_length]; rfl)
#print axioms held_calls
/-- A datagram's value, and its cells. -/
abbrev cellsG (kd : Int) (g : Room.GA) (A : Option Addr) (cp : Nat) : List Value := [.int .u8 kd, .int .u8 g.ver, .int .u32 g.ep, .int .u32 g.id, .int .u16 g.ix, .int .u16 g.cnt, .slice A g.body.length cp]
def Sm (L : Room.Lim) (os : List OB) : Prop := os.length ≤ 1000 ∧ Room.held (aOf os) ≤ 4611686018427387904 ∧ (0 ≤ L.by_ ∧ L.by_ ≤ 65536) ∧ ∀ o ∈ os, 1 ≤ o.a.cnt ∧ o.a.cnt ≤ 65535
def Gm (g : Room.GA) : Prop := 0 ≤ g.ix ∧ g.ix ≤ 65535 ∧ 0 ≤ g.cnt ∧ g.cnt ≤ 65535 ∧ g.body.length ≤ 80000
theorem size_le_held {os : List OB} {o : OB} (h : o ∈ os) : Room.size o.a.ps ≤ Room.held (aOf os) := by
  obtain ⟨s, r, rfl⟩ := List.append_of_mem h
  rw [aOf_app, Room.held_app]
  have h1 := Room.held_nn (aOf s)
  have h2 : Room.held (aOf (o :: r)) = Room.size o.a.ps + Room.held (aOf r) := by simp [Room.held, aOf]
  have h3 := Room.held_nn (aOf r)
  omega
set_option maxHeartbeats 2000000 in
set_option maxRecDepth 100000 in
/-- there, where the message is open. -/
theorem there_calls {own : Nat → Prop} {t : Nat} {L : Room.Lim} {os : List OB} {W : World} (h : TS own t L os W) (hs : Sm L os) (k : Nat) (hk : k < os.length) (kd : Int) (g : Room.GA) (hg : Gm g) (A : Option Addr) (cp : Nat) :
    Calls Try.prog 29 #[.pointer (some ⟨t, 0, none⟩), .int .i64 k, .agg #[.int .u8 kd, .int .u8 g.ver, .int .u32 g.ep, .int .u32 g.id, .int .u16 g.ix, .int .u16 g.cnt, .slice A g.body.length cp]] W
      fun e' w' => e' = .returned (.bool (decide (os[k].a.cnt = g.cnt) && decide (os[k].a.ver = g.ver) && Room.has os[k].a.ps g.ix)) ∧ Below W.heap.size W w' := by
  have hb0 : Below W.heap.size W (W.alloc (.cells #[.int .u8 kd, .int .u8 g.ver, .int .u32 g.ep, .int .u32 g.id, .int .u16 g.ix, .int .u16 g.cnt, .slice A g.body.length cp] 38)) := below_alloc (Below.refl _ _) _
  have HB0 := Aside0.mk hb0
  have h1 := h.below hb0
  obtain ⟨B, c, g0, g1, g2, g3, g4, hl, hC⟩ := h1.reads
  obtain ⟨ad, e1, hx0, hx1, hx2, hx3, hx4, hx5, hx6⟩ := at7 hC (k : Int) (by omega) (by omega)
  cases e1
  simp only [Int.toNat_natCast] at hx0 hx1 hx2 hx3 hx4 hx5 hx6
  rw [rd7_eq hk] at hx0 hx1 hx2 hx3 hx4 hx5 hx6
  have hobj := h1.obj os[k] (List.getElem_mem _)
  have hhas := fun (V : World) (hV : Below (W.alloc (.cells #[.int .u8 kd, .int .u8 g.ver, .int .u32 g.ep, .int .u32 g.id, .int .u16 g.ix, .int .u16 g.cnt, .slice A g.body.length cp] 38)).heap.size (W.alloc (.cells #[.int .u8 kd, .int .u8 g.ver, .int .u32 g.ep, .int .u32 g.id, .int .u16 g.ix, .int .u16 g.cnt, .slice A g.body.length cp] 38)) V) =>
    has_same (PA.frame hobj (Fr.of_below hV) (S := fun _ => False) (fun _ _ h => h)) g.ix (by obtain ⟨h1, h2, _⟩ := hg; simp [Lit.wf, IntKind.min, IntKind.max, IntKind.bits, IntKind.signed]; omega)
  obtain ⟨y, hy⟩ : ∃ y, os[k] = y := ⟨_, rfl⟩
  rw [hy] at hx0 hx1 hx2 hx3 hx4 hx5 hx6 hhas
  rw [hy]
  have HHAS := Aside0.mk hhas
  have p0 : (0 ≤ (k : Int)) = True := eq_true (by omega)
  have p1 : ((k : Int) < (os.length : Int)) = True := eq_true (by omega)
  have hge : decide ((k : Int) ≥ 0) = true := by simp
  have hwx : wrap64 g.ix = g.ix := by obtain ⟨h1, h2, _⟩ := hg; unfold wrap64; omega
  clear hobj hhas hy h h1 hC hs hg hb0
  by_cases hc : y.a.cnt = g.cnt
  · have hc1 : (y.a.cnt == g.cnt) = true := by simpa using hc
    by_cases hv : y.a.ver = g.ver
    · have hv1 : (y.a.ver == g.ver) = true := by simpa using hv
      go_enter Try.func29, Try.ntmps29
      go_wp2
      go_quiet ((go_at_call 58; exact Calls.quiet_of_same (HHAS.out _ (pw_below_drewN (Below.refl _ _) _))))
      go_wp2
      go_ret
      refine ⟨?_, pw_below_drewN HB0.out _⟩
      simp [hc, hv]
    · have hv1 : (y.a.ver == g.ver) = false := by simpa using hv
      go_enter Try.func29, Try.ntmps29
      go_wp2
      go_quiet (fail)
      go_wp2
      go_ret
      refine ⟨?_, pw_below_drewN HB0.out _⟩
      simp [hc, hv]
  · have hc1 : (y.a.cnt == g.cnt) = false := by simpa using hc
    go_enter Try.func29, Try.ntmps29
    go_wp2
    go_quiet (fail)
    go_wp2
    go_ret
    refine ⟨?_, pw_below_drewN HB0.out _⟩
    simp [hc]
set_option maxHeartbeats 2000000 in
set_option maxRecDepth 100000 in
theorem there_none (t : Nat) (W : World) (kd : Int) (g : Room.GA) (A : Option Addr) (cp : Nat) :
    Calls Try.prog 29 #[.pointer (some ⟨t, 0, none⟩), .int .i64 (-1), .agg #[.int .u8 kd, .int .u8 g.ver, .int .u32 g.ep, .int .u32 g.id, .int .u16 g.ix, .int .u16 g.cnt, .slice A g.body.length cp]] W
      fun e' w' => e' = .returned (.bool false) ∧ Below W.heap.size W w' := by
  have HB0 := Aside0.mk (show Below W.heap.size W (W.alloc (.cells #[.int .u8 kd, .int .u8 g.ver, .int .u32 g.ep, .int .u32 g.id, .int .u16 g.ix, .int .u16 g.cnt, .slice A g.body.length cp] 38)) from below_alloc (Below.refl _ _) _)
  go_enter Try.func29, Try.ntmps29
  go_wp2
  go_quiet (fail)
  go_wp2
  go_ret
  exact ⟨rfl, pw_below_drewN HB0.out _⟩
/-- Why a part is not taken. -/
def whyNot (L : Room.Lim) (o : Option Room.OA) (g : Room.GA) : Int :=
  if g.cnt ≤ g.ix then 1 else
    match o with
    | some o => if o.cnt ≠ g.cnt ∨ o.ver ≠ g.ver then 3 else if Room.size o.ps > L.by_ - g.body.length then 10 else 0
    | none => if 0 > L.by_ - (g.body.length : Int) then 10 else 0
set_option maxHeartbeats 2000000 in
set_option maxRecDepth 100000 in
theorem refused_none {own : Nat → Prop} {t : Nat} {L : Room.Lim} {os : List OB} {W : World} (h : TS own t L os W) (hs : Sm L os) (kd : Int) (g : Room.GA) (hg : Gm g) (A : Option Addr) (cp : Nat) :
    Calls Try.prog 30 #[.pointer (some ⟨t, 0, none⟩), .int .i64 (-1), .agg #[.int .u8 kd, .int .u8 g.ver, .int .u32 g.ep, .int .u32 g.id, .int .u16 g.ix, .int .u16 g.cnt, .slice A g.body.length cp]] W
      fun e' w' => e' = .returned (.int .i64 (whyNot L none g)) ∧ Below W.heap.size W w' := by
  have hb0 : Below W.heap.size W (W.alloc (.cells #[.int .u8 kd, .int .u8 g.ver, .int .u32 g.ep, .int .u32 g.id, .int .u16 g.ix, .int .u16 g.cnt, .slice A g.body.length cp] 38)) := below_alloc (Below.refl _ _) _
  have HB0 := Aside0.mk hb0
  have h1 := h.below hb0
  obtain ⟨B, c, g0, g1, g2, g3, g4, hl, hC⟩ := h1.reads
  have hsub : wrap64 (L.by_ - (g.body.length : Int)) = L.by_ - g.body.length := by
    have h1 := hs.2.2.1
    have h2 := hg.2.2.2.2
    unfold wrap64; omega
  obtain ⟨d, hd⟩ : ∃ d, L.by_ - (g.body.length : Int) = d := ⟨_, rfl⟩
  replace hsub := hsub.trans hd
  have HD := Aside0.mk hd
  clear h h1 hC hs hg hb0 hd
  by_cases hge : g.cnt ≤ g.ix
  · have hge1 : g.ix ≥ g.cnt := hge
    go_enter Try.func30, Try.ntmps30
    go_wp2
    go_ret
    refine ⟨?_, HB0.out⟩
    unfold whyNot
    rw [if_pos hge]
    rfl
  · have hge1 : ¬ (g.ix ≥ g.cnt) := hge
    by_cases hz : 0 > d
    · go_enter Try.func30, Try.ntmps30
      go_wp2
      go_quiet (fail)
      go_wp2
      go_ret
      refine ⟨?_, pw_below_drewN HB0.out _⟩
      unfold whyNot
      rw [if_neg (show ¬ g.cnt ≤ g.ix by omega), HD.out]
      simp only [if_pos (show 0 > d by omega)]
      rfl
    · go_enter Try.func30, Try.ntmps30
      go_wp2
      go_quiet (fail)
      go_wp2
      go_ret
      refine ⟨?_, pw_below_drewN HB0.out _⟩
      unfold whyNot
      rw [if_neg (show ¬ g.cnt ≤ g.ix by omega), HD.out]
      simp only [if_neg (show ¬ 0 > d by omega)]
      rfl
set_option maxHeartbeats 4000000 in
set_option maxRecDepth 100000 in
theorem refused_some {own : Nat → Prop} {t : Nat} {L : Room.Lim} {os : List OB} {W : World} (h : TS own t L os W) (hs : Sm L os) (k : Nat) (hk : k < os.length) (kd : Int) (g : Room.GA) (hg : Gm g) (A : Option Addr) (cp : Nat) :
    Calls Try.prog 30 #[.pointer (some ⟨t, 0, none⟩), .int .i64 k, .agg #[.int .u8 kd, .int .u8 g.ver, .int .u32 g.ep, .int .u32 g.id, .int .u16 g.ix, .int .u16 g.cnt, .slice A g.body.length cp]] W
      fun e' w' => e' = .returned (.int .i64 (whyNot L (some os[k].a) g)) ∧ Below W.heap.size W w' := by
  have hb0 : Below W.heap.size W (W.alloc (.cells #[.int .u8 kd, .int .u8 g.ver, .int .u32 g.ep, .int .u32 g.id, .int .u16 g.ix, .int .u16 g.cnt, .slice A g.body.length cp] 38)) := below_alloc (Below.refl _ _) _
  have HB0 := Aside0.mk hb0
  have h1 := h.below hb0
  obtain ⟨B, c, g0, g1, g2, g3, g4, hl, hC⟩ := h1.reads
  obtain ⟨ad, e1, hx0, hx1, hx2, hx3, hx4, hx5, hx6⟩ := at7 hC (k : Int) (by omega) (by omega)
  cases e1
  simp only [Int.toNat_natCast] at hx0 hx1 hx2 hx3 hx4 hx5 hx6
  rw [rd7_eq hk] at hx0 hx1 hx2 hx3 hx4 hx5 hx6
  have hmem : os[k] ∈ os := List.getElem_mem _
  have hsub : wrap64 (L.by_ - (g.body.length : Int)) = L.by_ - g.body.length := by
    have h1 := hs.2.2.1
    have h2 := hg.2.2.2.2
    unfold wrap64; omega
  obtain ⟨y, hy⟩ : ∃ y, os[k] = y := ⟨_, rfl⟩
  rw [hy] at hx0 hx1 hx2 hx3 hx4 hx5 hx6 hmem
  rw [hy]
  obtain ⟨d, hd⟩ : ∃ d, L.by_ - (g.body.length : Int) = d := ⟨_, rfl⟩
  replace hsub := hsub.trans hd
  have HD := Aside0.mk hd
  have HT := Aside0.mk h1
  have HM := Aside0.mk hmem
  have p0 : (0 ≤ (k : Int)) = True := eq_true (by omega)
  have p1 : ((k : Int) < (os.length : Int)) = True := eq_true (by omega)
  clear h h1 hC hs hg hb0 hd hy hmem
  by_cases hge : g.cnt ≤ g.ix
  · have hge1 : g.ix ≥ g.cnt := hge
    go_enter Try.func30, Try.ntmps30
    go_wp2
    go_ret
    refine ⟨?_, HB0.out⟩
    unfold whyNot
    rw [if_pos hge]
    rfl
  · have hge1 : ¬ (g.ix ≥ g.cnt) := hge
    have HGE := Aside0.mk hge
    by_cases hc : y.a.cnt = g.cnt
    · have hc1 : (y.a.cnt == g.cnt) = true := by simpa using hc
      have hc2 : (y.a.cnt != g.cnt) = false := by simpa using hc
      by_cases hv : y.a.ver = g.ver
      · have hv1 : (y.a.ver == g.ver) = true := by simpa using hv
        have hv2 : (y.a.ver != g.ver) = false := by simpa using hv
        have HV := Aside0.mk (And.intro hc hv)
        clear hc hv
        by_cases hz : Room.size y.a.ps > d
        · go_enter Try.func30, Try.ntmps30
          go_wp2_with fail
          refine (size_ok ((HT.out.below (below_alloc (Below.refl _ _) _)).obj y HM.out)).mono ?_
          rintro e' w1 ⟨rfl, hb1⟩
          have hb2 := below_then (below_alloc (Below.refl (W.alloc (.cells #[.int .u8 kd, .int .u8 g.ver, .int .u32 g.ep, .int .u32 g.id, .int .u16 g.ix, .int .u16 g.cnt, .slice A g.body.length cp] 38)).heap.size _) _) (by simp) hb1
          have HB2 := Aside0.mk (below_then HB0.out (by simp) hb2)
          obtain ⟨B', c', j0, j1, j2, j3, j4, _⟩ := (HT.out.below hb2).reads
          have hbx := (hb2.block W.heap.size (by simp)).trans (heap_alloc_new W _)
          have hq6 : w1.cell? ⟨W.heap.size, 6, none⟩ = some (.slice A g.body.length cp) := (blk_cell hbx 6).trans rfl
          clear hb1 hb2 g0 g1 g2 g3 g4 hx0 hx1 hx2 hx3 hx4 hx5 hx6 hbx
          go_wp2
          go_quiet (fail)
          go_wp2
          go_ret
          refine ⟨?_, pw_below_drewN HB2.out _⟩
          unfold whyNot
          rw [if_neg (show ¬ g.cnt ≤ g.ix by have := HGE.out; omega), HD.out]
          simp only [HV.out.1, HV.out.2, ne_eq, not_true_eq_false, or_self, if_false]
          rw [if_pos (show Room.size y.a.ps > d by omega)]
          rfl
        · go_enter Try.func30, Try.ntmps30
          go_wp2_with fail
          refine (size_ok ((HT.out.below (below_alloc (Below.refl _ _) _)).obj y HM.out)).mono ?_
          rintro e' w1 ⟨rfl, hb1⟩
          have hb2 := below_then (below_alloc (Below.refl (W.alloc (.cells #[.int .u8 kd, .int .u8 g.ver, .int .u32 g.ep, .int .u32 g.id, .int .u16 g.ix, .int .u16 g.cnt, .slice A g.body.length cp] 38)).heap.size _) _) (by simp) hb1
          have HB2 := Aside0.mk (below_then HB0.out (by simp) hb2)
          obtain ⟨B', c', j0, j1, j2, j3, j4, _⟩ := (HT.out.below hb2).reads
          have hbx := (hb2.block W.heap.size (by simp)).trans (heap_alloc_new W _)
          have hq6 : w1.cell? ⟨W.heap.size, 6, none⟩ = some (.slice A g.body.length cp) := (blk_cell hbx 6).trans rfl
          clear hb1 hb2 g0 g1 g2 g3 g4 hx0 hx1 hx2 hx3 hx4 hx5 hx6 hbx
          go_wp2
          go_quiet (fail)
          go_wp2
          go_ret
          refine ⟨?_, pw_below_drewN HB2.out _⟩
          unfold whyNot
          rw [if_neg (show ¬ g.cnt ≤ g.ix by have := HGE.out; omega), HD.out]
          simp only [HV.out.1, HV.out.2, ne_eq, not_true_eq_false, or_self, if_false]
          rw [if_neg (show ¬ Room.size y.a.ps > d by omega)]
          rfl
      · have hv1 : (y.a.ver == g.ver) = false := by simpa using hv
        have hv2 : (y.a.ver != g.ver) = true := by simpa using hv
        go_enter Try.func30, Try.ntmps30
        go_wp2
        go_ret
        refine ⟨?_, below_alloc HB0.out _⟩
        unfold whyNot
        rw [if_neg (show ¬ g.cnt ≤ g.ix by have := HGE.out; omega)]
        simp [hc, hv]
    · have hc1 : (y.a.cnt == g.cnt) = false := by simpa using hc
      have hc2 : (y.a.cnt != g.cnt) = true := by simpa using hc
      go_enter Try.func30, Try.ntmps30
      go_wp2
      go_ret
      refine ⟨?_, below_alloc HB0.out _⟩
      unfold whyNot
      rw [if_neg (show ¬ g.cnt ≤ g.ix by have := HGE.out; omega)]
      simp [hc]
end Go.Proofs.Ytaeelmkpjgmdlaa.H
