/- Mine. Chapters 22 and 23, by hand: the texts T, U, V, X, Q, Y, one behind the other. -/
import Derived.Test.YtaeelmkpjgmdlaaHKB
/- Mine. Chapter 22, by hand: Held, there, refused, fit, begin of the table. -/
namespace Go.Proofs.Ytaeelmkpjgmdlaa.H
open Go Go.Proofs Go.RowKit Go.Lib Go.Proofs.Ytaeelmkpjgmdlaa.P Go.Proofs.YtaeelmkpjgmdlaaW.PrintWords Go.Proofs.YtaeelmkpjgmdlaaW.PrintLast Go.Proofs.YtaeelmkpjgmdlaaW.PrintMore Go.Proofs.YtaeelmkpjgmdlaaW.PrintFlat
set_option linter.unusedVariables false
set_option linter.unusedSimpArgs false
def aOf (os : List OB) : List Room.OA := os.map OB.a
theorem aOf_len (os : List OB) : (aOf os).length = os.length := List.length_map _
theorem aOf_app (a b : List OB) : aOf (a ++ b) = aOf a ++ aOf b := List.map_append
theorem held_take {os : List OB} {k : Nat} (hk : k < os.length) : Room.held (aOf (os.take (k + 1))) = Room.held (aOf (os.take k)) + Room.size (rd7 os (k : Int)).a.ps := by
  rw [List.take_succ_eq_append_getElem hk, rd7_eq hk, aOf_app, Room.held_app]
  simp [Room.held, aOf]
theorem held_take_le (os : List OB) (k : Nat) : Room.held (aOf (os.take k)) ≤ Room.held (aOf os) := by
  have h : Room.held (aOf (os.take k ++ os.drop k)) = Room.held (aOf (os.take k)) + Room.held (aOf (os.drop k)) := by rw [aOf_app, Room.held_app]
  rw [List.take_append_drop] at h
  have := Room.held_nn (aOf (os.drop k))
  omega
set_option maxHeartbeats 2000000 in
set_option maxRecDepth 100000 in
theorem held_calls {own : Nat → Prop} {t : Nat} {L : Room.Lim} {os : List OB} {W : World} (h : TS own t L os W) (hh : Room.held (aOf os) ≤ 4611686018427387904) (hm : os.length ≤ 140737488355328) :
    Calls Try.prog 16 #[.pointer (some ⟨t, 0, none⟩)] W fun e' w' => e' = .returned (.int .i64 (Room.held (aOf os))) ∧ Below W.heap.size W w' := by
  obtain ⟨A, c, g0, g1, g2, g3, g4, hl, hC⟩ := h.reads
  have HH := Aside0.mk h
  have HHH := Aside0.mk hh
  have HC := Aside0.mk hC
  have HB0 := Aside0.mk (Below.refl W.heap.size W)
  clear h hC hh
  go_enter Try.func16, Try.ntmps16
  go_wp2
  go_loopg [3, 5, 13] os.length (fun gg s3 _ s13 wr => ∃ k : Nat, k ≤ os.length ∧ os.length - k ≤ gg ∧ s3 = .int .i64 (Room.held (aOf (os.take k))) ∧ s13 = .int .i64 k ∧ Aside0 (Below W.heap.size W wr))
  case atStart => exact ⟨0, Nat.zero_le _, by omega, rfl, rfl, HB0⟩
  case round =>
    obtain ⟨k, hk, hgg, rfl, rfl, HBk⟩ := hrel
    clear g0 g1 g2 g3 g4
    by_cases hlt : k < os.length
    · obtain ⟨ad, e1, hx0, hx1, hx2, hx3, hx4, hx5, hx6⟩ := at7 (Kd.C_below HC.out HBk.out) (k : Int) (by omega) (by omega)
      cases e1
      simp only [Int.toNat_natCast] at hx0 hx1 hx2 hx3 hx4 hx5 hx6
      have hobj : OPA (rd7 os k) (wr.alloc (.cells #[.int .u16 (rd7 os k).a.fr, .int .u32 (rd7 os k).a.ep, .int .u32 (rd7 os k).a.id, .int .u16 (rd7 os k).a.cnt, .int .u8 (rd7 os k).a.ver, .int .i64 (rd7 os k).a.age, .pointer (some ⟨(rd7 os k).p, 0, none⟩)] 69)) := by
        have hm : rd7 os k ∈ os := by rw [rd7_eq hlt]; exact List.getElem_mem _
        exact (HH.out.below (below_alloc HBk.out _)).obj _ hm
      have HSZ := Aside0.mk (size_ok hobj)
      have HKK := Aside0.mk (held_take hlt)
      obtain ⟨y, hy⟩ : ∃ y, rd7 os k = y := ⟨_, rfl⟩
      rw [hy] at hx0 hx1 hx2 hx3 hx4 hx5 hx6 HSZ HKK
      clear hobj hy
      have p0 : (0 ≤ (k : Int)) = True := eq_true (by omega)
      have p1 : ((k : Int) < (os.length : Int)) = True := eq_true (by omega)
      go_wp2_with fail
      refine HSZ.out.mono ?_
      rintro e' w1 ⟨rfl, hb1⟩
      have HB1 := Aside0.mk (below_then HBk.out HBk.out.size (below_then (below_alloc (Below.refl _ _) _) (by simp) hb1))
      clear hb1 hx0 hx1 hx2 hx3 hx4 hx5 hx6 HSZ
      go_wp2
      go_roundg (os.length - (k + 1))
      case measure => omega
      case rel =>
        refine ⟨k + 1, by omega, by omega, ?_, by go_num, HB1⟩
        have e1 := HKK.out
        have e2 := held_take_le os (k + 1)
        have e3 := Room.held_nn (aOf (os.take k))
        have e4 := HHH.out
        have e5 := Room.held_nn (aOf (os.take (k + 1)))
        have e6 : wrap64 (Room.held (aOf (os.take k)) + Room.size y.a.ps) = Room.held (aOf (os.take (k + 1))) := by rw [← e1]; unfold wrap64; omega
        rw [e6]
    · have hkk : k = os.length := by omega
      have p1 : ¬ ((k : Int) < (os.length : Int)) := by omega
      go_wp2
      go_ret
      refine ⟨?_, HBk.out⟩
      subst hkk
      first | rfl | (rw [List.take_length]; rfl)
#print axioms held_calls
/-- A datagram's value, and its cells. -/
abbrev cellsG (kd : Int) (g : Room.GA) (A : Option Addr) (cp : Nat) : List Value := [.int .u8 kd, .int .u8 g.ver, .int .u32 g.ep, .int .u32 g.id, .int .u16 g.ix, .int .u16 g.cnt, .slice A g.body.length cp]
def Sm (L : Room.Lim) (os : List OB) : Prop := os.length ≤ 1000 ∧ Room.held (aOf os) ≤ 4611686018427387904 ∧ (0 ≤ L.by_ ∧ L.by_ ≤ 65536) ∧ ∀ o ∈ os, 1 ≤ o.a.cnt ∧ o.a.cnt ≤ 65535
def Gm (g : Room.GA) : Prop := 0 ≤ g.ix ∧ g.ix ≤ 65535 ∧ 0 ≤ g.cnt ∧ g.cnt ≤ 65535 ∧ g.body.length ≤ 80000
theorem size_le_held {os : List OB} {o : OB} (h : o ∈ os) : Room.size o.a.ps ≤ Room.held (aOf os) := by
  obtain ⟨s, r, rfl⟩ := List.append_of_mem h
  rw [aOf_app, Room.held_app]
  have h1 := Room.held_nn (aOf s)
  have h2 : Room.held (aOf (o :: r)) = Room.size o.a.ps + Room.held (aOf r) := by simp [Room.held, aOf]
  have h3 := Room.held_nn (aOf r)
  omega
set_option maxHeartbeats 2000000 in
set_option maxRecDepth 100000 in
/-- there, where the message is open. -/
theorem there_calls {own : Nat → Prop} {t : Nat} {L : Room.Lim} {os : List OB} {W : World} (h : TS own t L os W) (hs : Sm L os) (k : Nat) (hk : k < os.length) (kd : Int) (g : Room.GA) (hg : Gm g) (A : Option Addr) (cp : Nat) :
    Calls Try.prog 29 #[.pointer (some ⟨t, 0, none⟩), .int .i64 k, .agg #[.int .u8 kd, .int .u8 g.ver, .int .u32 g.ep, .int .u32 g.id, .int .u16 g.ix, .int .u16 g.cnt, .slice A g.body.length cp]] W
      fun e' w' => e' = .returned (.bool (decide (os[k].a.cnt = g.cnt) && decide (os[k].a.ver = g.ver) && Room.has os[k].a.ps g.ix)) ∧ Below W.heap.size W w' := by
  have hb0 : Below W.heap.size W (W.alloc (.cells #[.int .u8 kd, .int .u8 g.ver, .int .u32 g.ep, .int .u32 g.id, .int .u16 g.ix, .int .u16 g.cnt, .slice A g.body.length cp] 38)) := below_alloc (Below.refl _ _) _
  have HB0 := Aside0.mk hb0
  have h1 := h.below hb0
  obtain ⟨B, c, g0, g1, g2, g3, g4, hl, hC⟩ := h1.reads
  obtain ⟨ad, e1, hx0, hx1, hx2, hx3, hx4, hx5, hx6⟩ := at7 hC (k : Int) (by omega) (by omega)
  cases e1
  simp only [Int.toNat_natCast] at hx0 hx1 hx2 hx3 hx4 hx5 hx6
  rw [rd7_eq hk] at hx0 hx1 hx2 hx3 hx4 hx5 hx6
  have hobj := h1.obj os[k] (List.getElem_mem _)
  have hhas := fun (V : World) (hV : Below (W.alloc (.cells #[.int .u8 kd, .int .u8 g.ver, .int .u32 g.ep, .int .u32 g.id, .int .u16 g.ix, .int .u16 g.cnt, .slice A g.body.length cp] 38)).heap.size (W.alloc (.cells #[.int .u8 kd, .int .u8 g.ver, .int .u32 g.ep, .int .u32 g.id, .int .u16 g.ix, .int .u16 g.cnt, .slice A g.body.length cp] 38)) V) =>
    has_same (PA.frame hobj (Fr.of_below hV) (S := fun _ => False) (fun _ _ h => h)) g.ix (by obtain ⟨h1, h2, _⟩ := hg; simp [Lit.wf, IntKind.min, IntKind.max, IntKind.bits, IntKind.signed]; omega)
  obtain ⟨y, hy⟩ : ∃ y, os[k] = y := ⟨_, rfl⟩
  rw [hy] at hx0 hx1 hx2 hx3 hx4 hx5 hx6 hhas
  rw [hy]
  have HHAS := Aside0.mk hhas
  have p0 : (0 ≤ (k : Int)) = True := eq_true (by omega)
  have p1 : ((k : Int) < (os.length : Int)) = True := eq_true (by omega)
  have hge : decide ((k : Int) ≥ 0) = true := by simp
  have hwx : wrap64 g.ix = g.ix := by obtain ⟨h1, h2, _⟩ := hg; unfold wrap64; omega
  clear hobj hhas hy h h1 hC hs hg hb0
  by_cases hc : y.a.cnt = g.cnt
  · have hc1 : (y.a.cnt == g.cnt) = true := by simpa using hc
    by_cases hv : y.a.ver = g.ver
    · have hv1 : (y.a.ver == g.ver) = true := by simpa using hv
      go_enter Try.func29, Try.ntmps29
      go_wp2
      go_quiet ((go_at_call 58; exact Calls.quiet_of_same (HHAS.out _ (pw_below_drewN (Below.refl _ _) _))))
      go_wp2
      go_ret
      refine ⟨?_, pw_below_drewN HB0.out _⟩
      simp [hc, hv]
    · have hv1 : (y.a.ver == g.ver) = false := by simpa using hv
      go_enter Try.func29, Try.ntmps29
      go_wp2
      go_quiet (fail)
      go_wp2
      go_ret
      refine ⟨?_, pw_below_drewN HB0.out _⟩
      simp [hc, hv]
  · have hc1 : (y.a.cnt == g.cnt) = false := by simpa using hc
    go_enter Try.func29, Try.ntmps29
    go_wp2
    go_quiet (fail)
    go_wp2
    go_ret
    refine ⟨?_, pw_below_drewN HB0.out _⟩
    simp [hc]
set_option maxHeartbeats 2000000 in
set_option maxRecDepth 100000 in
theorem there_none (t : Nat) (W : World) (kd : Int) (g : Room.GA) (A : Option Addr) (cp : Nat) :
    Calls Try.prog 29 #[.pointer (some ⟨t, 0, none⟩), .int .i64 (-1), .agg #[.int .u8 kd, .int .u8 g.ver, .int .u32 g.ep, .int .u32 g.id, .int .u16 g.ix, .int .u16 g.cnt, .slice A g.body.length cp]] W
      fun e' w' => e' = .returned (.bool false) ∧ Below W.heap.size W w' := by
  have HB0 := Aside0.mk (show Below W.heap.size W (W.alloc (.cells #[.int .u8 kd, .int .u8 g.ver, .int .u32 g.ep, .int .u32 g.id, .int .u16 g.ix, .int .u16 g.cnt, .slice A g.body.length cp] 38)) from below_alloc (Below.refl _ _) _)
  go_enter Try.func29, Try.ntmps29
  go_wp2
  go_quiet (fail)
  go_wp2
  go_ret
  exact ⟨rfl, pw_below_drewN HB0.out _⟩
/-- Why a part is not taken. -/
def whyNot (L : Room.Lim) (o : Option Room.OA) (g : Room.GA) : Int :=
  if g.cnt ≤ g.ix then 1 else
    match o with
    | some o => if o.cnt ≠ g.cnt ∨ o.ver ≠ g.ver then 3 else if Room.size o.ps > L.by_ - g.body.length then 10 else 0
    | none => if 0 > L.by_ - (g.body.length : Int) then 10 else 0
set_option maxHeartbeats 2000000 in
set_option maxRecDepth 100000 in
theorem refused_none {own : Nat → Prop} {t : Nat} {L : Room.Lim} {os : List OB} {W : World} (h : TS own t L os W) (hs : Sm L os) (kd : Int) (g : Room.GA) (hg : Gm g) (A : Option Addr) (cp : Nat) :
    Calls Try.prog 30 #[.pointer (some ⟨t, 0, none⟩), .int .i64 (-1), .agg #[.int .u8 kd, .int .u8 g.ver, .int .u32 g.ep, .int .u32 g.id, .int .u16 g.ix, .int .u16 g.cnt, .slice A g.body.length cp]] W
      fun e' w' => e' = .returned (.int .i64 (whyNot L none g)) ∧ Below W.heap.size W w' := by
  have hb0 : Below W.heap.size W (W.alloc (.cells #[.int .u8 kd, .int .u8 g.ver, .int .u32 g.ep, .int .u32 g.id, .int .u16 g.ix, .int .u16 g.cnt, .slice A g.body.length cp] 38)) := below_alloc (Below.refl _ _) _
  have HB0 := Aside0.mk hb0
  have h1 := h.below hb0
  obtain ⟨B, c, g0, g1, g2, g3, g4, hl, hC⟩ := h1.reads
  have hsub : wrap64 (L.by_ - (g.body.length : Int)) = L.by_ - g.body.length := by
    have h1 := hs.2.2.1
    have h2 := hg.2.2.2.2
    unfold wrap64; omega
  obtain ⟨d, hd⟩ : ∃ d, L.by_ - (g.body.length : Int) = d := ⟨_, rfl⟩
  replace hsub := hsub.trans hd
  have HD := Aside0.mk hd
  clear h h1 hC hs hg hb0 hd
  by_cases hge : g.cnt ≤ g.ix
  · have hge1 : g.ix ≥ g.cnt := hge
    go_enter Try.func30, Try.ntmps30
    go_wp2
    go_ret
    refine ⟨?_, HB0.out⟩
    unfold whyNot
    rw [if_pos hge]
    rfl
  · have hge1 : ¬ (g.ix ≥ g.cnt) := hge
    by_cases hz : 0 > d
    · go_enter Try.func30, Try.ntmps30
      go_wp2
      go_quiet (fail)
      go_wp2
      go_ret
      refine ⟨?_, pw_below_drewN HB0.out _⟩
      unfold whyNot
      rw [if_neg (show ¬ g.cnt ≤ g.ix by omega), HD.out]
      simp only [if_pos (show 0 > d by omega)]
      rfl
    · go_enter Try.func30, Try.ntmps30
      go_wp2
      go_quiet (fail)
      go_wp2
      go_ret
      refine ⟨?_, pw_below_drewN HB0.out _⟩
      unfold whyNot
      rw [if_neg (show ¬ g.cnt ≤ g.ix by omega), HD.out]
      simp only [if_neg (show ¬ 0 > d by omega)]
      rfl
set_option maxHeartbeats 4000000 in
set_option maxRecDepth 100000 in
theorem refused_some {own : Nat → Prop} {t : Nat} {L : Room.Lim} {os : List OB} {W : World} (h : TS own t L os W) (hs : Sm L os) (k : Nat) (hk : k < os.length) (kd : Int) (g : Room.GA) (hg : Gm g) (A : Option Addr) (cp : Nat) :
    Calls Try.prog 30 #[.pointer (some ⟨t, 0, none⟩), .int .i64 k, .agg #[.int .u8 kd, .int .u8 g.ver, .int .u32 g.ep, .int .u32 g.id, .int .u16 g.ix, .int .u16 g.cnt, .slice A g.body.length cp]] W
      fun e' w' => e' = .returned (.int .i64 (whyNot L (some os[k].a) g)) ∧ Below W.heap.size W w' := by
  have hb0 : Below W.heap.size W (W.alloc (.cells #[.int .u8 kd, .int .u8 g.ver, .int .u32 g.ep, .int .u32 g.id, .int .u16 g.ix, .int .u16 g.cnt, .slice A g.body.length cp] 38)) := below_alloc (Below.refl _ _) _
  have HB0 := Aside0.mk hb0
  have h1 := h.below hb0
  obtain ⟨B, c, g0, g1, g2, g3, g4, hl, hC⟩ := h1.reads
  obtain ⟨ad, e1, hx0, hx1, hx2, hx3, hx4, hx5, hx6⟩ := at7 hC (k : Int) (by omega) (by omega)
  cases e1
  simp only [Int.toNat_natCast] at hx0 hx1 hx2 hx3 hx4 hx5 hx6
  rw [rd7_eq hk] at hx0 hx1 hx2 hx3 hx4 hx5 hx6
  have hmem : os[k] ∈ os := List.getElem_mem _
  have hsub : wrap64 (L.by_ - (g.body.length : Int)) = L.by_ - g.body.length := by
    have h1 := hs.2.2.1
    have h2 := hg.2.2.2.2
    unfold wrap64; omega
  obtain ⟨y, hy⟩ : ∃ y, os[k] = y := ⟨_, rfl⟩
  rw [hy] at hx0 hx1 hx2 hx3 hx4 hx5 hx6 hmem
  rw [hy]
  obtain ⟨d, hd⟩ : ∃ d, L.by_ - (g.body.length : Int) = d := ⟨_, rfl⟩
  replace hsub := hsub.trans hd
  have HD := Aside0.mk hd
  have HT := Aside0.mk h1
  have HM := Aside0.mk hmem
  have p0 : (0 ≤ (k : Int)) = True := eq_true (by omega)
  have p1 : ((k : Int) < (os.length : Int)) = True := eq_true (by omega)
  clear h h1 hC hs hg hb0 hd hy hmem
  by_cases hge : g.cnt ≤ g.ix
  · have hge1 : g.ix ≥ g.cnt := hge
    go_enter Try.func30, Try.ntmps30
    go_wp2
    go_ret
    refine ⟨?_, HB0.out⟩
    unfold whyNot
    rw [if_pos hge]
    rfl
  · have hge1 : ¬ (g.ix ≥ g.cnt) := hge
    have HGE := Aside0.mk hge
    by_cases hc : y.a.cnt = g.cnt
    · have hc1 : (y.a.cnt == g.cnt) = true := by simpa using hc
      have hc2 : (y.a.cnt != g.cnt) = false := by simpa using hc
      by_cases hv : y.a.ver = g.ver
      · have hv1 : (y.a.ver == g.ver) = true := by simpa using hv
        have hv2 : (y.a.ver != g.ver) = false := by simpa using hv
        have HV := Aside0.mk (And.intro hc hv)
        clear hc hv
        by_cases hz : Room.size y.a.ps > d
        · go_enter Try.func30, Try.ntmps30
          go_wp2_with fail
          refine (size_ok ((HT.out.below (below_alloc (Below.refl _ _) _)).obj y HM.out)).mono ?_
          rintro e' w1 ⟨rfl, hb1⟩
          have hb2 := below_then (below_alloc (Below.refl (W.alloc (.cells #[.int .u8 kd, .int .u8 g.ver, .int .u32 g.ep, .int .u32 g.id, .int .u16 g.ix, .int .u16 g.cnt, .slice A g.body.length cp] 38)).heap.size _) _) (by simp) hb1
          have HB2 := Aside0.mk (below_then HB0.out (by simp) hb2)
          obtain ⟨B', c', j0, j1, j2, j3, j4, _⟩ := (HT.out.below hb2).reads
          have hbx := (hb2.block W.heap.size (by simp)).trans (heap_alloc_new W _)
          have hq6 : w1.cell? ⟨W.heap.size, 6, none⟩ = some (.slice A g.body.length cp) := (blk_cell hbx 6).trans rfl
          clear hb1 hb2 g0 g1 g2 g3 g4 hx0 hx1 hx2 hx3 hx4 hx5 hx6 hbx
          go_wp2
          go_quiet (fail)
          go_wp2
          go_ret
          refine ⟨?_, pw_below_drewN HB2.out _⟩
          unfold whyNot
          rw [if_neg (show ¬ g.cnt ≤ g.ix by have := HGE.out; omega), HD.out]
          simp only [HV.out.1, HV.out.2, ne_eq, not_true_eq_false, or_self, if_false]
          rw [if_pos (show Room.size y.a.ps > d by omega)]
          rfl
        · go_enter Try.func30, Try.ntmps30
          go_wp2_with fail
          refine (size_ok ((HT.out.below (below_alloc (Below.refl _ _) _)).obj y HM.out)).mono ?_
          rintro e' w1 ⟨rfl, hb1⟩
          have hb2 := below_then (below_alloc (Below.refl (W.alloc (.cells #[.int .u8 kd, .int .u8 g.ver, .int .u32 g.ep, .int .u32 g.id, .int .u16 g.ix, .int .u16 g.cnt, .slice A g.body.length cp] 38)).heap.size _) _) (by simp) hb1
          have HB2 := Aside0.mk (below_then HB0.out (by simp) hb2)
          obtain ⟨B', c', j0, j1, j2, j3, j4, _⟩ := (HT.out.below hb2).reads
          have hbx := (hb2.block W.heap.size (by simp)).trans (heap_alloc_new W _)
          have hq6 : w1.cell? ⟨W.heap.size, 6, none⟩ = some (.slice A g.body.length cp) := (blk_cell hbx 6).trans rfl
          clear hb1 hb2 g0 g1 g2 g3 g4 hx0 hx1 hx2 hx3 hx4 hx5 hx6 hbx
          go_wp2
          go_quiet (fail)
          go_wp2
          go_ret
          refine ⟨?_, pw_below_drewN HB2.out _⟩
          unfold whyNot
          rw [if_neg (show ¬ g.cnt ≤ g.ix by have := HGE.out; omega), HD.out]
          simp only [HV.out.1, HV.out.2, ne_eq, not_true_eq_false, or_self, if_false]
          rw [if_neg (show ¬ Room.size y.a.ps > d by omega)]
          rfl
      · have hv1 : (y.a.ver == g.ver) = false := by simpa using hv
        have hv2 : (y.a.ver != g.ver) = true := by simpa using hv
        go_enter Try.func30, Try.ntmps30
        go_wp2
        go_ret
        refine ⟨?_, below_alloc HB0.out _⟩
        unfold whyNot
        rw [if_neg (show ¬ g.cnt ≤ g.ix by have := HGE.out; omega)]
        simp [hc, hv]
    · have hc1 : (y.a.cnt == g.cnt) = false := by simpa using hc
      have hc2 : (y.a.cnt != g.cnt) = true := by simpa using hc
      go_enter Try.func30, Try.ntmps30
      go_wp2
      go_ret
      refine ⟨?_, below_alloc HB0.out _⟩
      unfold whyNot
      rw [if_neg (show ¬ g.cnt ≤ g.ix by have := HGE.out; omega)]
      simp [hc]
end Go.Proofs.Ytaeelmkpjgmdlaa.H

/- Mine. Chapter 22, by hand: begin and fit of the table. -/
namespace Go.Proofs.Ytaeelmkpjgmdlaa.H
open Go Go.Proofs Go.RowKit Go.Lib Go.Proofs.Ytaeelmkpjgmdlaa.P Go.Proofs.YtaeelmkpjgmdlaaW.PrintWords Go.Proofs.YtaeelmkpjgmdlaaW.PrintLast Go.Proofs.YtaeelmkpjgmdlaaW.PrintMore Go.Proofs.YtaeelmkpjgmdlaaW.PrintFlat
set_option linter.unusedVariables false
set_option linter.unusedSimpArgs false
/-- A message more, at the end; the oldest one gone if there is no room. -/
def begA (L : Room.Lim) (os : List Room.OA) (o : Room.OA) : List Room.OA := (if (os.length : Int) ≥ L.op then os.eraseIdx 0 else os) ++ [o]
structure BegS (t z : Nat) (v : Value) (f : Int) (g : Room.GA) (V : World) : Prop where
  s0 : V.cell? ⟨t, 4, none⟩ = some v
  s1 : V.cell? ⟨z, 0, none⟩ = some (.int .u16 f)
  s2 : V.cell? ⟨z, 1, none⟩ = some (.int .u32 g.ep)
  s3 : V.cell? ⟨z, 2, none⟩ = some (.int .u32 g.id)
  s4 : V.cell? ⟨z + 1, 5, none⟩ = some (.int .u16 g.cnt)
  s5 : V.cell? ⟨z + 1, 1, none⟩ = some (.int .u8 g.ver)
theorem BegS.below {t z : Nat} {v : Value} {f : Int} {g : Room.GA} {V V' : World} (h : BegS t z v f g V) (hb : Below V.heap.size V V') : BegS t z v f g V' :=
  ⟨pw_cell_below hb h.s0, pw_cell_below hb h.s1, pw_cell_below hb h.s2, pw_cell_below hb h.s3, pw_cell_below hb h.s4, pw_cell_below hb h.s5⟩
def BegP (own : Nat → Prop) (t : Nat) (L : Room.Lim) (os : List OB) (o : Room.OA) (W : World) (e' : Ending) (w' : World) : Prop :=
  ∃ os', TS (fun k => own k ∨ W.heap.size ≤ k ∧ k < w'.heap.size) t L os' w' ∧ aOf os' = begA L (aOf os) o ∧ 1 ≤ os'.length ∧ e' = .returned (.int .i64 ((os'.length : Int) - 1)) ∧ Fr own W w'
theorem alloc2 {w W : World} {a b : Obj} (h : (w.alloc a).alloc b = W) : Below w.heap.size w W ∧ W.heap.size = w.heap.size + 1 + 1 ∧ W.heap[w.heap.size]? = some a ∧ W.heap[w.heap.size + 1]? = some b := by
  subst h
  have s1 : (w.alloc a).heap.size = w.heap.size + 1 := by show (w.heap.push a).size = _; simp
  have s2 : ((w.alloc a).alloc b).heap.size = (w.alloc a).heap.size + 1 := by show ((w.alloc a).heap.push b).size = _; simp
  have n2 := heap_alloc_new (w.alloc a) b
  rw [s1] at n2
  refine ⟨(below_alloc (Below.refl _ _) a).alloc (by omega) b, by omega, ?_, n2⟩
  rw [heap_alloc_old _ b (by omega)]; exact heap_alloc_new w a
theorem aOf_eraseIdx : ∀ (os : List OB) (k : Nat), aOf (os.eraseIdx k) = (aOf os).eraseIdx k
  | [], _ => rfl
  | x :: r, 0 => rfl
  | x :: r, k + 1 => by
    show x.a :: aOf (r.eraseIdx k) = x.a :: (aOf r).eraseIdx k
    rw [aOf_eraseIdx r k]
theorem begin_end {own oB oL : Nat → Prop} {t p : Nat} {L : Room.Lim} {os os1 : List OB} {W w1 w2 X w3 w4 : World} {v v1 : Value} {o : Room.OA} {n : Int}
    (hT1 : TS own t L os1 w1) (hF1 : Fr own W w1) (hB2 : Below w1.heap.size w1 w2) (hSX : X.heap.size = w2.heap.size) (hBX : Below w2.heap.size w2 X)
    (hPA : PA (fun k => w1.heap.size ≤ k ∧ k < w2.heap.size) p o.cnt o.ps w2) (hT2 : TS own t L os1 w2) (hBG : Bag OPA 69 oB v os1 X) (hL : ∀ k, oL k → oB k ∧ ∀ o ∈ os1, ¬ o.own k) (hO : ∀ k, oB k → own k ∧ k ≠ t)
    (hR : k7.R 69 X 0 oL v os1) (hO3 : k7.R 69 w3 0 (fun k => oL k ∨ X.heap.size ≤ k) v1 (os1 ++ [⟨o, p, fun k => w1.heap.size ≤ k ∧ k < w2.heap.size⟩])) (hG3 : X.grownBy w3 v.ownBlock)
    (hw4 : w4 = w3.setCell ⟨t, 4, none⟩ v1) (hbl : w4.heap[t]? = some (.cells #[.bool true, .int .i64 L.op, .int .i64 L.by_, .int .i64 L.ex, v1] 64 (0, 0))) (hs4 : w4.heap.size = w3.heap.size)
    (hA : aOf (os1 ++ [⟨o, p, fun k => w1.heap.size ≤ k ∧ k < w2.heap.size⟩]) = begA L (aOf os) o) (hn : n = (os1.length : Int)) : BegP own t L os o W (.returned (.int .i64 n)) w4 := by
  subst hn
  have s1 := hF1.size
  have s2 := hB2.size
  have s3 := hG3.size
  have lt1 := hT1.lt
  have tlt := lt1 t hT1.ot
  have hvo : ∀ k, v.ownBlock = some k → oL k := fun k hk => hR.1 k hk
  have far : ∀ k, k < w2.heap.size → ¬ oL k → k ≠ t → w4.heap[k]? = w2.heap[k]? := fun k hk h1 h2 => by
    rw [hw4, Below.heap_setCell _ _ _ _ h2, hG3.block k (by omega) (fun e => h1 (hvo k e.symm)), hBX.block k hk]
  have hO3b := Kd.R_bound hO3
  have s4 := hBX.size
  have oL_own : ∀ k, oL k → own k ∧ k ≠ t := fun k hk => hO k (hL k hk).1
  have hF2 : Fr (fun k => oL k ∨ k = t) w2 w4 := ⟨by rw [hw4]; exact hG3.os.trans hBX.os, by rw [hw4]; exact hG3.tape.trans hBX.tape, by rw [hw4]; exact hG3.output.trans hBX.output, by omega, fun k hk hn => far k hk (fun e => hn (.inl e)) (fun e => hn (.inr e))⟩
  refine ⟨os1 ++ [⟨o, p, fun k => w1.heap.size ≤ k ∧ k < w2.heap.size⟩], ⟨.inl hT1.ot, ⟨v1, fun k => (own k ∨ W.heap.size ≤ k ∧ k < w4.heap.size) ∧ k ≠ t, hbl, ?_, fun k hk => hk⟩, fun k hk => ?_⟩, hA, by simp, by simp, ?_⟩
  · refine ⟨⟨fun k => (oL k ∨ X.heap.size ≤ k) ∧ k < w3.heap.size ∧ k ≠ t, ?_, fun k hk => ?_⟩, fun x hx => ?_, fun x hx k hk => ?_, ?_, fun k hk => ?_⟩
    · rw [hw4]
      refine Kd.R_far (p := ⟨t, 4, none⟩) (Kd.R_mono hO3b (fun k hk => ⟨hk.1, hk.2.2.1, fun e => ?_⟩)) (fun k hk => hk.2.2) v1
      rcases hk.1 with h | h
      · exact (oL_own k h).2 e
      · omega
    · obtain ⟨h1, h2, h3⟩ := hk
      refine ⟨⟨?_, h3⟩, fun x hx => ?_⟩
      · rcases h1 with h1 | h1
        · exact .inl (oL_own k h1).1
        · exact .inr ⟨by omega, by omega⟩
      · rcases List.mem_append.1 hx with hx | hx
        · rcases h1 with h1 | h1
          · exact (hL k h1).2 x hx
          · intro e
            have := hBG.lt k (hBG.sub x hx k e)
            omega
        · obtain rfl := List.mem_singleton.1 hx
          rintro ⟨e1, e2⟩
          rcases h1 with h1 | h1
          · have := lt1 k (oL_own k h1).1
            omega
          · omega
    · rcases List.mem_append.1 hx with hx | hx
      · exact OPA.fr x w2 w4 _ (hT2.obj x hx) hF2 (fun k hk e => by
          rcases e with e | e
          · exact (hL k e).2 x hx hk
          · exact (hO k (hBG.sub x hx k hk)).2 e)
      · obtain rfl := List.mem_singleton.1 hx
        exact PA.frame hPA hF2 (fun k hk e => by
          rcases e with e | e
          · have := lt1 k (oL_own k e).1
            omega
          · omega)
    · rcases List.mem_append.1 hx with hx | hx
      · exact ⟨.inl (hO k (hBG.sub x hx k hk)).1, (hO k (hBG.sub x hx k hk)).2⟩
      · obtain rfl := List.mem_singleton.1 hx
        obtain ⟨e1, e2⟩ := hk
        exact ⟨.inr ⟨by omega, by omega⟩, by omega⟩
    · rw [List.pairwise_append]
      refine ⟨hBG.apart, List.pairwise_singleton _ _, fun x hx y hy k hk => ?_⟩
      obtain rfl := List.mem_singleton.1 hy
      rintro ⟨e1, e2⟩
      have := lt1 k (hO k (hBG.sub x hx k hk)).1
      omega
    · rcases hk.1 with h | h
      · have := lt1 k h
        omega
      · exact h.2
  · rcases hk with h | h
    · have := lt1 k h
      omega
    · exact h.2
  · refine ⟨hF2.os.trans (hB2.os.trans hF1.os), hF2.tape.trans (hB2.tape.trans hF1.tape), hF2.output.trans (hB2.output.trans hF1.output), by omega, fun k hk hn => ?_⟩
    rw [far k (by omega) (fun e => hn (oL_own k e).1) (fun e => hn (by rw [e]; exact hT1.ot)), hB2.block k (by omega), hF1.block k hk hn]
set_option maxHeartbeats 4000000 in
set_option maxRecDepth 100000 in
theorem begin_calls {own : Nat → Prop} {t : Nat} {L : Room.Lim} {os : List OB} {W : World} (h : TS own t L os W) (hs : Sm L os) (f : Int) (kd : Int) (g : Room.GA) (hg : Gm g) (hc : 1 ≤ g.cnt) (A : Option Addr) (cp : Nat) (h1o : 1 ≤ L.op) :
    Calls Try.prog 32 #[.pointer (some ⟨t, 0, none⟩), .agg #[.int .u16 f, .int .u32 g.ep, .int .u32 g.id], .agg #[.int .u8 kd, .int .u8 g.ver, .int .u32 g.ep, .int .u32 g.id, .int .u16 g.ix, .int .u16 g.cnt, .slice A g.body.length cp]] W (BegP own t L os ⟨f, g.ep, g.id, g.cnt, g.ver, 0, []⟩ W) := by
  have HGM := Aside0.mk hg
  have HC1 := Aside0.mk hc
  obtain ⟨V, hV⟩ : ∃ V, ((W.alloc (.cells #[.int .u16 f, .int .u32 g.ep, .int .u32 g.id] 66)).alloc (.cells #[.int .u8 kd, .int .u8 g.ver, .int .u32 g.ep, .int .u32 g.id, .int .u16 g.ix, .int .u16 g.cnt, .slice A g.body.length cp] 38)) = V := ⟨_, rfl⟩
  obtain ⟨hbV, hsV, e4, e5⟩ := alloc2 hV
  have hTV := h.below hbV
  obtain ⟨B, c, g0, g1, g2, g3, g4, hl, hC⟩ := hTV.reads
  have HBV := Aside0.mk hbV
  have HTV := Aside0.mk hTV
  have HTL := Aside0.mk h.lt
  have HE4 := Aside0.mk e4
  have HE5 := Aside0.mk e5
  have HS := Aside0.mk hs
  have HO1 := Aside0.mk h1o
  clear h hbV hTV hC e4 e5 hg hc hsV hs h1o
  by_cases hf : L.op ≤ (os.length : Int)
  · have hf1 : decide ((os.length : Int) ≥ L.op) = true := decide_eq_true hf
    have HF := Aside0.mk hf
    go_enter Try.func32, Try.ntmps32
    go_wp2
    go_quiet (fail)
    obtain ⟨w0, hw0⟩ : ∃ w0, V.drewN nq = w0 := ⟨_, rfl⟩
    rw [hw0]
    have hbw0 : Below V.heap.size V w0 := by rw [← hw0]; exact pw_below_drewN (Below.refl _ _) _
    have HB0 := Aside0.mk hbw0
    have HPOS : Aside0 (0 < os.length) := ⟨by have h1 := HO1.out; omega⟩
    have hdr := drop_calls (HTV.out.below hbw0) 0 HPOS.out (by have := HS.out.1; omega)
    rw [show ((0 : Nat) : Int) = 0 from rfl] at hdr
    have HDR := Aside0.mk hdr
    clear hw0 hbw0 hdr g0 g1 g2 g3 g4 hf1 hf hV hl
    go_wp2_with fail
    refine HDR.out.mono ?_
    rintro e1 w1 ⟨rfl, hf1, hT1⟩
    have HT1 := Aside0.mk hT1
    have hlow : ∀ k, k < V.heap.size → ¬ own k → w1.heap[k]? = V.heap[k]? := fun k hk hn => (hf1.block k (Nat.lt_of_lt_of_le hk HB0.out.size) hn).trans (HB0.out.block k hk)
    have HF1 : Aside0 (Fr own W w1) := ⟨(Fr.of_below (below_then HBV.out HBV.out.size HB0.out)).then_ hf1 (fun q _ hq => hq)⟩
    have HX4 := Aside0.mk ((hlow _ (blk_lt HE4.out) (fun e => by have := HTL.out _ e; omega)).trans HE4.out)
    have HX5 := Aside0.mk ((hlow _ (blk_lt HE5.out) (fun e => by have := HTL.out _ e; omega)).trans HE5.out)
    obtain ⟨os1, hos1⟩ : ∃ os1, os.eraseIdx 0 = os1 := ⟨_, rfl⟩
    have HA1 : Aside0 (∀ x : OB, x.a = ⟨f, g.ep, g.id, g.cnt, g.ver, 0, []⟩ → aOf (os1 ++ [x]) = begA L (aOf os) ⟨f, g.ep, g.id, g.cnt, g.ver, 0, []⟩) := ⟨fun x hx => by
      unfold begA
      rw [aOf_app, aOf_len, if_pos (show (os.length : Int) ≥ L.op from HF.out), ← hos1, ← hx, aOf_eraseIdx]
      rfl⟩
    have HLN : Aside0 (os1.length ≤ 1000) := ⟨by rw [← hos1, List.length_eraseIdx_of_lt HPOS.out]; have := HS.out.1; omega⟩
    rw [hos1] at HT1
    clear hT1 hf1 hlow hos1
    have hwc : wrap64 g.cnt = g.cnt := by have := HGM.out; unfold Gm at this; unfold wrap64; omega
    have y0 : w1.cell? ⟨W.heap.size + 1, 5, none⟩ = some (.int .u16 g.cnt) := (blk_cell HX5.out 5).trans rfl
    go_wp2_with fail
    refine (pnew_ok g.cnt w1 HC1.out (by have := HGM.out; unfold Gm at this; omega)).mono ?_
    rintro e2 w2 ⟨p, rfl, hb2, hPA⟩
    have hT2 := HT1.out.below hb2
    obtain ⟨v, oB, hb, hbag, hown⟩ := hT2.st
    obtain ⟨X, hX⟩ : ∃ X, w2.drew = X := ⟨_, rfl⟩
    have hbX : Below w2.heap.size w2 X := by rw [← hX]; exact (Below.refl _ _).drew
    have hszX : X.heap.size = w2.heap.size := by rw [← hX]; rfl
    have hbagX := hbag.frame OPA.fr (Fr.of_below hbX (own := fun _ => False)) (fun _ _ h => h)
    obtain ⟨oL, hR, hL⟩ := hbagX.row
    have hbt := (hbX.block t (hT2.lt t hT2.ot)).trans hb
    have hx4 := (hb2.block _ (blk_lt HX4.out)).trans HX4.out
    have hx5 := (hb2.block _ (blk_lt HX5.out)).trans HX5.out
    have hy4 := (hbX.block _ (blk_lt hx4)).trans hx4
    have hy5 := (hbX.block _ (blk_lt hx5)).trans hx5
    have x0 : X.cell? ⟨t, 4, none⟩ = some v := (blk_cell hbt 4).trans rfl
    have x1 : X.cell? ⟨W.heap.size, 0, none⟩ = some (.int .u16 f) := (blk_cell hy4 0).trans rfl
    have x2 : X.cell? ⟨W.heap.size, 1, none⟩ = some (.int .u32 g.ep) := (blk_cell hy4 1).trans rfl
    have x3 : X.cell? ⟨W.heap.size, 2, none⟩ = some (.int .u32 g.id) := (blk_cell hy4 2).trans rfl
    have x4 : X.cell? ⟨W.heap.size + 1, 5, none⟩ = some (.int .u16 g.cnt) := (blk_cell hy5 5).trans rfl
    have x5 : X.cell? ⟨W.heap.size + 1, 1, none⟩ = some (.int .u8 g.ver) := (blk_cell hy5 1).trans rfl
    have HR := Aside0.mk hR
    have HBAG := Aside0.mk hbagX
    have HLL := Aside0.mk hL
    have HOWN := Aside0.mk hown
    have HT2 := Aside0.mk hT2
    have HBT := Aside0.mk hbt
    have HSX := Aside0.mk hszX
    have HPA := Aside0.mk hPA
    have HB2 := Aside0.mk hb2
    have HBX := Aside0.mk hbX
    have HLT : Aside0 (t < X.heap.size) := ⟨blk_lt hbt⟩
    have HNT : Aside0 (v.ownBlock ≠ some t) := ⟨fun e => (hown t (hL t (hR.1 t e)).1).2 rfl⟩
    clear hR hbagX hL hown hT2 hbt hszX hPA hb2 hbX hx4 hx5 hy4 hy5 hb hbag y0
    have hs0 : BegS t W.heap.size v f g w2.drew := by rw [hX]; exact ⟨x0, x1, x2, x3, x4, x5⟩
    go_wp2_with fail
    refine start_ (n := 17) (S := BegS t W.heap.size v f g) (ds := [13, 16]) #[false, false, false, false, false, false, false, false, false, false, false, false, false, false, false, false, false] (by kernel_rfl) rfl rfl hs0 (fun hH => ?_)
    clear hs0
    rw [hX] at hH ⊢
    clear hX
    refine pure_ (i := 0) (N := some 29) (v := ?_) (a' := ?_) #[true, false, false, false, false, false, false, false, false, false, false, false, false, false, false, false, false] rfl rfl (by kernel_rfl) (fun _ _ _ h => h) (Or.inl ⟨by rfl, ?_⟩) ?_ ?_
    rotate_left
    · intro w'
      go_simp
      with_reducible rfl
    rotate_left
    · simp only [Act.put, List.setIfInBounds_toArray, List.set_cons_zero, List.set_cons_succ, i64_w, i32_w]
      rfl
    refine pure_ (i := 1) (N := some 30) (v := ?_) (a' := ?_) #[true, true, false, false, false, false, false, false, false, false, false, false, false, false, false, false, false] rfl rfl (by kernel_rfl) (fun _ _ _ h => h) (Or.inl ⟨by rfl, ?_⟩) ?_ ?_
    rotate_left
    · intro w'
      go_simp
      with_reducible rfl
    rotate_left
    · simp only [Act.put, List.setIfInBounds_toArray, List.set_cons_zero, List.set_cons_succ, i64_w, i32_w]
      rfl
    refine pure_ (i := 2) (N := some 31) (v := ?_) (a' := ?_) #[true, true, true, false, false, false, false, false, false, false, false, false, false, false, false, false, false] rfl rfl (by kernel_rfl) (fun _ _ _ h => h) (Or.inl ⟨by rfl, ?_⟩) ?_ ?_
    rotate_left
    · intro w'
      go_simp
      with_reducible rfl
    rotate_left
    · simp only [Act.put, List.setIfInBounds_toArray, List.set_cons_zero, List.set_cons_succ, i64_w, i32_w]
      rfl
    refine pure_ (i := 3) (N := some 32) (v := ?_) (a' := ?_) #[true, true, true, true, false, false, false, false, false, false, false, false, false, false, false, false, false] rfl rfl (by kernel_rfl) (fun _ _ _ h => h) (Or.inl ⟨by rfl, ?_⟩) ?_ ?_
    rotate_left
    · intro w'
      go_simp
      with_reducible rfl
    rotate_left
    · simp only [Act.put, List.setIfInBounds_toArray, List.set_cons_zero, List.set_cons_succ, i64_w, i32_w]
      rfl
    refine take_ (i := 4) (N := some 33) (v := ?_) (a' := ?_) #[true, true, true, true, true, false, false, false, false, false, false, false, false, false, false, false, false] rfl rfl (by kernel_rfl) (fun _ _ _ h => h) (Or.inl ⟨by rfl, ?_⟩) hH ?_ ?_
    rotate_left
    · rintro w' ⟨s0, s1, s2, s3, s4, s5⟩
      go_simp
      with_reducible rfl
    rotate_left
    · simp only [Act.put, List.setIfInBounds_toArray, List.set_cons_zero, List.set_cons_succ, i64_w, i32_w]
      rfl
    refine take_ (i := 5) (N := some 34) (v := ?_) (a' := ?_) #[true, true, true, true, true, true, false, false, false, false, false, false, false, false, false, false, false] rfl rfl (by kernel_rfl) (fun _ _ _ h => h) (Or.inl ⟨by rfl, ?_⟩) hH ?_ ?_
    rotate_left
    · rintro w' ⟨s0, s1, s2, s3, s4, s5⟩
      go_simp
      with_reducible rfl
    rotate_left
    · simp only [Act.put, List.setIfInBounds_toArray, List.set_cons_zero, List.set_cons_succ, i64_w, i32_w]
      rfl
    refine pure_ (i := 6) (N := some 35) (v := ?_) (a' := ?_) #[true, true, true, true, true, true, true, false, false, false, false, false, false, false, false, false, false] rfl rfl (by kernel_rfl) (fun _ _ _ h => h) (Or.inl ⟨by rfl, ?_⟩) ?_ ?_
    rotate_left
    · intro w'
      go_simp
      with_reducible rfl
    rotate_left
    · simp only [Act.put, List.setIfInBounds_toArray, List.set_cons_zero, List.set_cons_succ, i64_w, i32_w]
      rfl
    refine take_ (i := 7) (N := some 36) (v := ?_) (a' := ?_) #[true, true, true, true, true, true, true, true, false, false, false, false, false, false, false, false, false] rfl rfl (by kernel_rfl) (fun _ _ _ h => h) (Or.inl ⟨by rfl, ?_⟩) hH ?_ ?_
    rotate_left
    · rintro w' ⟨s0, s1, s2, s3, s4, s5⟩
      go_simp
      with_reducible rfl
    rotate_left
    · simp only [Act.put, List.setIfInBounds_toArray, List.set_cons_zero, List.set_cons_succ, i64_w, i32_w]
      rfl
    refine pure_ (i := 8) (N := some 37) (v := ?_) (a' := ?_) #[true, true, true, true, true, true, true, true, true, false, false, false, false, false, false, false, false] rfl rfl (by kernel_rfl) (fun _ _ _ h => h) (Or.inl ⟨by rfl, ?_⟩) ?_ ?_
    rotate_left
    · intro w'
      go_simp
      with_reducible rfl
    rotate_left
    · simp only [Act.put, List.setIfInBounds_toArray, List.set_cons_zero, List.set_cons_succ, i64_w, i32_w]
      rfl
    refine take_ (i := 9) (N := some 38) (v := ?_) (a' := ?_) #[true, true, true, true, true, true, true, true, true, true, false, false, false, false, false, false, false] rfl rfl (by kernel_rfl) (fun _ _ _ h => h) (Or.inl ⟨by rfl, ?_⟩) hH ?_ ?_
    rotate_left
    · rintro w' ⟨s0, s1, s2, s3, s4, s5⟩
      go_simp
      with_reducible rfl
    rotate_left
    · simp only [Act.put, List.setIfInBounds_toArray, List.set_cons_zero, List.set_cons_succ, i64_w, i32_w]
      rfl
    refine pure_ (i := 10) (N := some 39) (v := ?_) (a' := ?_) #[true, true, true, true, true, true, true, true, true, true, true, false, false, false, false, false, false] rfl rfl (by kernel_rfl) (fun _ _ _ h => h) (Or.inl ⟨by rfl, ?_⟩) ?_ ?_
    rotate_left
    · intro w'
      go_simp
      with_reducible rfl
    rotate_left
    · simp only [Act.put, List.setIfInBounds_toArray, List.set_cons_zero, List.set_cons_succ, i64_w, i32_w]
      rfl
    refine pure_ (i := 11) (N := some 40) (v := ?_) (a' := ?_) #[true, true, true, true, true, true, true, true, true, true, true, true, false, false, false, false, false] rfl rfl (by kernel_rfl) (fun _ _ _ h => h) (Or.inl ⟨by rfl, ?_⟩) ?_ ?_
    rotate_left
    · intro w'
      go_simp
      with_reducible rfl
    rotate_left
    · simp only [Act.put, List.setIfInBounds_toArray, List.set_cons_zero, List.set_cons_succ, i64_w, i32_w]
      rfl
    refine one_ (i := 12) (N := some 41) #[true, true, true, true, true, true, true, true, true, true, true, true, true, false, false, false, false] rfl rfl (by kernel_rfl) (by decide) (fun K hK => ?_)
    refine value_ (w1 := X.alloc (.cells #[.int .u16 f, .int .u32 g.ep, .int .u32 g.id, .int .u16 g.cnt, .int .u8 g.ver, .int .i64 0, .pointer (some ⟨p, 0, none⟩)] 69)) (v := .slice (some ⟨X.heap.size, 0, none⟩) 1 1) (by rfl) rfl ?_ ?_
    · go_simp
      try rfl
    have hS_ : BegS t W.heap.size v f g (X.alloc (.cells #[.int .u16 f, .int .u32 g.ep, .int .u32 g.id, .int .u16 g.cnt, .int .u8 g.ver, .int .i64 0, .pointer (some ⟨p, 0, none⟩)] 69)) := hH.below (below_alloc (Below.refl _ _) _)
    refine hK.out _ _ hS_ (fun hH1 => ?_)
    clear hS_
    clear hK K
    refine norm_ (a' := ?_) ?_ ?_
    rotate_left
    · show Act.put _ (some 41) _ = _
      simp only [Act.put, List.setIfInBounds_toArray, List.set_cons_zero, List.set_cons_succ, i64_w, i32_w]
      rfl
    refine last_ (i := 13) (N := some 42) #[true, true, true, true, true, true, true, true, true, true, true, true, true, true, false, false, false] rfl rfl (by kernel_rfl) (by decide) (fun K hK => ?_)
    refine Kd.R_append_step k7 (w0 := X) 0 (by rfl) _ _ 62 69 _ 32 rfl Try.underlying62 i69 rfl (by decide) (by decide) v os1 ⟨⟨f, g.ep, g.id, g.cnt, g.ver, 0, []⟩, p, fun k => w1.heap.size ≤ k ∧ k < w2.heap.size⟩ [.int .u16 f, .int .u32 g.ep, .int .u32 g.id, .int .u16 g.cnt, .int .u8 g.ver, .int .i64 0, .pointer (some ⟨p, 0, none⟩)] (fun k => oL k ∨ X.heap.size ≤ k) (fun _ => False) rfl rfl (k7_mkM _ _ _ _) (fun _ h => h.elim) (fun _ h => .inr h) (Kd.R_mono HR.out (fun _ h => .inl h)) (Below.refl _ _) (Nat.zero_le _) (by have := HLN.out; omega) ?_
    intro v1 w3 hO3 hb3 hg3 hat3
    obtain ⟨C, d, rfl, hlcd, hC3⟩ := Kd.R_reads hO3
    clear hC3 hlcd
    have hbt : w3.heap[t]? = some (.cells #[.bool true, .int .i64 L.op, .int .i64 L.by_, .int .i64 L.ex, v] 64 (0, 0)) := (hg3.block t (by have := HLT.out; exact this) (fun e => HNT.out e.symm)).trans HBT.out
    have hft : w3.frozen? ⟨t, 4, none⟩ = false := blk_frozen hbt 4
    have hct : w3.cell? ⟨t, 4, none⟩ = some v := (blk_cell hbt 4).trans rfl
    have HO3 := Aside0.mk hO3; have HB3 := Aside0.mk hb3; have HG3 := Aside0.mk hg3; have HA3 := Aside0.mk hat3; have HBT3 := Aside0.mk hbt
    clear hO3 hb3 hg3 hat3 hbt
    refine hK.out _ _ ?_
    clear hK K
    refine norm_ (a' := ?_) ?_ ?_
    rotate_left
    · show Act.put _ (some 42) _ = _
      simp only [Act.put, List.setIfInBounds_toArray, List.set_cons_zero, List.set_cons_succ, i64_w, i32_w]
      rfl
    refine pure_ (i := 14) (N := some 43) (v := ?_) (a' := ?_) #[true, true, true, true, true, true, true, true, true, true, true, true, true, true, true, false, false] rfl rfl (by kernel_rfl) (fun _ _ _ h => h) (Or.inl ⟨by rfl, ?_⟩) ?_ ?_
    rotate_left
    · intro w'
      go_simp
      with_reducible rfl
    rotate_left
    · simp only [Act.put, List.setIfInBounds_toArray, List.set_cons_zero, List.set_cons_succ, i64_w, i32_w]
      rfl
    refine pure_ (i := 15) (N := some 44) (v := ?_) (a' := ?_) #[true, true, true, true, true, true, true, true, true, true, true, true, true, true, true, true, false] rfl rfl (by kernel_rfl) (fun _ _ _ h => h) (Or.inl ⟨by rfl, ?_⟩) ?_ ?_
    rotate_left
    · intro w'
      go_simp
      with_reducible rfl
    rotate_left
    · simp only [Act.put, List.setIfInBounds_toArray, List.set_cons_zero, List.set_cons_succ, i64_w, i32_w]
      rfl
    refine last_ (i := 16) (N := none) #[true, true, true, true, true, true, true, true, true, true, true, true, true, true, true, true, true] rfl rfl (by kernel_rfl) (by decide) (fun K hK => ?_)
    refine skip_ (w1 := w3.setCell ⟨t, 4, none⟩ (.slice C (os1 ++ [(⟨⟨f, g.ep, g.id, g.cnt, g.ver, 0, []⟩, p, fun k => w1.heap.size ≤ k ∧ k < w2.heap.size⟩ : OB)]).length d)) (by rfl) rfl ?_ ?_
    · go_simp
      try rfl
    show K (Act.put _ none undef) _
    refine hK.out _ _ ?_
    clear hK K
    refine norm_ (a' := ?_) ?_ ?_
    rotate_left
    · show Act.put _ (none) _ = _
      simp only [Act.put, List.setIfInBounds_toArray, List.set_cons_zero, List.set_cons_succ, i64_w, i32_w]
      rfl
    refine done_ (by kernel_rfl) ?_
    have hsz4 : (w3.setCell ⟨t, 4, none⟩ (.slice C (os1 ++ [(⟨⟨f, g.ep, g.id, g.cnt, g.ver, 0, []⟩, p, fun k => w1.heap.size ≤ k ∧ k < w2.heap.size⟩ : OB)]).length d)).heap.size = w3.heap.size := by simp [World.setCell]
    have hblk := blk_set HBT3.out 4 (.slice C (os1 ++ [(⟨⟨f, g.ep, g.id, g.cnt, g.ver, 0, []⟩, p, fun k => w1.heap.size ≤ k ∧ k < w2.heap.size⟩ : OB)]).length d)
    have hlen : (os1 ++ [(⟨⟨f, g.ep, g.id, g.cnt, g.ver, 0, []⟩, p, fun k => w1.heap.size ≤ k ∧ k < w2.heap.size⟩ : OB)]).length = os1.length + 1 := by simp
    have HLEN := Aside0.mk hlen
    have HS4 := Aside0.mk hsz4
    have HBL := Aside0.mk hblk
    have z4 : (w3.setCell ⟨t, 4, none⟩ (.slice C (os1 ++ [(⟨⟨f, g.ep, g.id, g.cnt, g.ver, 0, []⟩, p, fun k => w1.heap.size ≤ k ∧ k < w2.heap.size⟩ : OB)]).length d)).cell? ⟨t, 4, none⟩ = some (.slice C (os1 ++ [(⟨⟨f, g.ep, g.id, g.cnt, g.ver, 0, []⟩, p, fun k => w1.heap.size ≤ k ∧ k < w2.heap.size⟩ : OB)]).length d) := by rw [blk_cell hblk 4]; simp
    rw [hlen] at z4 ⊢
    clear hlen hsz4 hblk x0 x1 x2 x3 x4 x5
    go_wp2
    go_ret
    rw [← HLEN.out]
    exact begin_end HT1.out HF1.out HB2.out HSX.out HBX.out HPA.out HT2.out HBAG.out HLL.out HOWN.out HR.out HO3.out HG3.out rfl HBL.out HS4.out (HA1.out _ rfl) (by have := HLN.out; unfold wrap64; omega)
  · have hf1 : decide ((os.length : Int) ≥ L.op) = false := decide_eq_false hf
    have HF := Aside0.mk hf
    go_enter Try.func32, Try.ntmps32
    go_wp2
    go_quiet (fail)
    obtain ⟨w1, hw1⟩ : ∃ w1, V.drewN nq = w1 := ⟨_, rfl⟩
    rw [hw1]
    have hbw1 : Below V.heap.size V w1 := by rw [← hw1]; exact pw_below_drewN (Below.refl _ _) _
    have HT1 := Aside0.mk (HTV.out.below hbw1)
    have HF1 : Aside0 (Fr own W w1) := ⟨Fr.of_below (below_then HBV.out HBV.out.size hbw1)⟩
    have HX4 := Aside0.mk ((hbw1.block _ (blk_lt HE4.out)).trans HE4.out)
    have HX5 := Aside0.mk ((hbw1.block _ (blk_lt HE5.out)).trans HE5.out)
    obtain ⟨os1, hos1⟩ : ∃ os1, os = os1 := ⟨_, rfl⟩
    have HA1 : Aside0 (∀ x : OB, x.a = ⟨f, g.ep, g.id, g.cnt, g.ver, 0, []⟩ → aOf (os1 ++ [x]) = begA L (aOf os) ⟨f, g.ep, g.id, g.cnt, g.ver, 0, []⟩) := ⟨fun x hx => by
      unfold begA
      rw [aOf_app, aOf_len, if_neg (show ¬ (os.length : Int) ≥ L.op by omega), ← hos1, ← hx]
      rfl⟩
    have HLN : Aside0 (os1.length ≤ 1000) := ⟨by rw [← hos1]; exact HS.out.1⟩
    rw [hos1] at HT1
    clear hw1 hbw1 hos1 g0 g1 g2 g3 g4 hf1 hf hV hl
    have hwc : wrap64 g.cnt = g.cnt := by have := HGM.out; unfold Gm at this; unfold wrap64; omega
    have y0 : w1.cell? ⟨W.heap.size + 1, 5, none⟩ = some (.int .u16 g.cnt) := (blk_cell HX5.out 5).trans rfl
    go_wp2_with fail
    refine (pnew_ok g.cnt w1 HC1.out (by have := HGM.out; unfold Gm at this; omega)).mono ?_
    rintro e2 w2 ⟨p, rfl, hb2, hPA⟩
    have hT2 := HT1.out.below hb2
    obtain ⟨v, oB, hb, hbag, hown⟩ := hT2.st
    obtain ⟨X, hX⟩ : ∃ X, w2.drew = X := ⟨_, rfl⟩
    have hbX : Below w2.heap.size w2 X := by rw [← hX]; exact (Below.refl _ _).drew
    have hszX : X.heap.size = w2.heap.size := by rw [← hX]; rfl
    have hbagX := hbag.frame OPA.fr (Fr.of_below hbX (own := fun _ => False)) (fun _ _ h => h)
    obtain ⟨oL, hR, hL⟩ := hbagX.row
    have hbt := (hbX.block t (hT2.lt t hT2.ot)).trans hb
    have hx4 := (hb2.block _ (blk_lt HX4.out)).trans HX4.out
    have hx5 := (hb2.block _ (blk_lt HX5.out)).trans HX5.out
    have hy4 := (hbX.block _ (blk_lt hx4)).trans hx4
    have hy5 := (hbX.block _ (blk_lt hx5)).trans hx5
    have x0 : X.cell? ⟨t, 4, none⟩ = some v := (blk_cell hbt 4).trans rfl
    have x1 : X.cell? ⟨W.heap.size, 0, none⟩ = some (.int .u16 f) := (blk_cell hy4 0).trans rfl
    have x2 : X.cell? ⟨W.heap.size, 1, none⟩ = some (.int .u32 g.ep) := (blk_cell hy4 1).trans rfl
    have x3 : X.cell? ⟨W.heap.size, 2, none⟩ = some (.int .u32 g.id) := (blk_cell hy4 2).trans rfl
    have x4 : X.cell? ⟨W.heap.size + 1, 5, none⟩ = some (.int .u16 g.cnt) := (blk_cell hy5 5).trans rfl
    have x5 : X.cell? ⟨W.heap.size + 1, 1, none⟩ = some (.int .u8 g.ver) := (blk_cell hy5 1).trans rfl
    have HR := Aside0.mk hR
    have HBAG := Aside0.mk hbagX
    have HLL := Aside0.mk hL
    have HOWN := Aside0.mk hown
    have HT2 := Aside0.mk hT2
    have HBT := Aside0.mk hbt
    have HSX := Aside0.mk hszX
    have HPA := Aside0.mk hPA
    have HB2 := Aside0.mk hb2
    have HBX := Aside0.mk hbX
    have HLT : Aside0 (t < X.heap.size) := ⟨blk_lt hbt⟩
    have HNT : Aside0 (v.ownBlock ≠ some t) := ⟨fun e => (hown t (hL t (hR.1 t e)).1).2 rfl⟩
    clear hR hbagX hL hown hT2 hbt hszX hPA hb2 hbX hx4 hx5 hy4 hy5 hb hbag y0
    have hs0 : BegS t W.heap.size v f g w2.drew := by rw [hX]; exact ⟨x0, x1, x2, x3, x4, x5⟩
    go_wp2_with fail
    refine start_ (n := 17) (S := BegS t W.heap.size v f g) (ds := [13, 16]) #[false, false, false, false, false, false, false, false, false, false, false, false, false, false, false, false, false] (by kernel_rfl) rfl rfl hs0 (fun hH => ?_)
    clear hs0
    rw [hX] at hH ⊢
    clear hX
    refine pure_ (i := 0) (N := some 29) (v := ?_) (a' := ?_) #[true, false, false, false, false, false, false, false, false, false, false, false, false, false, false, false, false] rfl rfl (by kernel_rfl) (fun _ _ _ h => h) (Or.inl ⟨by rfl, ?_⟩) ?_ ?_
    rotate_left
    · intro w'
      go_simp
      with_reducible rfl
    rotate_left
    · simp only [Act.put, List.setIfInBounds_toArray, List.set_cons_zero, List.set_cons_succ, i64_w, i32_w]
      rfl
    refine pure_ (i := 1) (N := some 30) (v := ?_) (a' := ?_) #[true, true, false, false, false, false, false, false, false, false, false, false, false, false, false, false, false] rfl rfl (by kernel_rfl) (fun _ _ _ h => h) (Or.inl ⟨by rfl, ?_⟩) ?_ ?_
    rotate_left
    · intro w'
      go_simp
      with_reducible rfl
    rotate_left
    · simp only [Act.put, List.setIfInBounds_toArray, List.set_cons_zero, List.set_cons_succ, i64_w, i32_w]
      rfl
    refine pure_ (i := 2) (N := some 31) (v := ?_) (a' := ?_) #[true, true, true, false, false, false, false, false, false, false, false, false, false, false, false, false, false] rfl rfl (by kernel_rfl) (fun _ _ _ h => h) (Or.inl ⟨by rfl, ?_⟩) ?_ ?_
    rotate_left
    · intro w'
      go_simp
      with_reducible rfl
    rotate_left
    · simp only [Act.put, List.setIfInBounds_toArray, List.set_cons_zero, List.set_cons_succ, i64_w, i32_w]
      rfl
    refine pure_ (i := 3) (N := some 32) (v := ?_) (a' := ?_) #[true, true, true, true, false, false, false, false, false, false, false, false, false, false, false, false, false] rfl rfl (by kernel_rfl) (fun _ _ _ h => h) (Or.inl ⟨by rfl, ?_⟩) ?_ ?_
    rotate_left
    · intro w'
      go_simp
      with_reducible rfl
    rotate_left
    · simp only [Act.put, List.setIfInBounds_toArray, List.set_cons_zero, List.set_cons_succ, i64_w, i32_w]
      rfl
    refine take_ (i := 4) (N := some 33) (v := ?_) (a' := ?_) #[true, true, true, true, true, false, false, false, false, false, false, false, false, false, false, false, false] rfl rfl (by kernel_rfl) (fun _ _ _ h => h) (Or.inl ⟨by rfl, ?_⟩) hH ?_ ?_
    rotate_left
    · rintro w' ⟨s0, s1, s2, s3, s4, s5⟩
      go_simp
      with_reducible rfl
    rotate_left
    · simp only [Act.put, List.setIfInBounds_toArray, List.set_cons_zero, List.set_cons_succ, i64_w, i32_w]
      rfl
    refine take_ (i := 5) (N := some 34) (v := ?_) (a' := ?_) #[true, true, true, true, true, true, false, false, false, false, false, false, false, false, false, false, false] rfl rfl (by kernel_rfl) (fun _ _ _ h => h) (Or.inl ⟨by rfl, ?_⟩) hH ?_ ?_
    rotate_left
    · rintro w' ⟨s0, s1, s2, s3, s4, s5⟩
      go_simp
      with_reducible rfl
    rotate_left
    · simp only [Act.put, List.setIfInBounds_toArray, List.set_cons_zero, List.set_cons_succ, i64_w, i32_w]
      rfl
    refine pure_ (i := 6) (N := some 35) (v := ?_) (a' := ?_) #[true, true, true, true, true, true, true, false, false, false, false, false, false, false, false, false, false] rfl rfl (by kernel_rfl) (fun _ _ _ h => h) (Or.inl ⟨by rfl, ?_⟩) ?_ ?_
    rotate_left
    · intro w'
      go_simp
      with_reducible rfl
    rotate_left
    · simp only [Act.put, List.setIfInBounds_toArray, List.set_cons_zero, List.set_cons_succ, i64_w, i32_w]
      rfl
    refine take_ (i := 7) (N := some 36) (v := ?_) (a' := ?_) #[true, true, true, true, true, true, true, true, false, false, false, false, false, false, false, false, false] rfl rfl (by kernel_rfl) (fun _ _ _ h => h) (Or.inl ⟨by rfl, ?_⟩) hH ?_ ?_
    rotate_left
    · rintro w' ⟨s0, s1, s2, s3, s4, s5⟩
      go_simp
      with_reducible rfl
    rotate_left
    · simp only [Act.put, List.setIfInBounds_toArray, List.set_cons_zero, List.set_cons_succ, i64_w, i32_w]
      rfl
    refine pure_ (i := 8) (N := some 37) (v := ?_) (a' := ?_) #[true, true, true, true, true, true, true, true, true, false, false, false, false, false, false, false, false] rfl rfl (by kernel_rfl) (fun _ _ _ h => h) (Or.inl ⟨by rfl, ?_⟩) ?_ ?_
    rotate_left
    · intro w'
      go_simp
      with_reducible rfl
    rotate_left
    · simp only [Act.put, List.setIfInBounds_toArray, List.set_cons_zero, List.set_cons_succ, i64_w, i32_w]
      rfl
    refine take_ (i := 9) (N := some 38) (v := ?_) (a' := ?_) #[true, true, true, true, true, true, true, true, true, true, false, false, false, false, false, false, false] rfl rfl (by kernel_rfl) (fun _ _ _ h => h) (Or.inl ⟨by rfl, ?_⟩) hH ?_ ?_
    rotate_left
    · rintro w' ⟨s0, s1, s2, s3, s4, s5⟩
      go_simp
      with_reducible rfl
    rotate_left
    · simp only [Act.put, List.setIfInBounds_toArray, List.set_cons_zero, List.set_cons_succ, i64_w, i32_w]
      rfl
    refine pure_ (i := 10) (N := some 39) (v := ?_) (a' := ?_) #[true, true, true, true, true, true, true, true, true, true, true, false, false, false, false, false, false] rfl rfl (by kernel_rfl) (fun _ _ _ h => h) (Or.inl ⟨by rfl, ?_⟩) ?_ ?_
    rotate_left
    · intro w'
      go_simp
      with_reducible rfl
    rotate_left
    · simp only [Act.put, List.setIfInBounds_toArray, List.set_cons_zero, List.set_cons_succ, i64_w, i32_w]
      rfl
    refine pure_ (i := 11) (N := some 40) (v := ?_) (a' := ?_) #[true, true, true, true, true, true, true, true, true, true, true, true, false, false, false, false, false] rfl rfl (by kernel_rfl) (fun _ _ _ h => h) (Or.inl ⟨by rfl, ?_⟩) ?_ ?_
    rotate_left
    · intro w'
      go_simp
      with_reducible rfl
    rotate_left
    · simp only [Act.put, List.setIfInBounds_toArray, List.set_cons_zero, List.set_cons_succ, i64_w, i32_w]
      rfl
    refine one_ (i := 12) (N := some 41) #[true, true, true, true, true, true, true, true, true, true, true, true, true, false, false, false, false] rfl rfl (by kernel_rfl) (by decide) (fun K hK => ?_)
    refine value_ (w1 := X.alloc (.cells #[.int .u16 f, .int .u32 g.ep, .int .u32 g.id, .int .u16 g.cnt, .int .u8 g.ver, .int .i64 0, .pointer (some ⟨p, 0, none⟩)] 69)) (v := .slice (some ⟨X.heap.size, 0, none⟩) 1 1) (by rfl) rfl ?_ ?_
    · go_simp
      try rfl
    have hS_ : BegS t W.heap.size v f g (X.alloc (.cells #[.int .u16 f, .int .u32 g.ep, .int .u32 g.id, .int .u16 g.cnt, .int .u8 g.ver, .int .i64 0, .pointer (some ⟨p, 0, none⟩)] 69)) := hH.below (below_alloc (Below.refl _ _) _)
    refine hK.out _ _ hS_ (fun hH1 => ?_)
    clear hS_
    clear hK K
    refine norm_ (a' := ?_) ?_ ?_
    rotate_left
    · show Act.put _ (some 41) _ = _
      simp only [Act.put, List.setIfInBounds_toArray, List.set_cons_zero, List.set_cons_succ, i64_w, i32_w]
      rfl
    refine last_ (i := 13) (N := some 42) #[true, true, true, true, true, true, true, true, true, true, true, true, true, true, false, false, false] rfl rfl (by kernel_rfl) (by decide) (fun K hK => ?_)
    refine Kd.R_append_step k7 (w0 := X) 0 (by rfl) _ _ 62 69 _ 32 rfl Try.underlying62 i69 rfl (by decide) (by decide) v os1 ⟨⟨f, g.ep, g.id, g.cnt, g.ver, 0, []⟩, p, fun k => w1.heap.size ≤ k ∧ k < w2.heap.size⟩ [.int .u16 f, .int .u32 g.ep, .int .u32 g.id, .int .u16 g.cnt, .int .u8 g.ver, .int .i64 0, .pointer (some ⟨p, 0, none⟩)] (fun k => oL k ∨ X.heap.size ≤ k) (fun _ => False) rfl rfl (k7_mkM _ _ _ _) (fun _ h => h.elim) (fun _ h => .inr h) (Kd.R_mono HR.out (fun _ h => .inl h)) (Below.refl _ _) (Nat.zero_le _) (by have := HLN.out; omega) ?_
    intro v1 w3 hO3 hb3 hg3 hat3
    obtain ⟨C, d, rfl, hlcd, hC3⟩ := Kd.R_reads hO3
    clear hC3 hlcd
    have hbt : w3.heap[t]? = some (.cells #[.bool true, .int .i64 L.op, .int .i64 L.by_, .int .i64 L.ex, v] 64 (0, 0)) := (hg3.block t (by have := HLT.out; exact this) (fun e => HNT.out e.symm)).trans HBT.out
    have hft : w3.frozen? ⟨t, 4, none⟩ = false := blk_frozen hbt 4
    have hct : w3.cell? ⟨t, 4, none⟩ = some v := (blk_cell hbt 4).trans rfl
    have HO3 := Aside0.mk hO3; have HB3 := Aside0.mk hb3; have HG3 := Aside0.mk hg3; have HA3 := Aside0.mk hat3; have HBT3 := Aside0.mk hbt
    clear hO3 hb3 hg3 hat3 hbt
    refine hK.out _ _ ?_
    clear hK K
    refine norm_ (a' := ?_) ?_ ?_
    rotate_left
    · show Act.put _ (some 42) _ = _
      simp only [Act.put, List.setIfInBounds_toArray, List.set_cons_zero, List.set_cons_succ, i64_w, i32_w]
      rfl
    refine pure_ (i := 14) (N := some 43) (v := ?_) (a' := ?_) #[true, true, true, true, true, true, true, true, true, true, true, true, true, true, true, false, false] rfl rfl (by kernel_rfl) (fun _ _ _ h => h) (Or.inl ⟨by rfl, ?_⟩) ?_ ?_
    rotate_left
    · intro w'
      go_simp
      with_reducible rfl
    rotate_left
    · simp only [Act.put, List.setIfInBounds_toArray, List.set_cons_zero, List.set_cons_succ, i64_w, i32_w]
      rfl
    refine pure_ (i := 15) (N := some 44) (v := ?_) (a' := ?_) #[true, true, true, true, true, true, true, true, true, true, true, true, true, true, true, true, false] rfl rfl (by kernel_rfl) (fun _ _ _ h => h) (Or.inl ⟨by rfl, ?_⟩) ?_ ?_
    rotate_left
    · intro w'
      go_simp
      with_reducible rfl
    rotate_left
    · simp only [Act.put, List.setIfInBounds_toArray, List.set_cons_zero, List.set_cons_succ, i64_w, i32_w]
      rfl
    refine last_ (i := 16) (N := none) #[true, true, true, true, true, true, true, true, true, true, true, true, true, true, true, true, true] rfl rfl (by kernel_rfl) (by decide) (fun K hK => ?_)
    refine skip_ (w1 := w3.setCell ⟨t, 4, none⟩ (.slice C (os1 ++ [(⟨⟨f, g.ep, g.id, g.cnt, g.ver, 0, []⟩, p, fun k => w1.heap.size ≤ k ∧ k < w2.heap.size⟩ : OB)]).length d)) (by rfl) rfl ?_ ?_
    · go_simp
      try rfl
    show K (Act.put _ none undef) _
    refine hK.out _ _ ?_
    clear hK K
    refine norm_ (a' := ?_) ?_ ?_
    rotate_left
    · show Act.put _ (none) _ = _
      simp only [Act.put, List.setIfInBounds_toArray, List.set_cons_zero, List.set_cons_succ, i64_w, i32_w]
      rfl
    refine done_ (by kernel_rfl) ?_
    have hsz4 : (w3.setCell ⟨t, 4, none⟩ (.slice C (os1 ++ [(⟨⟨f, g.ep, g.id, g.cnt, g.ver, 0, []⟩, p, fun k => w1.heap.size ≤ k ∧ k < w2.heap.size⟩ : OB)]).length d)).heap.size = w3.heap.size := by simp [World.setCell]
    have hblk := blk_set HBT3.out 4 (.slice C (os1 ++ [(⟨⟨f, g.ep, g.id, g.cnt, g.ver, 0, []⟩, p, fun k => w1.heap.size ≤ k ∧ k < w2.heap.size⟩ : OB)]).length d)
    have hlen : (os1 ++ [(⟨⟨f, g.ep, g.id, g.cnt, g.ver, 0, []⟩, p, fun k => w1.heap.size ≤ k ∧ k < w2.heap.size⟩ : OB)]).length = os1.length + 1 := by simp
    have HLEN := Aside0.mk hlen
    have HS4 := Aside0.mk hsz4
    have HBL := Aside0.mk hblk
    have z4 : (w3.setCell ⟨t, 4, none⟩ (.slice C (os1 ++ [(⟨⟨f, g.ep, g.id, g.cnt, g.ver, 0, []⟩, p, fun k => w1.heap.size ≤ k ∧ k < w2.heap.size⟩ : OB)]).length d)).cell? ⟨t, 4, none⟩ = some (.slice C (os1 ++ [(⟨⟨f, g.ep, g.id, g.cnt, g.ver, 0, []⟩, p, fun k => w1.heap.size ≤ k ∧ k < w2.heap.size⟩ : OB)]).length d) := by rw [blk_cell hblk 4]; simp
    rw [hlen] at z4 ⊢
    clear hlen hsz4 hblk x0 x1 x2 x3 x4 x5
    go_wp2
    go_ret
    rw [← HLEN.out]
    exact begin_end HT1.out HF1.out HB2.out HSX.out HBX.out HPA.out HT2.out HBAG.out HLL.out HOWN.out HR.out HO3.out HG3.out rfl HBL.out HS4.out (HA1.out _ rfl) (by have := HLN.out; unfold wrap64; omega)
end Go.Proofs.Ytaeelmkpjgmdlaa.H

/- Mine. Chapter 22, by hand: fit of the table. -/
namespace Go.Proofs.Ytaeelmkpjgmdlaa.H
open Go Go.Proofs Go.RowKit Go.Lib Go.Proofs.Ytaeelmkpjgmdlaa.P Go.Proofs.YtaeelmkpjgmdlaaW.PrintWords Go.Proofs.YtaeelmkpjgmdlaaW.PrintLast Go.Proofs.YtaeelmkpjgmdlaaW.PrintMore Go.Proofs.YtaeelmkpjgmdlaaW.PrintFlat
set_option linter.unusedVariables false
set_option linter.unusedSimpArgs false
/-- The one that stays is no more than may be. -/
def Fits (L : Room.Lim) (f e i : Int) (os : List Room.OA) : Prop := Room.held (os.filter (Room.isK f e i)) ≤ L.by_
theorem filter_all {α : Type} {p : α → Bool} : ∀ {l : List α}, (∀ x ∈ l, p x = true) → l.filter p = l := fun h => List.filter_eq_self.2 h
theorem Fits.some {L : Room.Lim} {f e i : Int} {os : List Room.OA} (h : Fits L f e i os) (hh : Room.held os > L.by_) : Room.idx (fun o => !Room.isK f e i o) os < os.length := by
  refine Room.idx_lt ?_
  refine Classical.byContradiction fun hn => ?_
  have hall : ∀ x ∈ os, Room.isK f e i x = true := fun x hx => by
    refine Classical.byContradiction fun hx2 => hn ⟨x, hx, by simpa using hx2⟩
  unfold Fits at h
  rw [filter_all hall] at h
  omega
theorem filter_erase {α : Type} (p : α → Bool) : ∀ (l : List α) (k : Nat) (hk : k < l.length), p l[k] = false → (l.eraseIdx k).filter p = l.filter p
  | x :: r, 0, hk, hp => by
    rw [List.getElem_cons_zero] at hp
    rw [List.eraseIdx_cons_zero, List.filter_cons, hp]
    rfl
  | x :: r, k + 1, hk, hp => by
    rw [List.getElem_cons_succ] at hp
    rw [List.eraseIdx_cons_succ, List.filter_cons, List.filter_cons, filter_erase p r k (by simpa using hk) hp]
theorem Fits.erase {L : Room.Lim} {f e i : Int} {os : List Room.OA} (h : Fits L f e i os) (hk : Room.idx (fun o => !Room.isK f e i o) os < os.length) : Fits L f e i (os.eraseIdx (Room.idx (fun o => !Room.isK f e i o) os)) := by
  unfold Fits
  rw [filter_erase (Room.isK f e i) os _ hk (by have := Room.idx_hit hk; simpa using this)]
  exact h
theorem held_erase (os : List Room.OA) (k : Nat) : Room.held (os.eraseIdx k) ≤ Room.held os := by
  induction os generalizing k with
  | nil => exact Int.le_refl _
  | cons x r ih =>
    cases k with
    | zero =>
      rw [List.eraseIdx_cons_zero, Room.held_cons]
      have := Room.size_nn x.ps
      omega
    | succ k =>
      rw [List.eraseIdx_cons_succ, Room.held_cons, Room.held_cons]
      have := ih k
      omega
theorem held_sub {a b : List Room.OA} (h : a.Sublist b) : Room.held a ≤ Room.held b := by
  induction h with
  | slnil => exact Int.le_refl _
  | cons x _ ih =>
    rw [Room.held_cons]
    have := Room.size_nn x.ps
    omega
  | cons_cons x _ ih =>
    rw [Room.held_cons, Room.held_cons]
    omega
theorem aOf_sub {a b : List OB} (h : a.Sublist b) : (aOf a).Sublist (aOf b) := h.map _
structure FitS (own : Nat → Prop) (t z : Nat) (L : Room.Lim) (f e i : Int) (os : List OB) (w V : World) : Prop where
  ts : TS own t L os V
  bx : V.heap[z]? = some (.cells #[.int .u16 f, .int .u32 e, .int .u32 i] 66 (0, 0))
  bl : Below w.heap.size w V
theorem FitS.below {own : Nat → Prop} {t z : Nat} {L : Room.Lim} {f e i : Int} {os : List OB} {w V V' : World} (h : FitS own t z L f e i os w V) (hb : Below V.heap.size V V') : FitS own t z L f e i os w V' :=
  ⟨h.ts.below hb, (hb.block _ (blk_lt h.bx)).trans h.bx, below_then h.bl h.bl.size hb⟩
set_option maxHeartbeats 4000000 in
set_option maxRecDepth 100000 in
theorem fit_calls {own : Nat → Prop} {t : Nat} {L : Room.Lim} {os : List OB} {W : World} (h : TS own t L os W) (hs : Sm L os) (f e i : Int) (hf : Fits L f e i (aOf os)) :
    Calls Try.prog 34 #[.pointer (some ⟨t, 0, none⟩), .agg #[.int .u16 f, .int .u32 e, .int .u32 i]] W fun e' w' => e' = .returned (.tuple #[]) ∧ Fr own W w' ∧ ∃ os', os'.Sublist os ∧ aOf os' = Room.fit L f e i os.length (aOf os) ∧ TS own t L os' w' := by
  obtain ⟨V, hV⟩ : ∃ V, (W.alloc (.cells #[.int .u16 f, .int .u32 e, .int .u32 i] 66)) = V := ⟨_, rfl⟩
  have hbV : Below W.heap.size W V := by rw [← hV]; exact below_alloc (Below.refl _ _) _
  have hx3 : V.heap[W.heap.size]? = some (.cells #[.int .u16 f, .int .u32 e, .int .u32 i] 66 (0, 0)) := by rw [← hV]; exact heap_alloc_new W _
  have HS := Aside0.mk hs
  have HTL := Aside0.mk h.lt
  have HST : Aside0 (∃ osr : List OB, osr.Sublist os ∧ Room.fit L f e i osr.length (aOf osr) = Room.fit L f e i os.length (aOf os) ∧ Fits L f e i (aOf osr) ∧ TS own t L osr V) := ⟨os, List.Sublist.refl _, rfl, hf, h.below hbV⟩
  have HF0 : Aside0 (Fr own W V) := ⟨Fr.of_below hbV⟩
  have HX3 := Aside0.mk hx3
  clear h hs hf hbV hx3
  go_enter Try.func34, Try.ntmps34
  go_wp2
  go_loopg [4] os.length (fun gg _ wr => ∃ osr : List OB, osr.length ≤ gg ∧ Aside0 (osr.Sublist os ∧ Room.fit L f e i osr.length (aOf osr) = Room.fit L f e i os.length (aOf os) ∧ Fits L f e i (aOf osr)) ∧ Aside0 (TS own t L osr wr) ∧ Aside0 (Fr own W wr) ∧ Aside0 (wr.heap[W.heap.size]? = some (.cells #[.int .u16 f, .int .u32 e, .int .u32 i] 66 (0, 0))))
  case atStart =>
    obtain ⟨osr, h1, h2, h3, h4⟩ := HST.out
    exact ⟨osr, h1.length_le, ⟨h1, h2, h3⟩, ⟨h4⟩, HF0, HX3⟩
  case round =>
    obtain ⟨osr, hgg, HC, HT, HF, HX⟩ := hrel
    have HLB : Aside0 (osr.length ≤ 140737488355328) := ⟨by have h1 := HC.out.1.length_le; have h2 := HS.out.1; omega⟩
    have HHB : Aside0 (Room.held (aOf osr) ≤ 4611686018427387904) := ⟨by have h1 := held_sub (aOf_sub HC.out.1); have h2 := HS.out.2.1; omega⟩
    obtain ⟨X, hX⟩ : ∃ X, wr.drew = X := ⟨_, rfl⟩
    have hs0 : FitS own t W.heap.size L f e i osr wr wr.drew := ⟨HT.out.below (Below.refl _ _).drew, HX.out, (Below.refl _ _).drew⟩
    by_cases hh : Room.held (aOf osr) > L.by_
    · go_wp2
      refine start_ (n := 8) (S := FitS own t W.heap.size L f e i osr wr) (ds := []) #[false, false, false, false, false, false, false, false] (by kernel_rfl) rfl rfl hs0 (fun hH => ?_)
      rw [hX] at hH ⊢
      clear hs0 hX
      refine pure_ (i := 0) (N := some 4) (v := ?_) (a' := ?_) #[true, false, false, false, false, false, false, false] rfl rfl (by kernel_rfl) (fun _ _ _ h => h) (Or.inl ⟨by rfl, ?_⟩) ?_ ?_
      rotate_left
      · intro w'
        go_simp
        with_reducible rfl
      rotate_left
      · simp only [Act.put, List.setIfInBounds_toArray, List.set_cons_zero, List.set_cons_succ, i64_w, i32_w]
        rfl
      refine pure_ (i := 2) (N := some 6) (v := ?_) (a' := ?_) #[true, false, true, false, false, false, false, false] rfl rfl (by kernel_rfl) (fun _ _ _ h => h) (Or.inl ⟨by rfl, ?_⟩) ?_ ?_
      rotate_left
      · intro w'
        go_simp
        with_reducible rfl
      rotate_left
      · simp only [Act.put, List.setIfInBounds_toArray, List.set_cons_zero, List.set_cons_succ, i64_w, i32_w]
        rfl
      refine pure_ (i := 3) (N := some 7) (v := ?_) (a' := ?_) #[true, false, true, true, false, false, false, false] rfl rfl (by kernel_rfl) (fun _ _ _ h => h) (Or.inl ⟨by rfl, ?_⟩) ?_ ?_
      rotate_left
      · intro w'
        go_simp
        with_reducible rfl
      rotate_left
      · simp only [Act.put, List.setIfInBounds_toArray, List.set_cons_zero, List.set_cons_succ, i64_w, i32_w]
        rfl
      refine pure_ (i := 4) (N := some 8) (v := ?_) (a' := ?_) #[true, false, true, true, true, false, false, false] rfl rfl (by kernel_rfl) (fun _ _ _ h => h) (Or.inl ⟨by rfl, ?_⟩) ?_ ?_
      rotate_left
      · intro w'
        go_simp
        with_reducible rfl
      rotate_left
      · simp only [Act.put, List.setIfInBounds_toArray, List.set_cons_zero, List.set_cons_succ, i64_w, i32_w]
        rfl
      refine pure_ (i := 5) (N := some 9) (v := ?_) (a' := ?_) #[true, false, true, true, true, true, false, false] rfl rfl (by kernel_rfl) (fun _ _ _ h => h) (Or.inl ⟨by rfl, ?_⟩) ?_ ?_
      rotate_left
      · intro w'
        go_simp
        with_reducible rfl
      rotate_left
      · simp only [Act.put, List.setIfInBounds_toArray, List.set_cons_zero, List.set_cons_succ, i64_w, i32_w]
        rfl
      refine take_ (i := 6) (N := some 10) (v := ?_) (a' := ?_) #[true, false, true, true, true, true, true, false] rfl rfl (by kernel_rfl) (fun _ _ _ h => h) (Or.inl ⟨by rfl, ?_⟩) hH ?_ ?_
      rotate_left
      · rintro w' ⟨s0, _, _⟩
        obtain ⟨_, _, _, _, q2, _, _, _, _⟩ := s0.reads
        go_simp
        with_reducible rfl
      rotate_left
      · simp only [Act.put, List.setIfInBounds_toArray, List.set_cons_zero, List.set_cons_succ, i64_w, i32_w]
        rfl
      refine one_ (i := 1) (N := some 5) #[true, true, true, true, true, true, true, false] rfl rfl (by kernel_rfl) (by decide) (fun K hK => ?_)
      refine goes_ Try.func16 (by kernel_rfl) rfl #[.pointer (some ⟨t, 0, none⟩)] (by rfl) rfl rfl (by (try simp only [List.map_toArray, List.map_cons, List.map_nil]); first | done | rfl) ?_
      refine (held_calls hH.ts HHB.out HLB.out).mono ?_
      rintro e3 w3 ⟨rfl, hb3⟩
      refine ⟨_, rfl, ?_⟩
      have hS_ := hH.below hb3
      refine hK.out _ _ hS_ (fun hH1 => ?_)
      clear hS_ hb3
      clear hK K
      refine norm_ (a' := ?_) ?_ ?_
      rotate_left
      · show Act.put _ (some 5) _ = _
        simp only [Act.put, List.setIfInBounds_toArray, List.set_cons_zero, List.set_cons_succ, i64_w, i32_w]
        rfl
      refine pure_ (i := 7) (N := some 11) (v := ?_) (a' := ?_) #[true, true, true, true, true, true, true, true] rfl rfl (by kernel_rfl) (fun _ _ _ h => h) (Or.inl ⟨by rfl, ?_⟩) ?_ ?_
      rotate_left
      · intro w'
        go_simp
        with_reducible rfl
      rotate_left
      · simp only [Act.put, List.setIfInBounds_toArray, List.set_cons_zero, List.set_cons_succ, i64_w, i32_w]
        rfl
      refine done_ (by kernel_rfl) ?_
      have hlt := HC.out.2.2.some hh
      obtain ⟨k, hk⟩ : ∃ k, Room.idx (fun o => !Room.isK f e i o) (aOf osr) = k := ⟨_, rfl⟩
      have hfe := HC.out.2.2.erase hlt
      rw [hk] at hlt hfe
      rw [aOf_len] at hlt
      have hix : Room.ixI (fun o : OB => !Room.isK f e i o.a) osr = (k : Int) := by
        rw [← ixI_map (fun o => !Room.isK f e i o) osr]
        unfold Room.ixI
        rw [show osr.map OB.a = aOf osr from rfl, hk, aOf_len, if_pos hlt]
      obtain ⟨A, c, q0, q1, q2, q3, q4, hl, hC⟩ := hH1.ts.reads
      have hcall := idx69 (fun o => !Room.isK f e i o.a) 63 #[.pointer (some ⟨W.heap.size, 0, none⟩)] (enters_of Try.func63 (by kernel_rfl) rfl) A c osr w3 hC (fun V x hb => fit_clo x f e i W.heap.size V ((hb.block _ (blk_lt hH1.bx)).trans hH1.bx))
      rw [hix] at hcall
      have HCALL := Aside0.mk hcall
      have HH3 := Aside0.mk hH1
      have HK := Aside0.mk (And.intro hk (And.intro hlt (And.intro hfe hh)))
      clear hlt hk hfe hix hC hcall hH1 hH hh hl
      go_wp2_with fail
      refine HCALL.out.mono ?_
      rintro e4 w4 ⟨rfl, hb4⟩
      have HB4 := Aside0.mk hb4
      have HDR := Aside0.mk (drop_calls (HH3.out.ts.below hb4) k HK.out.2.1 HLB.out)
      clear hb4 q0 q1 q2 q3 q4
      go_wp2_with fail
      refine HDR.out.mono ?_
      rintro e5 w5 ⟨rfl, hf5, hT5⟩
      have HF5 := Aside0.mk hf5
      have HT5 := Aside0.mk hT5
      clear hf5 hT5
      go_wp2
      go_roundg (osr.length - 1)
      case measure => have := HK.out.2.1; omega
      case rel =>
        have hlen : (osr.eraseIdx k).length = osr.length - 1 := List.length_eraseIdx_of_lt HK.out.2.1
        have hwz : W.heap.size < wr.heap.size := blk_lt HX.out
        have hbl := HH3.out.bl
        refine ⟨osr.eraseIdx k, by omega, ⟨(List.eraseIdx_sublist _ _).trans HC.out.1, ?_, ?_⟩, HT5, ⟨?_⟩, ⟨?_⟩⟩
        · rw [← HC.out.2.1, hlen, aOf_eraseIdx]
          obtain ⟨n, hn⟩ : ∃ n, osr.length = n + 1 := ⟨osr.length - 1, by have := HK.out.2.1; omega⟩
          rw [hn, Nat.add_sub_cancel]
          conv => rhs; unfold Room.fit
          rw [if_pos HK.out.2.2.2, HK.out.1]
        · rw [aOf_eraseIdx]; exact HK.out.2.2.1
        · exact ((HF.out.then_ (Fr.of_below (own := fun _ => False) hbl) (fun _ _ h => h.elim)).then_ (Fr.of_below (own := fun _ => False) HB4.out) (fun _ _ h => h.elim)).then_ HF5.out (fun q _ hq => hq)
        · have h4 : w4.heap[W.heap.size]? = w3.heap[W.heap.size]? := HB4.out.block _ (blk_lt HH3.out.bx)
          rw [HF5.out.block _ (blk_lt (h4.trans HH3.out.bx)) (fun e => by have := HTL.out _ e; omega), h4]
          exact HH3.out.bx
    · go_wp2
      refine start_ (n := 8) (S := FitS own t W.heap.size L f e i osr wr) (ds := []) #[false, false, false, false, false, false, false, false] (by kernel_rfl) rfl rfl hs0 (fun hH => ?_)
      rw [hX] at hH ⊢
      clear hs0 hX
      refine pure_ (i := 0) (N := some 4) (v := ?_) (a' := ?_) #[true, false, false, false, false, false, false, false] rfl rfl (by kernel_rfl) (fun _ _ _ h => h) (Or.inl ⟨by rfl, ?_⟩) ?_ ?_
      rotate_left
      · intro w'
        go_simp
        with_reducible rfl
      rotate_left
      · simp only [Act.put, List.setIfInBounds_toArray, List.set_cons_zero, List.set_cons_succ, i64_w, i32_w]
        rfl
      refine pure_ (i := 2) (N := some 6) (v := ?_) (a' := ?_) #[true, false, true, false, false, false, false, false] rfl rfl (by kernel_rfl) (fun _ _ _ h => h) (Or.inl ⟨by rfl, ?_⟩) ?_ ?_
      rotate_left
      · intro w'
        go_simp
        with_reducible rfl
      rotate_left
      · simp only [Act.put, List.setIfInBounds_toArray, List.set_cons_zero, List.set_cons_succ, i64_w, i32_w]
        rfl
      refine pure_ (i := 3) (N := some 7) (v := ?_) (a' := ?_) #[true, false, true, true, false, false, false, false] rfl rfl (by kernel_rfl) (fun _ _ _ h => h) (Or.inl ⟨by rfl, ?_⟩) ?_ ?_
      rotate_left
      · intro w'
        go_simp
        with_reducible rfl
      rotate_left
      · simp only [Act.put, List.setIfInBounds_toArray, List.set_cons_zero, List.set_cons_succ, i64_w, i32_w]
        rfl
      refine pure_ (i := 4) (N := some 8) (v := ?_) (a' := ?_) #[true, false, true, true, true, false, false, false] rfl rfl (by kernel_rfl) (fun _ _ _ h => h) (Or.inl ⟨by rfl, ?_⟩) ?_ ?_
      rotate_left
      · intro w'
        go_simp
        with_reducible rfl
      rotate_left
      · simp only [Act.put, List.setIfInBounds_toArray, List.set_cons_zero, List.set_cons_succ, i64_w, i32_w]
        rfl
      refine pure_ (i := 5) (N := some 9) (v := ?_) (a' := ?_) #[true, false, true, true, true, true, false, false] rfl rfl (by kernel_rfl) (fun _ _ _ h => h) (Or.inl ⟨by rfl, ?_⟩) ?_ ?_
      rotate_left
      · intro w'
        go_simp
        with_reducible rfl
      rotate_left
      · simp only [Act.put, List.setIfInBounds_toArray, List.set_cons_zero, List.set_cons_succ, i64_w, i32_w]
        rfl
      refine take_ (i := 6) (N := some 10) (v := ?_) (a' := ?_) #[true, false, true, true, true, true, true, false] rfl rfl (by kernel_rfl) (fun _ _ _ h => h) (Or.inl ⟨by rfl, ?_⟩) hH ?_ ?_
      rotate_left
      · rintro w' ⟨s0, _, _⟩
        obtain ⟨_, _, _, _, q2, _, _, _, _⟩ := s0.reads
        go_simp
        with_reducible rfl
      rotate_left
      · simp only [Act.put, List.setIfInBounds_toArray, List.set_cons_zero, List.set_cons_succ, i64_w, i32_w]
        rfl
      refine one_ (i := 1) (N := some 5) #[true, true, true, true, true, true, true, false] rfl rfl (by kernel_rfl) (by decide) (fun K hK => ?_)
      refine goes_ Try.func16 (by kernel_rfl) rfl #[.pointer (some ⟨t, 0, none⟩)] (by rfl) rfl rfl (by (try simp only [List.map_toArray, List.map_cons, List.map_nil]); first | done | rfl) ?_
      refine (held_calls hH.ts HHB.out HLB.out).mono ?_
      rintro e3 w3 ⟨rfl, hb3⟩
      refine ⟨_, rfl, ?_⟩
      have hS_ := hH.below hb3
      refine hK.out _ _ hS_ (fun hH1 => ?_)
      clear hS_ hb3
      clear hK K
      refine norm_ (a' := ?_) ?_ ?_
      rotate_left
      · show Act.put _ (some 5) _ = _
        simp only [Act.put, List.setIfInBounds_toArray, List.set_cons_zero, List.set_cons_succ, i64_w, i32_w]
        rfl
      refine pure_ (i := 7) (N := some 11) (v := ?_) (a' := ?_) #[true, true, true, true, true, true, true, true] rfl rfl (by kernel_rfl) (fun _ _ _ h => h) (Or.inl ⟨by rfl, ?_⟩) ?_ ?_
      rotate_left
      · intro w'
        go_simp
        with_reducible rfl
      rotate_left
      · simp only [Act.put, List.setIfInBounds_toArray, List.set_cons_zero, List.set_cons_succ, i64_w, i32_w]
        rfl
      refine done_ (by kernel_rfl) ?_
      have HH3 := Aside0.mk hH1
      clear hH hH1
      go_wp2
      go_end0
      refine ⟨rfl, HF.out.then_ (Fr.of_below (own := fun _ => False) HH3.out.bl) (fun _ _ h => h.elim), osr, HC.out.1, ?_, HH3.out.ts⟩
      rw [← HC.out.2.1]
      cases osr.length with
      | zero => rfl
      | succ n =>
        conv => rhs; unfold Room.fit
        rw [if_neg (show ¬ Room.held (aOf osr) > L.by_ by omega)]
#print axioms fit_calls
end Go.Proofs.Ytaeelmkpjgmdlaa.H

/- Mine. Chapter 22, by hand: a part more in one of a table's messages. -/
namespace Go.Proofs.Ytaeelmkpjgmdlaa.H
open Go Go.Proofs Go.RowKit Go.Lib Go.Proofs.Ytaeelmkpjgmdlaa.P Go.Proofs.YtaeelmkpjgmdlaaW.PrintWords Go.Proofs.YtaeelmkpjgmdlaaW.PrintLast Go.Proofs.YtaeelmkpjgmdlaaW.PrintMore Go.Proofs.YtaeelmkpjgmdlaaW.PrintFlat
set_option linter.unusedVariables false
set_option linter.unusedSimpArgs false
theorem row_cells {T : Nat} {W : World} {ok : Nat → Prop} {v : Value} {xs ys : List OB} (h : k7.R T W 0 ok v xs) (he : xs.map cellsB = ys.map cellsB) : k7.R T W 0 ok v ys := by
  have hl : xs.length = ys.length := by have := congrArg List.length he; simpa using this
  obtain ⟨h0, inner, ho, hr⟩ := h
  refine ⟨h0, inner, by rw [← hl]; exact ho, ?_⟩
  refine ⟨by rw [← hl]; exact hr.1, fun j p hj => ?_⟩
  have hj2 : (ys.map cellsB)[j]? = some (cellsB p) := by rw [List.getElem?_map, hj]; rfl
  rw [← he, List.getElem?_map] at hj2
  obtain ⟨x, hx, hxc⟩ := Option.map_eq_some_iff.1 hj2
  have h1 := hr.2 j x hx
  obtain ⟨a1, a2, a3⟩ := h1
  exact ⟨a1.trans hxc, a2, a3⟩
/-- A message with other parts, and more blocks. -/
def upd (o : OB) (ps : Room.Pt) (a b : Nat) : OB := ⟨{ o.a with ps := ps }, o.p, fun q => o.own q ∨ a ≤ q ∧ q < b⟩
theorem TS.set {own : Nat → Prop} {t : Nat} {L : Room.Lim} {os : List OB} {W W' : World} {k : Nat} {ps : Room.Pt} (h : TS own t L os W) (hk : k < os.length) (hf : Fr os[k].own W W')
    (hPA : PA (fun q => os[k].own q ∨ W.heap.size ≤ q ∧ q < W'.heap.size) os[k].p os[k].a.cnt ps W') :
    TS (fun q => own q ∨ W.heap.size ≤ q ∧ q < W'.heap.size) t L (os.set k (upd os[k] ps W.heap.size W'.heap.size)) W' := by
  obtain ⟨v, oB, h1, h2, h3⟩ := h.st
  obtain ⟨oL, hR, hL⟩ := h2.row
  have hm : os[k] ∈ os := List.getElem_mem _
  have hsz := hf.size
  have hnt : ¬ os[k].own t := fun e => (h3 t (h2.sub _ hm t e)).2 rfl
  have hLb := Kd.R_bound hR
  have tlt := h.lt t h.ot
  have hcells : os.map cellsB = (os.set k (upd os[k] ps W.heap.size W'.heap.size)).map cellsB := by
    rw [List.map_set]
    refine List.ext_getElem? fun j => ?_
    rw [List.getElem?_set]
    by_cases hj : k = j
    · subst hj
      rw [if_pos rfl, List.length_map, if_pos hk, List.getElem?_map, List.getElem?_eq_getElem hk]
      rfl
    · rw [if_neg hj]
  have hmem : ∀ x ∈ os.set k (upd os[k] ps W.heap.size W'.heap.size), x = upd os[k] ps W.heap.size W'.heap.size ∨ ∃ j, ∃ hj : j < os.length, j ≠ k ∧ x = os[j] := fun x hx => by
    obtain ⟨j, hj, rfl⟩ := List.getElem_of_mem hx
    rw [List.length_set] at hj
    by_cases hjk : k = j
    · subst hjk
      exact .inl (List.getElem_set_self _)
    · exact .inr ⟨j, hj, fun e => hjk e.symm, List.getElem_set_ne hjk _⟩
  have hap : ∀ i j (hi : i < os.length) (hj : j < os.length), i ≠ j → ∀ q, os[i].own q → ¬ os[j].own q := fun i j hi hj hij q h1 h2' => by
    rcases Nat.lt_or_ge i j with hlt | hge
    · exact List.pairwise_iff_getElem.1 h2.apart i j hi hj hlt q h1 h2'
    · exact List.pairwise_iff_getElem.1 h2.apart j i hj hi (by omega) q h2' h1
  refine ⟨.inl h.ot, ⟨v, fun q => (own q ∨ W.heap.size ≤ q ∧ q < W'.heap.size) ∧ q ≠ t, (hf.block t tlt hnt).trans h1, ?_, fun q hq => hq⟩, fun q hq => ?_⟩
  · refine ⟨⟨fun q => oL q ∧ q < W.heap.size, row_cells (Kd.R_mono (Kd.R_step hLb (fun q hq hlt => hf.block q hlt (fun e => (hL q hq.1).2 _ hm e))) (fun q hq => ⟨hq.1, hq.2.2.1⟩)) hcells, fun q hq => ⟨⟨.inl (h3 q (hL q hq.1).1).1, (h3 q (hL q hq.1).1).2⟩, fun x hx e => ?_⟩⟩, fun x hx => ?_, fun x hx q hq => ?_, ?_, fun q hq => ?_⟩
    · rcases hmem x hx with rfl | ⟨j, hj, hjk, rfl⟩
      · rcases e with e | e
        · exact (hL q hq.1).2 _ hm e
        · omega
      · exact (hL q hq.1).2 _ (List.getElem_mem _) e
    · rcases hmem x hx with rfl | ⟨j, hj, hjk, rfl⟩
      · exact hPA
      · exact OPA.fr _ W W' _ (h2.obj _ (List.getElem_mem _)) hf (fun q hq e => hap j k hj hk hjk q hq e)
    · rcases hmem x hx with rfl | ⟨j, hj, hjk, rfl⟩
      · rcases hq with hq | hq
        · exact ⟨.inl (h3 q (h2.sub _ hm q hq)).1, (h3 q (h2.sub _ hm q hq)).2⟩
        · exact ⟨.inr hq, by omega⟩
      · exact ⟨.inl (h3 q (h2.sub _ (List.getElem_mem _) q hq)).1, (h3 q (h2.sub _ (List.getElem_mem _) q hq)).2⟩
    · rw [List.pairwise_iff_getElem]
      intro i j hi hj hij q hq1 hq2
      rw [List.length_set] at hi hj
      by_cases hik : k = i
      · subst hik
        rw [List.getElem_set_self] at hq1
        rw [List.getElem_set_ne (by omega)] at hq2
        rcases hq1 with hq1 | hq1
        · exact hap k j hi hj (by omega) q hq1 hq2
        · have := h2.lt q (h2.sub _ (List.getElem_mem _) q hq2)
          omega
      · rw [List.getElem_set_ne hik] at hq1
        by_cases hjk : k = j
        · subst hjk
          rw [List.getElem_set_self] at hq2
          rcases hq2 with hq2 | hq2
          · exact hap i k hi hj (by omega) q hq1 hq2
          · have := h2.lt q (h2.sub _ (List.getElem_mem _) q hq1)
            omega
        · rw [List.getElem_set_ne hjk] at hq2
          exact hap i j hi hj (by omega) q hq1 hq2
    · rcases hq.1 with h' | h'
      · have := h.lt q h'
        omega
      · exact h'.2
  · rcases hq with h' | h'
    · have := h.lt q h'
      omega
    · exact h'.2
theorem aOf_set (os : List OB) (k : Nat) (o : OB) : aOf (os.set k o) = (aOf os).set k o.a := List.map_set
theorem TS.own_of {own : Nat → Prop} {t : Nat} {L : Room.Lim} {os : List OB} {W : World} (h : TS own t L os W) {o : OB} (ho : o ∈ os) (q : Nat) (hq : o.own q) : own q := by
  obtain ⟨v, oB, h1, h2, h3⟩ := h.st
  exact (h3 q (h2.sub o ho q hq)).1
end Go.Proofs.Ytaeelmkpjgmdlaa.H

/- Mine. Chapter 22: what stays true of a table, in plain Lean. -/
namespace Go.Proofs.Ytaeelmkpjgmdlaa.H
set_option linter.unusedVariables false
set_option linter.unusedSimpArgs false
def okey (o : Room.OA) : Int × Int × Int := (o.fr, o.ep, o.id)
theorem isK_key {f e i : Int} {o : Room.OA} : Room.isK f e i o = true ↔ okey o = (f, e, i) := by
  rw [Room.isK_iff]
  unfold okey
  simp
theorem one_key {os : List Room.OA} (h : (os.map okey).Nodup) {x y : Room.OA} (hx : x ∈ os) (hy : y ∈ os) (hk : okey x = okey y) : x = y := by
  induction os with
  | nil => simp at hx
  | cons z r ih =>
    rw [List.map_cons, List.nodup_cons] at h
    rcases List.mem_cons.1 hx with rfl | hx
    · rcases List.mem_cons.1 hy with rfl | hy
      · rfl
      · exact absurd (List.mem_map.2 ⟨y, hy, hk.symm⟩) h.1
    · rcases List.mem_cons.1 hy with hy | hy
      · exact absurd (List.mem_map.2 ⟨x, hx, by rw [hk, hy]⟩) h.1
      · exact ih h.2 hx hy
theorem filter_one {f e i : Int} : ∀ {os : List Room.OA}, (os.map okey).Nodup → os.filter (Room.isK f e i) = [] ∨ ∃ o, o ∈ os ∧ os.filter (Room.isK f e i) = [o]
  | [], _ => .inl rfl
  | x :: r, h => by
    rw [List.map_cons, List.nodup_cons] at h
    by_cases hx : Room.isK f e i x = true
    · refine .inr ⟨x, by simp, ?_⟩
      rw [List.filter_cons, if_pos hx]
      congr 1
      rw [List.filter_eq_nil_iff]
      intro y hy hyk
      exact h.1 (List.mem_map.2 ⟨y, hy, by rw [isK_key.1 hyk, isK_key.1 hx]⟩)
    · rw [List.filter_cons, if_neg hx]
      rcases filter_one (f := f) (e := e) (i := i) h.2 with h1 | ⟨o, ho, h1⟩
      · exact .inl h1
      · exact .inr ⟨o, by simp [ho], h1⟩
/-- What is true of messages that are open, but of how much is held. -/
structure Mid (L : Room.Lim) (os : List Room.OA) : Prop where
  keys : (os.map okey).Nodup
  sz : ∀ o ∈ os, Room.size o.ps ≤ L.by_
  ln : (os.length : Int) ≤ L.op
  ct : ∀ o ∈ os, 1 ≤ o.cnt ∧ o.cnt ≤ 65535
structure LimOk (L : Room.Lim) : Prop where
  o1 : 1 ≤ L.op
  o2 : L.op ≤ 16
  b1 : 1 ≤ L.by_
  b2 : L.by_ ≤ 65536
  e1 : 1 ≤ L.ex
  e2 : L.ex ≤ 32
structure RInv (L : Room.Lim) (os : List Room.OA) : Prop extends Mid L os where
  hd : Room.held os ≤ L.by_
theorem Mid.sub {L : Room.Lim} {a b : List Room.OA} (h : Mid L b) (hs : a.Sublist b) : Mid L a :=
  ⟨h.keys.sublist (hs.map _), fun o ho => h.sz o (hs.subset ho), by have := hs.length_le; have := h.ln; omega, fun o ho => h.ct o (hs.subset ho)⟩
theorem RInv.sub {L : Room.Lim} {a b : List Room.OA} (h : RInv L b) (hs : a.Sublist b) : RInv L a := ⟨h.toMid.sub hs, by have := held_sub hs; have := h.hd; omega⟩
theorem RInv.nil {L : Room.Lim} (h : LimOk L) : RInv L [] := ⟨⟨List.nodup_nil, fun o ho => by simp at ho, by have := h.o1; simp; omega, fun o ho => by simp at ho⟩, by have := h.b1; show (0 : Int) ≤ _; omega⟩
theorem Mid.fits {L : Room.Lim} (hl : LimOk L) {os : List Room.OA} (h : Mid L os) (f e i : Int) : Fits L f e i os := by
  unfold Fits
  rcases filter_one (f := f) (e := e) (i := i) h.keys with h1 | ⟨o, ho, h1⟩
  · rw [h1]; have := hl.b1; show (0 : Int) ≤ _; omega
  · rw [h1, Room.held_cons]
    have := h.sz o ho
    show Room.size o.ps + 0 ≤ _
    omega
theorem fit_sub (L : Room.Lim) (f e i : Int) : ∀ (n : Nat) (os : List Room.OA), (Room.fit L f e i n os).Sublist os
  | 0, os => List.Sublist.refl _
  | n + 1, os => by
    unfold Room.fit
    split
    · exact (fit_sub L f e i n _).trans (List.eraseIdx_sublist _ _)
    · exact List.Sublist.refl _
theorem mem_erase {α : Type} {p : α → Bool} : ∀ {l : List α} {k : Nat} (hk : k < l.length), p l[k] = false → ∀ x ∈ l, p x = true → x ∈ l.eraseIdx k
  | y :: r, 0, hk, hp, x, hx, hpx => by
    rcases List.mem_cons.1 hx with rfl | hx
    · rw [List.getElem_cons_zero, hpx] at hp; cases hp
    · rw [List.eraseIdx_cons_zero]; exact hx
  | y :: r, k + 1, hk, hp, x, hx, hpx => by
    rw [List.eraseIdx_cons_succ]
    rcases List.mem_cons.1 hx with rfl | hx
    · simp
    · exact List.mem_cons_of_mem _ (mem_erase (p := p) (l := r) (k := k) (by simpa using hk) hp x hx hpx)
theorem fit_keep (L : Room.Lim) (f e i : Int) : ∀ (n : Nat) (os : List Room.OA) (x : Room.OA), x ∈ os → Room.isK f e i x = true → x ∈ Room.fit L f e i n os
  | 0, os, x, hx, _ => hx
  | n + 1, os, x, hx, hk => by
    unfold Room.fit
    split
    · refine fit_keep L f e i n _ x ?_ hk
      by_cases hlt : Room.idx (fun o => !Room.isK f e i o) os < os.length
      · exact mem_erase (p := Room.isK f e i) hlt (by have := Room.idx_hit hlt; simpa using this) x hx hk
      · rw [List.eraseIdx_of_length_le (by omega)]; exact hx
    · exact hx
theorem fit_held (L : Room.Lim) (f e i : Int) : ∀ (n : Nat) (os : List Room.OA), os.length ≤ n → Fits L f e i os → 0 ≤ L.by_ → Room.held (Room.fit L f e i n os) ≤ L.by_
  | 0, os, hl, hf, h0 => by
    obtain rfl : os = [] := List.eq_nil_of_length_eq_zero (by omega)
    exact h0
  | n + 1, os, hl, hf, h0 => by
    unfold Room.fit
    split
    · rename_i hh
      have hlt := hf.some hh
      refine fit_held L f e i n _ ?_ (hf.erase hlt) h0
      rw [List.length_eraseIdx_of_lt hlt]; omega
    · omega
/-- The one whose part came is there behind fit, where it is found. -/
theorem fit_at {L : Room.Lim} {f e i : Int} {n : Nat} {os : List Room.OA} (h : (os.map okey).Nodup) {o : Room.OA} (ho : o ∈ os) (hk : Room.isK f e i o = true) :
    Room.idx (Room.isK f e i) (Room.fit L f e i n os) < (Room.fit L f e i n os).length ∧ (Room.fit L f e i n os)[Room.idx (Room.isK f e i) (Room.fit L f e i n os)]? = some o := by
  have hm := fit_keep L f e i n os o ho hk
  have hlt := Room.idx_lt (p := Room.isK f e i) ⟨o, hm, hk⟩
  refine ⟨hlt, ?_⟩
  rw [List.getElem?_eq_getElem hlt]
  have h1 := Room.idx_hit hlt
  have h2 := (fit_sub L f e i n os).subset (List.getElem_mem hlt)
  rw [one_key h h2 ho (by rw [isK_key.1 h1, isK_key.1 hk])]
theorem fin_eq {L : Room.Lim} {f e i : Int} {os : List Room.OA} (h : (os.map okey).Nodup) {o : Room.OA} (ho : o ∈ os) (hk : Room.isK f e i o = true) :
    Room.fin L f e i os = if (o.ps.length : Int) = o.cnt then ((Room.fit L f e i os.length os).eraseIdx (Room.idx (Room.isK f e i) (Room.fit L f e i os.length os)), Room.whole o.ps o.cnt.toNat, true) else (Room.fit L f e i os.length os, [], false) := by
  unfold Room.fin
  simp only [(fit_at (L := L) (n := os.length) h ho hk).2]
theorem fin_inv {L : Room.Lim} (hl : LimOk L) {f e i : Int} {os : List Room.OA} (h : Mid L os) : RInv L (Room.fin L f e i os).1 := by
  have h1 : RInv L (Room.fit L f e i os.length os) := ⟨h.sub (fit_sub L f e i _ _), fit_held L f e i _ os (Nat.le_refl _) (h.fits hl f e i) (by have := hl.b1; omega)⟩
  unfold Room.fin
  simp only
  split
  · split
    · exact h1.sub (List.eraseIdx_sublist _ _)
    · exact h1
  · exact h1
theorem Mid.set {L : Room.Lim} {os : List Room.OA} (h : Mid L os) {k : Nat} {o : Room.OA} (ho : os[k]? = some o) (ps : Room.Pt) (hs : Room.size ps ≤ L.by_) : Mid L (os.set k { o with ps := ps }) := by
  have hk : k < os.length := (List.getElem?_eq_some_iff.1 ho).1
  have hok : os[k] = o := (List.getElem?_eq_some_iff.1 ho).2
  have hmem : o ∈ os := by rw [← hok]; exact List.getElem_mem _
  refine ⟨?_, fun x hx => ?_, by rw [List.length_set]; exact h.ln, fun x hx => ?_⟩
  · have : (os.set k { o with ps := ps }).map okey = os.map okey := by
      rw [List.map_set]
      refine List.ext_getElem? fun j => ?_
      rw [List.getElem?_set]
      by_cases hj : k = j
      · subst hj
        rw [if_pos rfl, List.length_map, if_pos hk, List.getElem?_map, ho]
        rfl
      · rw [if_neg hj]
    rw [this]; exact h.keys
  · rcases List.mem_or_eq_of_mem_set hx with hx | rfl
    · exact h.sz x hx
    · exact hs
  · rcases List.mem_or_eq_of_mem_set hx with hx | rfl
    · exact h.ct x hx
    · exact h.ct o hmem
theorem Mid.beg {L : Room.Lim} {os : List Room.OA} (hl : LimOk L) (h : Mid L os) {o : Room.OA} (hn : ∀ x ∈ os, okey x ≠ okey o) (hs : Room.size o.ps ≤ L.by_) (hc : 1 ≤ o.cnt ∧ o.cnt ≤ 65535) : Mid L (begA L os o) := by
  unfold begA
  obtain ⟨os1, h1, hsub, hlen⟩ : ∃ os1, (if (os.length : Int) ≥ L.op then os.eraseIdx 0 else os) = os1 ∧ os1.Sublist os ∧ (os1.length : Int) + 1 ≤ L.op := by
    split
    · refine ⟨_, rfl, List.eraseIdx_sublist _ _, ?_⟩
      have h1 := h.ln
      have h2 := hl.o1
      rw [List.length_eraseIdx_of_lt (by omega)]
      omega
    · exact ⟨_, rfl, List.Sublist.refl _, by omega⟩
  rw [h1]
  have hM := h.sub hsub
  refine ⟨?_, fun x hx => ?_, by rw [List.length_append]; simpa using hlen, fun x hx => ?_⟩
  · rw [List.map_append, List.nodup_append]
    refine ⟨hM.keys, by simp, fun a ha b hb e => ?_⟩
    obtain ⟨x, hx, rfl⟩ := List.mem_map.1 ha
    have hbo : b = okey o := by simpa using hb
    exact hn x (hsub.subset hx) (e.trans hbo)
  · rcases List.mem_append.1 hx with hx | hx
    · exact hM.sz x hx
    · rw [List.mem_singleton.1 hx]; exact hs
  · rcases List.mem_append.1 hx with hx | hx
    · exact hM.ct x hx
    · rw [List.mem_singleton.1 hx]; exact hc
theorem no_key {f e i : Int} {os : List Room.OA} (h : os[Room.idx (Room.isK f e i) os]? = none) : ∀ x ∈ os, Room.isK f e i x = false := by
  have h1 := List.getElem?_eq_none_iff.1 h
  have h2 := Room.idx_le (Room.isK f e i) os
  exact Room.idx_no (by omega)
theorem put_inv {L : Room.Lim} (hl : LimOk L) {os : List Room.OA} (h : RInv L os) (f : Int) (g : Room.GA) (hg : Gm g) : RInv L (Room.put L os f g).1 := by
  unfold Room.put
  simp only
  split
  · rename_i o ho
    split
    · exact h
    · split
      · exact h
      · split
        · exact h
        · split
          · exact h.sub (List.eraseIdx_sublist _ _)
          · refine fin_inv hl (h.toMid.set ho _ ?_)
            rw [Room.size_snoc]
            omega
  · rename_i ho
    split
    · exact h
    · rename_i hge
      split
      · exact h
      · rename_i hsz
        refine fin_inv hl (h.toMid.beg (o := ⟨f, g.ep, g.id, g.cnt, g.ver, 0, [(g.ix, g.body)]⟩) hl (fun x hx e => ?_) ?_ ?_)
        · have h1 := no_key ho x hx
          have h2 : Room.isK f g.ep g.id x = true := isK_key.2 e
          rw [h1] at h2; cases h2
        · show Room.size ([] ++ [(g.ix, g.body)]) ≤ L.by_
          rw [Room.size_snoc]
          have : Room.size [] = 0 := rfl
          omega
        · unfold Gm at hg
          exact ⟨by show 1 ≤ g.cnt; omega, hg.2.2.2.1⟩
end Go.Proofs.Ytaeelmkpjgmdlaa.H

/- Mine. Chapter 22, by hand: Put of the table. -/
namespace Go.Proofs.Ytaeelmkpjgmdlaa.H
open Go Go.Proofs Go.RowKit Go.Lib Go.Proofs.Ytaeelmkpjgmdlaa.P Go.Proofs.YtaeelmkpjgmdlaaW.PrintWords Go.Proofs.YtaeelmkpjgmdlaaW.PrintLast Go.Proofs.YtaeelmkpjgmdlaaW.PrintMore Go.Proofs.YtaeelmkpjgmdlaaW.PrintFlat
set_option linter.unusedVariables false
set_option linter.unusedSimpArgs false
/-- Bytes that stay, whatever is written of one's own, or of what was there ahead. -/
def Stay (own : Nat → Prop) (W w : World) (A : Option Addr) (bs : List Int) : Prop := ∀ (S : Nat → Prop) (U : World), Fr S w U → (∀ q, S q → own q ∨ q < W.heap.size) → Kd.C (Kd.int .u8) U A bs.length bs
def PutP (own : Nat → Prop) (t : Nat) (L : Room.Lim) (r : List Room.OA × List Int × Bool × Int) (W : World) (e' : Ending) (w' : World) : Prop :=
  Fr own W w' ∧ ∃ own' os' v, TS own' t L os' w' ∧ (∀ q, own' q → own q ∨ W.heap.size ≤ q) ∧ aOf os' = r.1 ∧ e' = .returned (.tuple #[v, .bool r.2.2.1, .int .i64 r.2.2.2]) ∧ ∃ A c, v = .slice A r.2.1.length c ∧ r.2.1.length ≤ c ∧ Stay own' W w' A r.2.1
theorem nil_C (own : Nat → Prop) (W w : World) : ∃ A c, Value.slice none 0 0 = .slice A ([] : List Int).length c ∧ ([] : List Int).length ≤ c ∧ Stay own W w A [] := ⟨none, 0, rfl, Nat.zero_le _, fun _ _ _ _ => ⟨rfl, Nat.zero_le _, fun h => absurd h (Nat.lt_irrefl _)⟩⟩
theorem put_none {own : Nat → Prop} {t : Nat} {L : Room.Lim} {os' : List OB} {r : List Room.OA × List Int × Bool × Int} {W w' : World} {c : Int} (hr : r = (aOf os', [], false, c)) (hf : Fr own W w') (h : TS own t L os' w') : PutP own t L r W (.returned (.tuple #[.slice none 0 0, .bool false, .int .i64 c])) w' := by
  subst hr
  exact ⟨hf, own, os', _, h, fun q hq => .inl hq, rfl, rfl, nil_C _ _ _⟩
theorem box3c {w : World} {g t : Nat} {c0 c1 c2 : Value} (h : w.heap[g]? = some (.cells #[c0, c1, c2] t (0, 0))) : w.cell? ⟨g, 0, none⟩ = some c0 ∧ w.cell? ⟨g, 1, none⟩ = some c1 ∧ w.cell? ⟨g, 2, none⟩ = some c2 := ⟨(blk_cell h 0).trans rfl, (blk_cell h 1).trans rfl, (blk_cell h 2).trans rfl⟩
theorem box7c {w : World} {g t : Nat} {c0 c1 c2 c3 c4 c5 c6 : Value} (h : w.heap[g]? = some (.cells #[c0, c1, c2, c3, c4, c5, c6] t (0, 0))) : w.cell? ⟨g, 0, none⟩ = some c0 ∧ w.cell? ⟨g, 1, none⟩ = some c1 ∧ w.cell? ⟨g, 2, none⟩ = some c2 ∧ w.cell? ⟨g, 3, none⟩ = some c3 ∧ w.cell? ⟨g, 4, none⟩ = some c4 ∧ w.cell? ⟨g, 5, none⟩ = some c5 ∧ w.cell? ⟨g, 6, none⟩ = some c6 :=
  ⟨(blk_cell h 0).trans rfl, (blk_cell h 1).trans rfl, (blk_cell h 2).trans rfl, (blk_cell h 3).trans rfl, (blk_cell h 4).trans rfl, (blk_cell h 5).trans rfl, (blk_cell h 6).trans rfl⟩
theorem dead_ok {own : Nat → Prop} {t : Nat} {L : Room.Lim} {os : List OB} {W : World} (h : TS own t L os W) : Calls Try.prog 25 #[.pointer (some ⟨t, 0, none⟩)] W fun e w' => e = .returned (.bool false) ∧ W = w' := by
  obtain ⟨A, c, g0, _⟩ := h.reads
  clear h
  go_enter Try.func25, Try.ntmps25
  go_wp2
  go_ret
  exact ⟨rfl, rfl⟩
theorem put_none' {own own' : Nat → Prop} {t : Nat} {L : Room.Lim} {os' : List OB} {r : List Room.OA × List Int × Bool × Int} {W w' : World} {c : Int} (hr : r = (aOf os', [], false, c)) (hf : Fr own W w') (h : TS own' t L os' w') (ho : ∀ q, own' q → own q ∨ W.heap.size ≤ q) : PutP own t L r W (.returned (.tuple #[.slice none 0 0, .bool false, .int .i64 c])) w' := by
  subst hr
  exact ⟨hf, own', os', _, h, ho, rfl, rfl, nil_C _ _ _⟩
theorem put_yes {own own' : Nat → Prop} {t : Nat} {L : Room.Lim} {os' : List OB} {r : List Room.OA × List Int × Bool × Int} {W w' : World} {c : Int} {bs : List Int} {A : Option Addr} {cc : Nat} (hr : r = (aOf os', bs, true, c)) (hf : Fr own W w') (h : TS own' t L os' w') (ho : ∀ q, own' q → own q ∨ W.heap.size ≤ q) (hl : bs.length ≤ cc) (hC : Stay own' W w' A bs) :
    PutP own t L r W (.returned (.tuple #[.slice A bs.length cc, .bool true, .int .i64 c])) w' := by
  subst hr
  exact ⟨hf, own', os', _, h, ho, rfl, rfl, A, cc, rfl, hl, hC⟩
theorem beg_last {L : Room.Lim} {os os1 : List Room.OA} {o : Room.OA} {k : Nat} (h : os1 = begA L os o) (hk : os1.length = k + 1) : os1[k]? = some o := by
  unfold begA at h
  subst h
  rw [List.length_append, List.length_singleton] at hk
  rw [List.getElem?_append_right (by omega), show k - (if (os.length : Int) ≥ L.op then os.eraseIdx 0 else os).length = 0 by omega]
  rfl
theorem beg_set {L : Room.Lim} {os os1 : List Room.OA} {o o' : Room.OA} {k : Nat} (h : os1 = begA L os o) (hk : os1.length = k + 1) : os1.set k o' = begA L os o' := by
  unfold begA at h ⊢
  subst h
  rw [List.length_append, List.length_singleton] at hk
  rw [List.set_append_right _ _ (by omega), show k - (if (os.length : Int) ≥ L.op then os.eraseIdx 0 else os).length = 0 by omega]
  rfl
theorem held_le {L : Room.Lim} {os : List Room.OA} (h : ∀ o ∈ os, Room.size o.ps ≤ L.by_) : Room.held os ≤ os.length * L.by_ := by
  induction os with
  | nil => simp [Room.held]
  | cons x r ih =>
    have h1 := h x (by simp)
    have h2 := ih (fun y hy => h y (by simp [hy]))
    rw [Room.held_cons, List.length_cons, show ((r.length + 1 : Nat) : Int) = (r.length : Int) + 1 by omega, Int.add_mul, Int.one_mul]
    omega
theorem one_key' {os : List OB} (h : ((aOf os).map okey).Nodup) {x y : OB} (hx : x ∈ os) (hy : y ∈ os) (hk : x.a = y.a) : x = y := by
  induction os with
  | nil => simp at hx
  | cons z r ih =>
    rw [show aOf (z :: r) = z.a :: aOf r from rfl, List.map_cons, List.nodup_cons] at h
    rcases List.mem_cons.1 hx with hx | hx
    · rcases List.mem_cons.1 hy with hy | hy
      · rw [hx, hy]
      · exact absurd (List.mem_map.2 ⟨y.a, List.mem_map.2 ⟨y, hy, rfl⟩, by rw [← hk, hx]⟩) h.1
    · rcases List.mem_cons.1 hy with hy | hy
      · exact absurd (List.mem_map.2 ⟨x.a, List.mem_map.2 ⟨x, hx, rfl⟩, by rw [hk, hy]⟩) h.1
      · exact ih h.2 hx hy
set_option maxHeartbeats 8000000 in
set_option maxRecDepth 100000 in
theorem put_calls {own : Nat → Prop} {t : Nat} {L : Room.Lim} {os : List OB} {W : World} (h : TS own t L os W) (hl : LimOk L) (hi : RInv L (aOf os)) (f : Int) (kd : Int) (g : Room.GA) (hg : Gm g) (A : Option Addr) (cp : Nat) (hcp : g.body.length ≤ cp)
    (hbody : ∀ V, Fr own W V → Kd.C (Kd.int .u8) V A g.body.length g.body) :
    Calls Try.prog 13 #[.pointer (some ⟨t, 0, none⟩), .int .u16 f, .agg #[.int .u8 kd, .int .u8 g.ver, .int .u32 g.ep, .int .u32 g.id, .int .u16 g.ix, .int .u16 g.cnt, .slice A g.body.length cp]] W (PutP own t L (Room.put L (aOf os) f g) W) := by
  obtain ⟨V, hV⟩ : ∃ V, ((W.alloc (.cells #[.int .u8 kd, .int .u8 g.ver, .int .u32 g.ep, .int .u32 g.id, .int .u16 g.ix, .int .u16 g.cnt, .slice A g.body.length cp] 38)).alloc (.cells #[.int .u16 f, .int .u32 g.ep, .int .u32 g.id] 66)) = V := ⟨_, rfl⟩
  obtain ⟨hbV, hsV, e5, e9⟩ := alloc2 hV
  have hTV := h.below hbV
  obtain ⟨B, c, g0, g1, g2, g3, g4, hlc, hC⟩ := hTV.reads
  have HI := Aside0.mk hi
  have HLM := Aside0.mk hl
  have HGM := Aside0.mk hg
  have HCP := Aside0.mk hcp
  have HBD := Aside0.mk hbody
  have HTL := Aside0.mk h.lt
  have HBV := Aside0.mk hbV
  have HTV := Aside0.mk hTV
  have HE5 := Aside0.mk e5
  have HE9 := Aside0.mk e9
  have HSV := Aside0.mk hsV
  have HDEAD := Aside0.mk (dead_ok (h.below (below_alloc (Below.refl _ _) (.cells #[.int .u8 kd, .int .u8 g.ver, .int .u32 g.ep, .int .u32 g.id, .int .u16 g.ix, .int .u16 g.cnt, .slice A g.body.length cp] 38))))
  have HFIND := Aside0.mk (find_calls hTV f g.ep g.id)
  clear h hl hi hg hcp hbody hbV hsV e5 e9 hTV hC g0 g1 g2 g3 g4 hlc
  go_enter Try.func13, Try.ntmps13
  go_wp2_with fail
  refine HDEAD.out.mono ?_
  rintro e1 w1 ⟨rfl, rfl⟩
  obtain ⟨u0, u1, u2⟩ := box3c HE9.out
  go_wp2_with fail
  refine HFIND.out.mono ?_
  rintro e1 w1 ⟨rfl, hb1⟩
  have HX5 := Aside0.mk ((hb1.block _ (blk_lt HE5.out)).trans HE5.out)
  have HX9 := Aside0.mk ((hb1.block _ (blk_lt HE9.out)).trans HE9.out)
  have HB1 := Aside0.mk (below_then HBV.out HBV.out.size hb1)
  have HT1 := Aside0.mk (HTV.out.below hb1)
  obtain ⟨v0, v1, v2, v3, v4, v5, v6⟩ := box7c HX5.out
  obtain ⟨k, hk⟩ : ∃ k, Room.idx (Room.isK f g.ep g.id) (aOf os) = k := ⟨_, rfl⟩
  have HK := Aside0.mk hk
  have hSm : Sm L os := ⟨by have h1 := HI.out.ln; have h2 := HLM.out.o2; rw [aOf_len] at h1; omega, by have h1 := HI.out.hd; have h2 := HLM.out.b2; omega, ⟨by have := HLM.out.b1; omega, HLM.out.b2⟩, fun o ho => HI.out.ct o.a (List.mem_map.2 ⟨o, ho, rfl⟩)⟩
  have HSM := Aside0.mk hSm
  clear hb1 u0 u1 u2 HFIND HDEAD hSm hV
  by_cases hlt : k < os.length
  · have hix : Room.ixI (Room.isK f g.ep g.id) (os.map OB.a) = (k : Int) := by
      unfold Room.ixI
      rw [show os.map OB.a = aOf os from rfl, hk, aOf_len, if_pos hlt]
    rw [hix]
    clear hix hk
    obtain ⟨y, hy⟩ : ∃ y, os[k] = y := ⟨_, rfl⟩
    have hyA : (aOf os)[k]? = some y.a := by
      show (os.map OB.a)[k]? = _
      rw [List.getElem?_map, List.getElem?_eq_getElem hlt, hy]; rfl
    have HYA := Aside0.mk hyA
    have HY := Aside0.mk hy
    have HLT := Aside0.mk hlt
    clear hyA hy
    by_cases hge : g.cnt ≤ g.ix
    · have hwn : whyNot L (some y.a) g = 1 := by unfold whyNot; rw [if_pos hge]
      have HWN := Aside0.mk hwn
      have HGE := Aside0.mk hge
      have hgl : ¬ (g.ix < g.cnt) := by omega
      clear hwn
      have hre := refused_some HT1.out HSM.out k HLT.out kd g HGM.out A cp
      rw [HY.out, HWN.out] at hre
      have HRE := Aside0.mk hre
      clear hre
      go_wp2_with fail
      refine HRE.out.mono ?_
      rintro e3 w3 ⟨rfl, hb3⟩
      clear v0 v1 v2 v3 v4 v5 v6
      have HX5c := Aside0.mk ((hb3.block _ (blk_lt HX5.out)).trans HX5.out)
      have HX9c := Aside0.mk ((hb3.block _ (blk_lt HX9.out)).trans HX9.out)
      have HB1c := Aside0.mk (below_then HB1.out HB1.out.size hb3)
      have HT1c := Aside0.mk (HT1.out.below hb3)
      obtain ⟨v0, v1, v2, v3, v4, v5, v6⟩ := box7c HX5c.out
      clear hb3
      go_wp2_with fail
      go_ret3
      exact put_none (os' := os) (by unfold Room.put; simp only [HK.out, HYA.out]; rw [if_neg (by have := HGE.out; omega), if_pos HGE.out]) (Fr.of_below HB1c.out) HT1c.out
    · have hgl : g.ix < g.cnt := by omega
      have HGL := Aside0.mk hgl
      have hth := there_calls HT1.out HSM.out k hlt kd g HGM.out A cp
      rw [HY.out] at hth
      obtain ⟨b, hb⟩ : ∃ b, (decide (y.a.cnt = g.cnt) && decide (y.a.ver = g.ver) && Room.has y.a.ps g.ix) = b := ⟨_, rfl⟩
      rw [hb] at hth
      have HTH := Aside0.mk hth
      have HBB := Aside0.mk hb
      clear hth hge hb
      go_wp2_with fail
      refine HTH.out.mono ?_
      rintro e2 w2 ⟨rfl, hb2⟩
      clear v0 v1 v2 v3 v4 v5 v6
      have HX5b := Aside0.mk ((hb2.block _ (blk_lt HX5.out)).trans HX5.out)
      have HX9b := Aside0.mk ((hb2.block _ (blk_lt HX9.out)).trans HX9.out)
      have HB1b := Aside0.mk (below_then HB1.out HB1.out.size hb2)
      have HT1b := Aside0.mk (HT1.out.below hb2)
      obtain ⟨v0, v1, v2, v3, v4, v5, v6⟩ := box7c HX5b.out
      clear hb2
      cases b with
      | true =>
        go_wp2_with fail
        go_ret3
        exact put_none (os' := os) (by unfold Room.put; simp only [HK.out, HYA.out]; rw [if_pos (by have := HBB.out; simp at this; exact ⟨HGL.out, this.1.1, this.1.2, this.2⟩)]) (Fr.of_below HB1b.out) HT1b.out
      | false =>
        have HNB : Aside0 (¬ (g.ix < g.cnt ∧ y.a.cnt = g.cnt ∧ y.a.ver = g.ver ∧ Room.has y.a.ps g.ix = true)) := ⟨fun h => by have := HBB.out; rw [decide_eq_true h.2.1, decide_eq_true h.2.2.1, h.2.2.2] at this; cases this⟩
        by_cases hmm : y.a.cnt ≠ g.cnt ∨ y.a.ver ≠ g.ver
        · have hwn : whyNot L (some y.a) g = 3 := by unfold whyNot; rw [if_neg (by omega)]; simp only [if_pos hmm]
          have HWN := Aside0.mk hwn
          have HMM := Aside0.mk hmm
          clear hwn hmm
          have hre := refused_some HT1b.out HSM.out k HLT.out kd g HGM.out A cp
          rw [HY.out, HWN.out] at hre
          have HRE := Aside0.mk hre
          clear hre
          go_wp2_with fail
          refine HRE.out.mono ?_
          rintro e3 w3 ⟨rfl, hb3⟩
          clear v0 v1 v2 v3 v4 v5 v6
          have HX5c := Aside0.mk ((hb3.block _ (blk_lt HX5b.out)).trans HX5b.out)
          have HX9c := Aside0.mk ((hb3.block _ (blk_lt HX9b.out)).trans HX9b.out)
          have HB1c := Aside0.mk (below_then HB1b.out HB1b.out.size hb3)
          have HT1c := Aside0.mk (HT1b.out.below hb3)
          obtain ⟨v0, v1, v2, v3, v4, v5, v6⟩ := box7c HX5c.out
          clear hb3
          go_wp2_with fail
          go_ret3
          exact put_none (os' := os) (by unfold Room.put; simp only [HK.out, HYA.out]; rw [if_neg HNB.out, if_neg (by have := HGL.out; omega), if_pos HMM.out]) (Fr.of_below HB1c.out) HT1c.out
        · by_cases hsz : Room.size y.a.ps > L.by_ - g.body.length
          · have hwn : whyNot L (some y.a) g = 10 := by unfold whyNot; rw [if_neg (by omega)]; simp only [if_neg hmm, if_pos hsz]
            have HWN := Aside0.mk hwn
            have HMM := Aside0.mk hmm
            have HSZ := Aside0.mk hsz
            clear hwn hmm hsz
            have hre := refused_some HT1b.out HSM.out k HLT.out kd g HGM.out A cp
            rw [HY.out, HWN.out] at hre
            have HRE := Aside0.mk hre
            clear hre
            go_wp2_with fail
            refine HRE.out.mono ?_
            rintro e3 w3 ⟨rfl, hb3⟩
            clear v0 v1 v2 v3 v4 v5 v6
            have HX5c := Aside0.mk ((hb3.block _ (blk_lt HX5b.out)).trans HX5b.out)
            have HX9c := Aside0.mk ((hb3.block _ (blk_lt HX9b.out)).trans HX9b.out)
            have HB1c := Aside0.mk (below_then HB1b.out HB1b.out.size hb3)
            have HT1c := Aside0.mk (HT1b.out.below hb3)
            obtain ⟨v0, v1, v2, v3, v4, v5, v6⟩ := box7c HX5c.out
            clear hb3
            have HDR := Aside0.mk (drop_calls HT1c.out k HLT.out (by have := HSM.out.1; omega))
            go_wp2_with fail
            refine HDR.out.mono ?_
            rintro e4 w4 ⟨rfl, hf4, hT4⟩
            have HF4 := Aside0.mk hf4
            have HT4 := Aside0.mk hT4
            clear hf4 hT4
            go_wp2_with fail
            go_ret3
            exact put_none (by unfold Room.put; simp only [HK.out, HYA.out]; rw [if_neg HNB.out, if_neg (by have := HGL.out; omega), if_neg HMM.out, if_pos HSZ.out, aOf_eraseIdx]) ((Fr.of_below HB1c.out).then_ HF4.out (fun q _ hq => hq)) HT4.out
          · have hwn : whyNot L (some y.a) g = 0 := by unfold whyNot; rw [if_neg (by omega)]; simp only [if_neg hmm, if_neg hsz]
            have HWN := Aside0.mk hwn
            have HMM := Aside0.mk hmm
            have HSZ := Aside0.mk hsz
            clear hwn hmm hsz
            have hre := refused_some HT1b.out HSM.out k HLT.out kd g HGM.out A cp
            rw [HY.out, HWN.out] at hre
            have HRE := Aside0.mk hre
            clear hre
            go_wp2_with fail
            refine HRE.out.mono ?_
            rintro e3 w3 ⟨rfl, hb3⟩
            clear v0 v1 v2 v3 v4 v5 v6
            have HX5c := Aside0.mk ((hb3.block _ (blk_lt HX5b.out)).trans HX5b.out)
            have HX9c := Aside0.mk ((hb3.block _ (blk_lt HX9b.out)).trans HX9b.out)
            have HB1c := Aside0.mk (below_then HB1b.out HB1b.out.size hb3)
            have HT1c := Aside0.mk (HT1b.out.below hb3)
            obtain ⟨v0, v1, v2, v3, v4, v5, v6⟩ := box7c HX5c.out
            clear hb3
            have HLT1 := Aside0.mk HLT.out
            have HY1 := Aside0.mk HY.out
            have HCT : Aside0 (y.a.cnt = g.cnt) := ⟨Classical.byContradiction fun h => HMM.out (.inl h)⟩
            have HNH : Aside0 (Room.has y.a.ps g.ix = false) := ⟨by
              have h1 : y.a.ver = g.ver := Classical.byContradiction fun h => HMM.out (.inr h)
              cases hh : Room.has y.a.ps g.ix with
              | false => rfl
              | true => exact absurd ⟨HGL.out, HCT.out, h1, hh⟩ HNB.out⟩
            have HSZ1 : Aside0 (Room.size y.a.ps ≤ L.by_ - g.body.length) := ⟨by have := HSZ.out; omega⟩
            have HK1 : Aside0 (Room.isK f g.ep g.id y.a = true) := ⟨by
              have h1 : Room.idx (Room.isK f g.ep g.id) (aOf os) < (aOf os).length := by rw [HK.out, aOf_len]; exact HLT.out
              have h2 := Room.idx_hit h1
              have h3 := HYA.out
              rw [← HK.out, List.getElem?_eq_getElem h1] at h3
              rw [← Option.some.inj h3]; exact h2⟩
            have HM : Aside0 (Mid L ((aOf os).set k { y.a with ps := y.a.ps ++ [(g.ix, g.body)] })) := ⟨HI.out.toMid.set HYA.out _ (by rw [Room.size_snoc]; have := HSZ1.out; omega)⟩
            have HOW : Aside0 (∀ q, own q → own q ∨ V.heap.size ≤ q) := ⟨fun q h => .inl h⟩
            have HFR := Aside0.mk (Fr.of_below (own := own) HB1c.out)
            have HRP : Aside0 (Room.put L (aOf os) f g = ((Room.fin L f g.ep g.id ((aOf os).set k { y.a with ps := y.a.ps ++ [(g.ix, g.body)] })).1, (Room.fin L f g.ep g.id ((aOf os).set k { y.a with ps := y.a.ps ++ [(g.ix, g.body)] })).2.1, (Room.fin L f g.ep g.id ((aOf os).set k { y.a with ps := y.a.ps ++ [(g.ix, g.body)] })).2.2, 0)) := ⟨by unfold Room.put; simp only [HK.out, HYA.out]; rw [if_neg HNB.out, if_neg (by have := HGL.out; omega), if_neg HMM.out, if_neg (show ¬ Room.size y.a.ps > L.by_ - g.body.length by have := HSZ1.out; omega)]⟩
            have HVW : Aside0 (V.heap.size ≤ w3.heap.size) := ⟨by have h1 := HB1c.out.size; have h2 := HSV.out; have h3 := blk_lt HX9c.out; omega⟩
            have hwx : wrap64 g.ix = g.ix := by have := HGM.out; unfold Gm at this; unfold wrap64; omega
            obtain ⟨A1, c1, j0, j1, j2, j3, j4, hl1, hC1⟩ := HT1c.out.reads
            obtain ⟨ad, e1, _, _, _, _, _, _, hx6⟩ := at7 hC1 (k : Int) (by omega) (by have := HLT.out; omega)
            cases e1
            simp only [Int.toNat_natCast] at hx6
            rw [rd7_eq HLT.out, HY.out] at hx6
            have p0 : (0 ≤ (k : Int)) = True := eq_true (by omega)
            have p1 : ((k : Int) < (os.length : Int)) = True := eq_true (by have := HLT.out; omega)
            have hmem : y ∈ os := by rw [← HY.out]; exact List.getElem_mem _
            have hadd := add_ok (HT1c.out.obj y hmem) g.ix (by have := HGM.out; exact this.1) (by have h1 := HGL.out; have h2 := HCT.out; omega) (by have h1 := HGM.out.2.2.2.1; have h2 := HCT.out; omega) HNH.out A cp g.body HCP.out (fun U hU => HBD.out U (HFR.out.then_ hU (fun q hq h => (HOW.out q (HT1c.out.own_of hmem q h)).resolve_right (by have := HSV.out; omega)))) (by have := HGM.out.2.2.2.2; omega) (by have h1 := HSZ1.out; have h2 := HLM.out.b2; omega)
            have HADD := Aside0.mk hadd
            have HMEM := Aside0.mk hmem
            clear hadd hmem hC1 j0 j1 j2 j3 hl1
            go_wp2_with fail
            refine HADD.out.mono ?_
            rintro e4 w4 ⟨rfl, hf4, hPA4⟩
            have hT4 := HT1c.out.set (W' := w4) (ps := y.a.ps ++ [(g.ix, g.body)]) HLT.out
            rw [HY.out] at hT4
            replace hT4 := hT4 hf4 hPA4
            obtain ⟨o2, ho2⟩ : ∃ o2, upd y (y.a.ps ++ [(g.ix, g.body)]) w3.heap.size w4.heap.size = o2 := ⟨_, rfl⟩
            obtain ⟨os2, hos2⟩ : ∃ os2, os.set k o2 = os2 := ⟨_, rfl⟩
            rw [ho2, hos2] at hT4
            have ha2 : aOf os2 = (aOf os).set k { y.a with ps := y.a.ps ++ [(g.ix, g.body)] } := by rw [← hos2, aOf_set, ← ho2]; rfl
            have hm2 : Mid L (aOf os2) := by rw [ha2]; exact HM.out
            have hl2 : os2.length = os.length := by rw [← hos2, List.length_set]
            have hmo : o2 ∈ os2 := by rw [← hos2]; exact List.mem_set HLT.out o2
            have hko : Room.isK f g.ep g.id o2.a = true := by rw [← ho2]; exact HK1.out
            have hpo : o2.p = y.p := by rw [← ho2]; rfl
            have hco : o2.a.cnt = g.cnt := by rw [← ho2]; exact HCT.out
            have hx9 := (hf4.block _ (blk_lt HX9c.out) (fun e => by have h1 := HOW.out _ (HT1c.out.own_of HMEM.out _ e); have h2 := HSV.out; rcases h1 with h1 | h1; (have := HTL.out _ h1; omega); omega)).trans HX9c.out
            have hs2 : Sm L os2 := ⟨by have h1 := hm2.ln; have h2 := HLM.out.o2; rw [aOf_len] at h1; omega, by
              have h1 := held_le hm2.sz
              have h2 := hm2.ln
              have h3 := HLM.out.o2
              have h4 := HLM.out.b2
              have h5 : ((aOf os2).length : Int) * L.by_ ≤ 16 * 65536 := Int.mul_le_mul (by omega) h4 (by have := HLM.out.b1; omega) (by omega)
              omega, ⟨by have := HLM.out.b1; omega, HLM.out.b2⟩, fun o ho => hm2.ct o.a (List.mem_map.2 ⟨o, ho, rfl⟩)⟩
            have HFIT := Aside0.mk (fit_calls hT4 hs2 f g.ep g.id (hm2.fits HLM.out f g.ep g.id))
            have HF4 : Aside0 (Fr own W w4) := ⟨HFR.out.then_ hf4 (fun q hq h => (HOW.out q (HT1c.out.own_of HMEM.out q h)).resolve_right (by have := HSV.out; omega))⟩
            have HO4 : Aside0 (∀ q, (own q ∨ w3.heap.size ≤ q ∧ q < w4.heap.size) → own q ∨ V.heap.size ≤ q) := ⟨fun q hq => by
              rcases hq with hq | hq
              · exact HOW.out q hq
              · have h1 := HVW.out
                exact .inr (by omega)⟩
            have HX9d := Aside0.mk hx9
            have HA2 := Aside0.mk ha2
            have HM2 := Aside0.mk hm2
            have HL2 := Aside0.mk hl2
            have HMO := Aside0.mk hmo
            have HKO := Aside0.mk hko
            have HPO := Aside0.mk hpo
            have HCO := Aside0.mk hco
            have HPS2 : Aside0 (o2.a.ps = y.a.ps ++ [(g.ix, g.body)]) := ⟨by rw [← ho2]; rfl⟩
            have HLW : Aside0 (w3.heap.size ≤ w4.heap.size) := ⟨hf4.size⟩
            have HXL : Aside0 (W.heap.size + 1 < w3.heap.size) := ⟨blk_lt HX9c.out⟩
            obtain ⟨z0, z1, z2⟩ := box3c hx9
            clear hf4 hPA4 hT4 ho2 hos2 ha2 hm2 hl2 hmo hko hpo hco hx9 hs2 hx6 j4 v0 v1 v2 v3 v4 v5 v6 p0 p1
            go_wp2_with fail
            refine HFIT.out.mono ?_
            rintro e5 w5 ⟨rfl, hf5, os3, hs3, ha3, hT5⟩
            have hat := fit_at (L := L) (n := os2.length) HM2.out.keys (List.mem_map.2 ⟨o2, HMO.out, rfl⟩) HKO.out
            rw [← ha3] at hat
            obtain ⟨k3, hk3⟩ : ∃ k3, Room.idx (Room.isK f g.ep g.id) (aOf os3) = k3 := ⟨_, rfl⟩
            rw [hk3] at hat
            have hl3 : k3 < os3.length := by have := hat.1; rwa [aOf_len] at this
            have hm3 : o2 ∈ os3 := by
              have h1 : os3[k3].a = o2.a := by
                have h2 := hat.2
                rw [show aOf os3 = os3.map OB.a from rfl, List.getElem?_map, List.getElem?_eq_getElem hl3] at h2
                exact Option.some.inj h2
              have h4 : os3[k3] = o2 := one_key' HM2.out.keys (hs3.subset (List.getElem_mem _)) HMO.out h1
              rw [← h4]; exact List.getElem_mem _
            have hwh := whole_ok (hT5.obj o2 hm3) (by have h1 := HGM.out.2.2.2.1; have h2 := HCO.out; omega) (by have h1 := HGM.out.2.2.1; have h2 := HCO.out; omega) (by have h1 := HM2.out.sz _ (List.mem_map.2 ⟨o2, HMO.out, rfl⟩); have h2 := HLM.out.b2; omega)
            rw [HPO.out] at hwh
            have hl3' : os3.length ≤ 140737488355328 := by have h1 := hs3.length_le; have h2 := HM2.out.ln; rw [aOf_len] at h2; have h3 := HLM.out.o2; omega
            have HX9e := Aside0.mk ((hf5.block _ (blk_lt HX9d.out) (fun e => by have h1 := HO4.out _ e; have h2 := HSV.out; rcases h1 with h1 | h1; (have := HTL.out _ h1; omega); omega)).trans HX9d.out)
            have HF5 : Aside0 (Fr own W w5) := ⟨HF4.out.then_ hf5 (fun q hq h => (HO4.out q h).resolve_right (by have := HSV.out; omega))⟩
            have HT5 := Aside0.mk hT5
            have HWH := Aside0.mk hwh
            have HA3 := Aside0.mk ha3
            have HK3 := Aside0.mk hk3
            have HL3 := Aside0.mk hl3
            have HL3' := Aside0.mk hl3'
            have HO5 : Aside0 (∀ q, (own q ∨ w3.heap.size ≤ q ∧ q < w4.heap.size) → own q ∨ W.heap.size ≤ q) := ⟨fun q hq => (HO4.out q hq).imp id (fun h => by have := HSV.out; omega)⟩
            have HFIN := Aside0.mk (fin_eq (L := L) HM2.out.keys (List.mem_map.2 ⟨o2, HMO.out, rfl⟩) HKO.out)
            have HL2a : Aside0 ((aOf os2).length = os2.length) := ⟨aOf_len _⟩
            clear hf5 hT5 hs3 ha3 hk3 hl3 hl3' hm3 hwh hat z0 z1 z2
            go_wp2_with fail
            refine HWH.out.mono ?_
            rintro e6 w6 ⟨hb6, (⟨hne, rfl⟩ | ⟨heq, v, rfl, hR⟩)⟩
            · have HB6 := Aside0.mk hb6
              have HNE := Aside0.mk hne
              clear hb6 hne
              go_wp2_with fail
              go_ret3
              refine put_none' (os' := os3) ?_ (HF5.out.then_ (Fr.of_below (own := fun _ => False) HB6.out) (fun _ _ h => h.elim)) (HT5.out.below HB6.out) HO5.out
              rw [HRP.out, ← HA2.out, HFIN.out, if_neg (by have h1 := HNE.out; omega), HL2a.out, ← HA3.out]
            · obtain ⟨A6, c6, rfl, hl6, hC6⟩ := Kd.R_reads hR
              have hR6 := Aside0.mk hR
              have HB6 := Aside0.mk hb6
              have HEQ := Aside0.mk heq
              have HT6 := Aside0.mk (HT5.out.below hb6)
              have HX9f := Aside0.mk ((hb6.block _ (blk_lt HX9e.out)).trans HX9e.out)
              obtain ⟨z0, z1, z2⟩ := box3c HX9f.out
              have hfi := find_calls HT6.out f g.ep g.id
              have hix : Room.ixI (Room.isK f g.ep g.id) (os3.map OB.a) = (k3 : Int) := by
                unfold Room.ixI
                rw [show os3.map OB.a = aOf os3 from rfl, HK3.out, aOf_len, if_pos HL3.out]
              rw [hix] at hfi
              have HFI := Aside0.mk hfi
              have HL6 := Aside0.mk hl6
              clear hb6 heq hfi hix hl6 hC6 hR
              go_wp2_with fail
              refine HFI.out.mono ?_
              rintro e7 w7 ⟨rfl, hb7⟩
              have HB7 := Aside0.mk hb7
              have HDR := Aside0.mk (drop_calls (HT6.out.below hb7) k3 HL3.out HL3'.out)
              clear hb7 z0 z1 z2
              go_wp2_with fail
              refine HDR.out.mono ?_
              rintro e8 w8 ⟨rfl, hf8, hT8⟩
              have HF8 := Aside0.mk hf8
              have HT8 := Aside0.mk hT8
              clear hf8 hT8
              go_wp2_with fail
              go_ret3
              have hR7 := Kd.R_below hR6.out HB7.out
              have hR8 := Kd.R_step (Kd.R_bound hR7) (fun q hq hlt => HF8.out.block q hlt (fun e => by have h1 := HT5.out.lt q e; have h2 := hq.2.1; omega))
              refine put_yes (os' := os3.eraseIdx k3) ?_ (((HF5.out.then_ (Fr.of_below (own := fun _ => False) HB6.out) (fun _ _ h => h.elim)).then_ (Fr.of_below (own := fun _ => False) HB7.out) (fun _ _ h => h.elim)).then_ HF8.out (fun q hq h => (HO5.out q h).resolve_right (by omega))) HT8.out HO5.out HL6.out (fun S U hU hS => (Kd.R_reads' (Kd.R_step hR8 (fun q hq hlt => hU.block q hlt (fun e => by have h2 := hq.2.1; rcases hS q e with h1 | h1; (have := HT5.out.lt q h1; omega); (have := HF5.out.size; omega))))).2.2)
              rw [HRP.out, ← HA2.out, HFIN.out, if_pos HEQ.out, aOf_eraseIdx, HL2a.out, ← HA3.out, HK3.out]
  · have hix : Room.ixI (Room.isK f g.ep g.id) (os.map OB.a) = -1 := by
      unfold Room.ixI
      rw [show os.map OB.a = aOf os from rfl, hk, aOf_len, if_neg hlt]
    rw [hix]
    have hyn : (aOf os)[k]? = none := List.getElem?_eq_none_iff.2 (by rw [aOf_len]; omega)
    have HYN := Aside0.mk hyn
    clear hix hk hyn
    by_cases hge : g.cnt ≤ g.ix
    · have hwn : whyNot L none g = 1 := by unfold whyNot; rw [if_pos hge]
      have HWN := Aside0.mk hwn
      have HGE := Aside0.mk hge
      have hgl : ¬ (g.ix < g.cnt) := by omega
      clear hwn
      have hre := refused_none HT1.out HSM.out kd g HGM.out A cp
      rw [HWN.out] at hre
      have HRE := Aside0.mk hre
      clear hre
      go_wp2_with fail
      refine HRE.out.mono ?_
      rintro e3 w3 ⟨rfl, hb3⟩
      clear v0 v1 v2 v3 v4 v5 v6
      have HX5c := Aside0.mk ((hb3.block _ (blk_lt HX5.out)).trans HX5.out)
      have HX9c := Aside0.mk ((hb3.block _ (blk_lt HX9.out)).trans HX9.out)
      have HB1c := Aside0.mk (below_then HB1.out HB1.out.size hb3)
      have HT1c := Aside0.mk (HT1.out.below hb3)
      obtain ⟨v0, v1, v2, v3, v4, v5, v6⟩ := box7c HX5c.out
      clear hb3
      go_wp2_with fail
      go_ret3
      exact put_none (os' := os) (by unfold Room.put; simp only [HK.out, HYN.out]; rw [if_pos HGE.out]) (Fr.of_below HB1c.out) HT1c.out
    · have hgl : g.ix < g.cnt := by omega
      have HGL := Aside0.mk hgl
      have HTH := Aside0.mk (there_none t w1 kd g A cp)
      clear hge
      go_wp2_with fail
      refine HTH.out.mono ?_
      rintro e2 w2 ⟨rfl, hb2⟩
      clear v0 v1 v2 v3 v4 v5 v6
      have HX5b := Aside0.mk ((hb2.block _ (blk_lt HX5.out)).trans HX5.out)
      have HX9b := Aside0.mk ((hb2.block _ (blk_lt HX9.out)).trans HX9.out)
      have HB1b := Aside0.mk (below_then HB1.out HB1.out.size hb2)
      have HT1b := Aside0.mk (HT1.out.below hb2)
      obtain ⟨v0, v1, v2, v3, v4, v5, v6⟩ := box7c HX5b.out
      clear hb2
      by_cases hsz : 0 > L.by_ - (g.body.length : Int)
      · have hwn : whyNot L none g = 10 := by unfold whyNot; rw [if_neg (by omega)]; simp only [if_pos hsz]
        have HWN := Aside0.mk hwn
        have HSZ := Aside0.mk hsz
        clear hwn hsz
        have hre := refused_none HT1b.out HSM.out kd g HGM.out A cp
        rw [HWN.out] at hre
        have HRE := Aside0.mk hre
        clear hre
        go_wp2_with fail
        refine HRE.out.mono ?_
        rintro e3 w3 ⟨rfl, hb3⟩
        clear v0 v1 v2 v3 v4 v5 v6
        have HX5c := Aside0.mk ((hb3.block _ (blk_lt HX5b.out)).trans HX5b.out)
        have HX9c := Aside0.mk ((hb3.block _ (blk_lt HX9b.out)).trans HX9b.out)
        have HB1c := Aside0.mk (below_then HB1b.out HB1b.out.size hb3)
        have HT1c := Aside0.mk (HT1b.out.below hb3)
        obtain ⟨v0, v1, v2, v3, v4, v5, v6⟩ := box7c HX5c.out
        clear hb3
        go_wp2_with fail
        go_ret3
        exact put_none (os' := os) (by unfold Room.put; simp only [HK.out, HYN.out]; rw [if_neg (by have := HGL.out; omega), if_pos HSZ.out]) (Fr.of_below HB1c.out) HT1c.out
      · have hwn : whyNot L none g = 0 := by unfold whyNot; rw [if_neg (by omega)]; simp only [if_neg hsz]
        have HWN := Aside0.mk hwn
        have HSZ := Aside0.mk hsz
        clear hwn hsz
        have hre := refused_none HT1b.out HSM.out kd g HGM.out A cp
        rw [HWN.out] at hre
        have HRE := Aside0.mk hre
        clear hre
        go_wp2_with fail
        refine HRE.out.mono ?_
        rintro e3 w3 ⟨rfl, hb3⟩
        clear v0 v1 v2 v3 v4 v5 v6
        have HX5c := Aside0.mk ((hb3.block _ (blk_lt HX5b.out)).trans HX5b.out)
        have HX9c := Aside0.mk ((hb3.block _ (blk_lt HX9b.out)).trans HX9b.out)
        have HB1c := Aside0.mk (below_then HB1b.out HB1b.out.size hb3)
        have HT1c := Aside0.mk (HT1b.out.below hb3)
        obtain ⟨v0, v1, v2, v3, v4, v5, v6⟩ := box7c HX5c.out
        clear hb3
        have HBE := Aside0.mk (begin_calls HT1c.out HSM.out f kd g HGM.out (by have h1 := HGL.out; have h2 := HGM.out.1; omega) A cp HLM.out.o1)
        obtain ⟨s0, s1, s2⟩ := box3c HX9c.out
        go_wp2_with fail
        refine HBE.out.mono ?_
        rintro e4 wt ⟨os1, hTT, haT, h1T, rfl, hfT⟩
        clear s0 s1 s2 v0 v1 v2 v3 v4 v5 v6
        have hxx5 := (hfT.block _ (blk_lt HX5c.out) (fun e => by have := HTL.out _ e; omega)).trans HX5c.out
        have hxx9 := (hfT.block _ (blk_lt HX9c.out) (fun e => by have := HTL.out _ e; omega)).trans HX9c.out
        obtain ⟨v0, v1, v2, v3, v4, v5, v6⟩ := box7c hxx5
        obtain ⟨k1, hk1⟩ : ∃ k1 : Nat, os1.length = k1 + 1 := ⟨os1.length - 1, by omega⟩
        have hlt1 : k1 < os1.length := by omega
        obtain ⟨y1, hy1⟩ : ∃ y1, os1[k1] = y1 := ⟨_, rfl⟩
        have hya1 : y1.a = ⟨f, g.ep, g.id, g.cnt, g.ver, 0, []⟩ := by
          have h1 : (aOf os1)[k1]? = some y1.a := by
            show (os1.map OB.a)[k1]? = _
            rw [List.getElem?_map, List.getElem?_eq_getElem hlt1, hy1]; rfl
          have h2 := beg_last haT (by rw [aOf_len]; exact hk1)
          rw [h1] at h2
          exact Option.some.inj h2
        rw [show ((os1.length : Int) - 1) = (k1 : Int) by omega]
        have HXX5 := Aside0.mk hxx5
        have HXX9 := Aside0.mk hxx9
        have HTT := Aside0.mk hTT
        have HLT1 := Aside0.mk hlt1
        have HY1 := Aside0.mk hy1
        have HYA1 := Aside0.mk hya1
        have HCT : Aside0 (y1.a.cnt = g.cnt) := ⟨by rw [hya1]⟩
        have HNH : Aside0 (Room.has y1.a.ps g.ix = false) := ⟨by rw [hya1]; rfl⟩
        have HSZ1 : Aside0 (Room.size y1.a.ps ≤ L.by_ - g.body.length) := ⟨by rw [hya1]; show (0 : Int) ≤ _; have := HSZ.out; omega⟩
        have HK1 : Aside0 (Room.isK f g.ep g.id y1.a = true) := ⟨by rw [hya1]; exact Room.isK_iff.2 ⟨rfl, rfl, rfl⟩⟩
        have hset : (aOf os1).set k1 { y1.a with ps := y1.a.ps ++ [(g.ix, g.body)] } = begA L (aOf os) ⟨f, g.ep, g.id, g.cnt, g.ver, 0, [(g.ix, g.body)]⟩ := by
          rw [beg_set haT (by rw [aOf_len]; exact hk1), hya1]; rfl
        have HM : Aside0 (Mid L ((aOf os1).set k1 { y1.a with ps := y1.a.ps ++ [(g.ix, g.body)] })) := ⟨by
          rw [hset]
          refine HI.out.toMid.beg HLM.out (fun x hx e => ?_) ?_ ⟨by have h1 := HGL.out; have h2 := HGM.out.1; show 1 ≤ g.cnt; omega, HGM.out.2.2.2.1⟩
          · have h1 := no_key (f := f) (e := g.ep) (i := g.id) (by rw [HK.out]; exact HYN.out) x hx
            have h2 : Room.isK f g.ep g.id x = true := isK_key.2 e
            rw [h1] at h2; cases h2
          · show Room.size ([] ++ [(g.ix, g.body)]) ≤ L.by_
            rw [Room.size_snoc]
            have h1 : Room.size [] = 0 := rfl
            have := HSZ.out
            omega⟩
        have HOW : Aside0 (∀ q, (own q ∨ w3.heap.size ≤ q ∧ q < wt.heap.size) → own q ∨ V.heap.size ≤ q) := ⟨fun q h => h.imp id (fun h => by have h1 := HB1c.out.size; have h2 := HSV.out; have h3 := blk_lt HX9c.out; omega)⟩
        have HFR : Aside0 (Fr own W wt) := ⟨(Fr.of_below (own := own) HB1c.out).then_ hfT (fun q _ hq => hq)⟩
        have HRP : Aside0 (Room.put L (aOf os) f g = ((Room.fin L f g.ep g.id ((aOf os1).set k1 { y1.a with ps := y1.a.ps ++ [(g.ix, g.body)] })).1, (Room.fin L f g.ep g.id ((aOf os1).set k1 { y1.a with ps := y1.a.ps ++ [(g.ix, g.body)] })).2.1, (Room.fin L f g.ep g.id ((aOf os1).set k1 { y1.a with ps := y1.a.ps ++ [(g.ix, g.body)] })).2.2, 0)) := ⟨by
          rw [hset]
          unfold Room.put
          simp only [HK.out, HYN.out]
          rw [if_neg (by have := HGL.out; omega), if_neg (show ¬ 0 > L.by_ - (g.body.length : Int) by have := HSZ.out; omega)]
          rfl⟩
        have HVW : Aside0 (V.heap.size ≤ wt.heap.size) := ⟨by have h2 := HSV.out; have h3 := blk_lt hxx9; omega⟩
        clear hTT haT h1T hfT hxx5 hxx9 hk1 hy1 hya1 hset
        have hwx : wrap64 g.ix = g.ix := by have := HGM.out; unfold Gm at this; unfold wrap64; omega
        obtain ⟨A1, c1, j0, j1, j2, j3, j4, hl1, hC1⟩ := HTT.out.reads
        obtain ⟨ad, e1, _, _, _, _, _, _, hx6⟩ := at7 hC1 (k1 : Int) (by omega) (by have := HLT1.out; omega)
        cases e1
        simp only [Int.toNat_natCast] at hx6
        rw [rd7_eq HLT1.out, HY1.out] at hx6
        have p0 : (0 ≤ (k1 : Int)) = True := eq_true (by omega)
        have p1 : ((k1 : Int) < (os1.length : Int)) = True := eq_true (by have := HLT1.out; omega)
        have hmem : y1 ∈ os1 := by rw [← HY1.out]; exact List.getElem_mem _
        have hadd := add_ok (HTT.out.obj y1 hmem) g.ix (by have := HGM.out; exact this.1) (by have h1 := HGL.out; have h2 := HCT.out; omega) (by have h1 := HGM.out.2.2.2.1; have h2 := HCT.out; omega) HNH.out A cp g.body HCP.out (fun U hU => HBD.out U (HFR.out.then_ hU (fun q hq h => (HOW.out q (HTT.out.own_of hmem q h)).resolve_right (by have := HSV.out; omega)))) (by have := HGM.out.2.2.2.2; omega) (by have h1 := HSZ1.out; have h2 := HLM.out.b2; omega)
        have HADD := Aside0.mk hadd
        have HMEM := Aside0.mk hmem
        clear hadd hmem hC1 j0 j1 j2 j3 hl1
        go_wp2_with fail
        refine HADD.out.mono ?_
        rintro e4 w4 ⟨rfl, hf4, hPA4⟩
        have hT4 := HTT.out.set (W' := w4) (ps := y1.a.ps ++ [(g.ix, g.body)]) HLT1.out
        rw [HY1.out] at hT4
        replace hT4 := hT4 hf4 hPA4
        obtain ⟨o2, ho2⟩ : ∃ o2, upd y1 (y1.a.ps ++ [(g.ix, g.body)]) wt.heap.size w4.heap.size = o2 := ⟨_, rfl⟩
        obtain ⟨os2, hos2⟩ : ∃ os2, os1.set k1 o2 = os2 := ⟨_, rfl⟩
        rw [ho2, hos2] at hT4
        have ha2 : aOf os2 = (aOf os1).set k1 { y1.a with ps := y1.a.ps ++ [(g.ix, g.body)] } := by rw [← hos2, aOf_set, ← ho2]; rfl
        have hm2 : Mid L (aOf os2) := by rw [ha2]; exact HM.out
        have hl2 : os2.length = os1.length := by rw [← hos2, List.length_set]
        have hmo : o2 ∈ os2 := by rw [← hos2]; exact List.mem_set HLT1.out o2
        have hko : Room.isK f g.ep g.id o2.a = true := by rw [← ho2]; exact HK1.out
        have hpo : o2.p = y1.p := by rw [← ho2]; rfl
        have hco : o2.a.cnt = g.cnt := by rw [← ho2]; exact HCT.out
        have hx9 := (hf4.block _ (blk_lt HXX9.out) (fun e => by have h1 := HOW.out _ (HTT.out.own_of HMEM.out _ e); have h2 := HSV.out; rcases h1 with h1 | h1; (have := HTL.out _ h1; omega); omega)).trans HXX9.out
        have hs2 : Sm L os2 := ⟨by have h1 := hm2.ln; have h2 := HLM.out.o2; rw [aOf_len] at h1; omega, by
          have h1 := held_le hm2.sz
          have h2 := hm2.ln
          have h3 := HLM.out.o2
          have h4 := HLM.out.b2
          have h5 : ((aOf os2).length : Int) * L.by_ ≤ 16 * 65536 := Int.mul_le_mul (by omega) h4 (by have := HLM.out.b1; omega) (by omega)
          omega, ⟨by have := HLM.out.b1; omega, HLM.out.b2⟩, fun o ho => hm2.ct o.a (List.mem_map.2 ⟨o, ho, rfl⟩)⟩
        have HFIT := Aside0.mk (fit_calls hT4 hs2 f g.ep g.id (hm2.fits HLM.out f g.ep g.id))
        have HF4 : Aside0 (Fr own W w4) := ⟨HFR.out.then_ hf4 (fun q hq h => (HOW.out q (HTT.out.own_of HMEM.out q h)).resolve_right (by have := HSV.out; omega))⟩
        have HO4 : Aside0 (∀ q, ((fun q => own q ∨ w3.heap.size ≤ q ∧ q < wt.heap.size) q ∨ wt.heap.size ≤ q ∧ q < w4.heap.size) → own q ∨ V.heap.size ≤ q) := ⟨fun q hq => by
          rcases hq with hq | hq
          · exact HOW.out q hq
          · have h1 := HVW.out
            exact .inr (by omega)⟩
        have HX9d := Aside0.mk hx9
        have HA2 := Aside0.mk ha2
        have HM2 := Aside0.mk hm2
        have HL2 := Aside0.mk hl2
        have HMO := Aside0.mk hmo
        have HKO := Aside0.mk hko
        have HPO := Aside0.mk hpo
        have HCO := Aside0.mk hco
        have HPS2 : Aside0 (o2.a.ps = y1.a.ps ++ [(g.ix, g.body)]) := ⟨by rw [← ho2]; rfl⟩
        have HLW : Aside0 (wt.heap.size ≤ w4.heap.size) := ⟨hf4.size⟩
        have HXL : Aside0 (W.heap.size + 1 < wt.heap.size) := ⟨blk_lt HXX9.out⟩
        obtain ⟨z0, z1, z2⟩ := box3c hx9
        clear hf4 hPA4 hT4 ho2 hos2 ha2 hm2 hl2 hmo hko hpo hco hx9 hs2 hx6 j4 v0 v1 v2 v3 v4 v5 v6 p0 p1
        go_wp2_with fail
        refine HFIT.out.mono ?_
        rintro e5 w5 ⟨rfl, hf5, os3, hs3, ha3, hT5⟩
        have hat := fit_at (L := L) (n := os2.length) HM2.out.keys (List.mem_map.2 ⟨o2, HMO.out, rfl⟩) HKO.out
        rw [← ha3] at hat
        obtain ⟨k3, hk3⟩ : ∃ k3, Room.idx (Room.isK f g.ep g.id) (aOf os3) = k3 := ⟨_, rfl⟩
        rw [hk3] at hat
        have hl3 : k3 < os3.length := by have := hat.1; rwa [aOf_len] at this
        have hm3 : o2 ∈ os3 := by
          have h1 : os3[k3].a = o2.a := by
            have h2 := hat.2
            rw [show aOf os3 = os3.map OB.a from rfl, List.getElem?_map, List.getElem?_eq_getElem hl3] at h2
            exact Option.some.inj h2
          have h4 : os3[k3] = o2 := one_key' HM2.out.keys (hs3.subset (List.getElem_mem _)) HMO.out h1
          rw [← h4]; exact List.getElem_mem _
        have hwh := whole_ok (hT5.obj o2 hm3) (by have h1 := HGM.out.2.2.2.1; have h2 := HCO.out; omega) (by have h1 := HGM.out.2.2.1; have h2 := HCO.out; omega) (by have h1 := HM2.out.sz _ (List.mem_map.2 ⟨o2, HMO.out, rfl⟩); have h2 := HLM.out.b2; omega)
        rw [HPO.out] at hwh
        have hl3' : os3.length ≤ 140737488355328 := by have h1 := hs3.length_le; have h2 := HM2.out.ln; rw [aOf_len] at h2; have h3 := HLM.out.o2; omega
        have HX9e := Aside0.mk ((hf5.block _ (blk_lt HX9d.out) (fun e => by have h1 := HO4.out _ e; have h2 := HSV.out; rcases h1 with h1 | h1; (have := HTL.out _ h1; omega); omega)).trans HX9d.out)
        have HF5 : Aside0 (Fr own W w5) := ⟨HF4.out.then_ hf5 (fun q hq h => (HO4.out q h).resolve_right (by have := HSV.out; omega))⟩
        have HT5 := Aside0.mk hT5
        have HWH := Aside0.mk hwh
        have HA3 := Aside0.mk ha3
        have HK3 := Aside0.mk hk3
        have HL3 := Aside0.mk hl3
        have HL3' := Aside0.mk hl3'
        have HO5 : Aside0 (∀ q, ((fun q => own q ∨ w3.heap.size ≤ q ∧ q < wt.heap.size) q ∨ wt.heap.size ≤ q ∧ q < w4.heap.size) → own q ∨ W.heap.size ≤ q) := ⟨fun q hq => (HO4.out q hq).imp id (fun h => by have := HSV.out; omega)⟩
        have HFIN := Aside0.mk (fin_eq (L := L) HM2.out.keys (List.mem_map.2 ⟨o2, HMO.out, rfl⟩) HKO.out)
        have HL2a : Aside0 ((aOf os2).length = os2.length) := ⟨aOf_len _⟩
        clear hf5 hT5 hs3 ha3 hk3 hl3 hl3' hm3 hwh hat z0 z1 z2
        go_wp2_with fail
        refine HWH.out.mono ?_
        rintro e6 w6 ⟨hb6, (⟨hne, rfl⟩ | ⟨heq, v, rfl, hR⟩)⟩
        · have HB6 := Aside0.mk hb6
          have HNE := Aside0.mk hne
          clear hb6 hne
          go_wp2_with fail
          go_ret3
          refine put_none' (os' := os3) ?_ (HF5.out.then_ (Fr.of_below (own := fun _ => False) HB6.out) (fun _ _ h => h.elim)) (HT5.out.below HB6.out) HO5.out
          rw [HRP.out, ← HA2.out, HFIN.out, if_neg (by have h1 := HNE.out; omega), HL2a.out, ← HA3.out]
        · obtain ⟨A6, c6, rfl, hl6, hC6⟩ := Kd.R_reads hR
          have hR6 := Aside0.mk hR
          have HB6 := Aside0.mk hb6
          have HEQ := Aside0.mk heq
          have HT6 := Aside0.mk (HT5.out.below hb6)
          have HX9f := Aside0.mk ((hb6.block _ (blk_lt HX9e.out)).trans HX9e.out)
          obtain ⟨z0, z1, z2⟩ := box3c HX9f.out
          have hfi := find_calls HT6.out f g.ep g.id
          have hix : Room.ixI (Room.isK f g.ep g.id) (os3.map OB.a) = (k3 : Int) := by
            unfold Room.ixI
            rw [show os3.map OB.a = aOf os3 from rfl, HK3.out, aOf_len, if_pos HL3.out]
          rw [hix] at hfi
          have HFI := Aside0.mk hfi
          have HL6 := Aside0.mk hl6
          clear hb6 heq hfi hix hl6 hC6 hR
          go_wp2_with fail
          refine HFI.out.mono ?_
          rintro e7 w7 ⟨rfl, hb7⟩
          have HB7 := Aside0.mk hb7
          have HDR := Aside0.mk (drop_calls (HT6.out.below hb7) k3 HL3.out HL3'.out)
          clear hb7 z0 z1 z2
          go_wp2_with fail
          refine HDR.out.mono ?_
          rintro e8 w8 ⟨rfl, hf8, hT8⟩
          have HF8 := Aside0.mk hf8
          have HT8 := Aside0.mk hT8
          clear hf8 hT8
          go_wp2_with fail
          go_ret3
          have hR7 := Kd.R_below hR6.out HB7.out
          have hR8 := Kd.R_step (Kd.R_bound hR7) (fun q hq hlt => HF8.out.block q hlt (fun e => by have h1 := HT5.out.lt q e; have h2 := hq.2.1; omega))
          refine put_yes (os' := os3.eraseIdx k3) ?_ (((HF5.out.then_ (Fr.of_below (own := fun _ => False) HB6.out) (fun _ _ h => h.elim)).then_ (Fr.of_below (own := fun _ => False) HB7.out) (fun _ _ h => h.elim)).then_ HF8.out (fun q hq h => (HO5.out q h).resolve_right (by omega))) HT8.out HO5.out HL6.out (fun S U hU hS => (Kd.R_reads' (Kd.R_step hR8 (fun q hq hlt => hU.block q hlt (fun e => by have h2 := hq.2.1; rcases hS q e with h1 | h1; (have := HT5.out.lt q h1; omega); (have := HF5.out.size; omega))))).2.2)
          rw [HRP.out, ← HA2.out, HFIN.out, if_pos HEQ.out, aOf_eraseIdx, HL2a.out, ← HA3.out, HK3.out]
end Go.Proofs.Ytaeelmkpjgmdlaa.H
