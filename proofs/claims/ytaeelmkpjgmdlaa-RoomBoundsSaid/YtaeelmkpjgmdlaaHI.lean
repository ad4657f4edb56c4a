/- Mine. Chapters 22 and 23, by hand: slices.IndexFunc at open messages, the closures, find. -/
import Derived.Test.YtaeelmkpjgmdlaaHD
namespace Go.Proofs.Ytaeelmkpjgmdlaa.H
open Go Go.Proofs Go.RowKit Go.Lib Go.Proofs.Ytaeelmkpjgmdlaa.P Go.Proofs.YtaeelmkpjgmdlaaW.PrintWords Go.Proofs.YtaeelmkpjgmdlaaW.PrintLast Go.Proofs.YtaeelmkpjgmdlaaW.PrintMore Go.Proofs.YtaeelmkpjgmdlaaW.PrintFlat
set_option linter.unusedVariables false
set_option linter.unusedSimpArgs false
theorem enters_of {f : Nat} {fn : Func} (hf : Try.prog.funcs[f]? = some fn) (hname : (fn.name == "runtime.NumGoroutine") = false) (hb : fn.body.isSome = true) : ∀ args w, (callFunc f args).run Try.prog w = .ok (.enter f args) w := fun args w => enters_ hf hname hb args w
set_option maxHeartbeats 2000000 in
set_option maxRecDepth 100000 in
theorem idx69 (p : OB → Bool) (g : Nat) (lb : Array Value) (eg : ∀ args w, (callFunc g args).run Try.prog w = .ok (.enter g args) w) (A0 : Option Addr) (c0 : Nat) (l0 : List OB) (w : World) (hr0 : Kd.C k7 w A0 l0.length l0)
    (hp : ∀ (W : World) (x : OB), Below w.heap.size w W → Calls Try.prog g (#[valB x] ++ lb) W fun e w' => e = .returned (.bool (p x)) ∧ Below W.heap.size W w') :
    Calls Try.prog 56 #[.slice A0 l0.length c0, .func (.func g) #[] lb] w fun e w' => e = .returned (.int .i64 (Room.ixI p l0)) ∧ Below w.heap.size w w' := by
  have hu := Try.underlying69
  have HR := Aside0.mk hr0
  have HP := Aside0.mk hp
  have HN : l0.length ≤ 9223372036854775807 := hr0.2.1
  clear hr0 hp
  go_enter Try.func56, Try.ntmps56
  go_wp2
  go_loopg [5, 8] l0.length (fun gg _ s8 wr => ∃ kk : Nat, kk ≤ l0.length ∧ l0.length - kk ≤ gg ∧ s8 = .int .i64 kk ∧ Aside0 (Below w.heap.size w wr) ∧ Aside0 (∀ j, j < kk → p (rd7 l0 j) = false))
  case atStart => exact ⟨0, Nat.zero_le _, by omega, rfl, ⟨Below.refl _ w⟩, ⟨fun j hj => absurd hj (Nat.not_lt_zero _)⟩⟩
  case round =>
    obtain ⟨kk, hkk, hg, rfl, HB, HO⟩ := hrel
    by_cases hlt : kk < l0.length
    · have p1 : 0 ≤ ((kk : Nat) : Int) := by omega
      have q1 : ((kk : Nat) : Int) < (l0.length : Int) := by omega
      obtain ⟨ad, e1, hx0, hx1, hx2, hx3, hx4, hx5, hx6⟩ := at7 HR.out kk p1 q1
      cases e1
      replace hx0 := (HB.out.cell (World.block_lt_of_cell? w _ hx0)).trans hx0
      replace hx1 := (HB.out.cell (World.block_lt_of_cell? w _ hx1)).trans hx1
      replace hx2 := (HB.out.cell (World.block_lt_of_cell? w _ hx2)).trans hx2
      replace hx3 := (HB.out.cell (World.block_lt_of_cell? w _ hx3)).trans hx3
      replace hx4 := (HB.out.cell (World.block_lt_of_cell? w _ hx4)).trans hx4
      replace hx5 := (HB.out.cell (World.block_lt_of_cell? w _ hx5)).trans hx5
      replace hx6 := (HB.out.cell (World.block_lt_of_cell? w _ hx6)).trans hx6
      simp only [Int.toNat_natCast] at hx0 hx1 hx2 hx3 hx4 hx5 hx6
      have hcall := HP.out wr (rd7 l0 kk) HB.out
      obtain ⟨y, hy⟩ : ∃ y, rd7 l0 kk = y := ⟨_, rfl⟩
      rw [hy] at hcall hx0 hx1 hx2 hx3 hx4 hx5 hx6
      have HY := Aside0.mk hy
      clear hy
      obtain ⟨b, hb0⟩ : ∃ b, p y = b := ⟨_, rfl⟩
      rw [hb0] at hcall
      have HPY := Aside0.mk hb0
      clear hb0
      have HC := Aside0.mk hcall
      clear hcall
      go_wp2_with fail
      refine HC.out.mono ?_
      rintro e w1 ⟨rfl, hb⟩
      have HB2 := Aside0.mk (below_then HB.out HB.out.size hb)
      clear hb HC HP hx0 hx1 hx2 hx3 hx4 hx5 hx6 eg
      cases b with
      | true =>
        go_wp2
        go_ret
        refine ⟨?_, HB2.out⟩
        have h := Room.ixI_hit (p := p) (os := l0) zB kk hlt (by have h := HPY.out; rw [← HY.out] at h; simpa [rd7] using h) (fun j hj => by have := HO.out j hj; simpa [rd7] using this)
        rw [h]
        rfl
      | false =>
        go_wp2
        go_roundg (l0.length - (kk + 1))
        case measure => omega
        case rel =>
          refine ⟨kk + 1, by omega, by omega, by go_num, HB2, ⟨fun j hj => ?_⟩⟩
          rcases Nat.lt_or_ge j kk with h | h
          · exact HO.out j h
          · obtain rfl : j = kk := by omega
            rw [HY.out]; exact HPY.out
    · have : kk = l0.length := by omega
      have hn : ¬ ((kk : Nat) : Int) < (l0.length : Int) := by omega
      go_wp2
      go_ret
      refine ⟨?_, HB.out⟩
      rw [Room.ixI_miss (p := p) (os := l0) zB (fun j hj => by have := HO.out j (by omega); simpa [rd7] using this)]
      rfl
set_option maxRecDepth 100000 in
theorem find_clo (x : OB) (f e i : Int) (B0 : Nat) (W : World) (hb0 : W.heap[B0]? = some (.cells #[.int .u16 f, .int .u32 e, .int .u32 i] 66 (0, 0))) :
    Calls Try.prog 57 #[valB x, .pointer (some ⟨B0, 0, none⟩)] W fun e' w' => e' = .returned (.bool (Room.isK f e i x.a)) ∧ Below W.heap.size W w' := by
  have hu := Try.underlying69
  have hu2 := Try.underlying66
  have hq : ∀ k u, W.cell? ⟨B0, k, none⟩ = some u → (W.alloc (.cells #[.int .u16 x.a.fr, .int .u32 x.a.ep, .int .u32 x.a.id, .int .u16 x.a.cnt, .int .u8 x.a.ver, .int .i64 x.a.age, .pointer (some ⟨x.p, 0, none⟩)] 69)).cell? ⟨B0, k, none⟩ = some u := fun k u h => pw_cell_below (below_alloc (Below.refl _ _) _) h
  have hp0 := hq 0 _ ((blk_cell hb0 0).trans rfl)
  have hp1 := hq 1 _ ((blk_cell hb0 1).trans rfl)
  have hp2 := hq 2 _ ((blk_cell hb0 2).trans rfl)
  clear hq hb0
  go_enter Try.func57, Try.ntmps57
  go_wp2
  all_goals go_ret
  all_goals exact ⟨by first | rfl | simp_all [Room.isK], below_alloc (Below.refl _ _) _⟩
set_option maxRecDepth 100000 in
theorem fit_clo (x : OB) (f e i : Int) (B0 : Nat) (W : World) (hb0 : W.heap[B0]? = some (.cells #[.int .u16 f, .int .u32 e, .int .u32 i] 66 (0, 0))) :
    Calls Try.prog 63 #[valB x, .pointer (some ⟨B0, 0, none⟩)] W fun e' w' => e' = .returned (.bool (!Room.isK f e i x.a)) ∧ Below W.heap.size W w' := by
  have hu := Try.underlying69
  have hu2 := Try.underlying66
  have hq : ∀ k u, W.cell? ⟨B0, k, none⟩ = some u → (W.alloc (.cells #[.int .u16 x.a.fr, .int .u32 x.a.ep, .int .u32 x.a.id, .int .u16 x.a.cnt, .int .u8 x.a.ver, .int .i64 x.a.age, .pointer (some ⟨x.p, 0, none⟩)] 69)).cell? ⟨B0, k, none⟩ = some u := fun k u h => pw_cell_below (below_alloc (Below.refl _ _) _) h
  have hp0 := hq 0 _ ((blk_cell hb0 0).trans rfl)
  have hp1 := hq 1 _ ((blk_cell hb0 1).trans rfl)
  have hp2 := hq 2 _ ((blk_cell hb0 2).trans rfl)
  clear hq hb0
  go_enter Try.func63, Try.ntmps63
  go_wp2
  all_goals go_ret
  all_goals exact ⟨by first | rfl | simp_all [Room.isK], below_alloc (Below.refl _ _) _⟩
/-- The program's table. -/
structure TS (own : Nat → Prop) (t : Nat) (L : Room.Lim) (os : List OB) (W : World) : Prop where
  ot : own t
  st : ∃ v oB, W.heap[t]? = some (.cells #[.bool true, .int .i64 L.op, .int .i64 L.by_, .int .i64 L.ex, v] 64 (0, 0)) ∧ Bag OPA 69 oB v os W ∧ ∀ k, oB k → own k ∧ k ≠ t
  lt : ∀ k, own k → k < W.heap.size
theorem TS.frame {own S : Nat → Prop} {t : Nat} {L : Room.Lim} {os : List OB} {W W' : World} (h : TS own t L os W) (hf : Fr S W W') (hd : ∀ k, own k → ¬ S k) : TS own t L os W' where
  ot := h.ot
  st := by
    obtain ⟨v, oB, h1, h2, h3⟩ := h.st
    exact ⟨v, oB, (hf.block t (h.lt t h.ot) (hd t h.ot)).trans h1, h2.frame OPA.fr hf (fun k hk => hd k (h3 k hk).1), h3⟩
  lt := fun k hk => Nat.lt_of_lt_of_le (h.lt k hk) hf.size
theorem TS.below {own : Nat → Prop} {t : Nat} {L : Room.Lim} {os : List OB} {W W' : World} (h : TS own t L os W) (hb : Below W.heap.size W W') : TS own t L os W' := h.frame (S := fun _ => False) (Fr.of_below hb) (fun _ _ h => h)
/-- What is read of a table. -/
theorem TS.reads {own : Nat → Prop} {t : Nat} {L : Room.Lim} {os : List OB} {W : World} (h : TS own t L os W) : ∃ A c, W.cell? ⟨t, 0, none⟩ = some (.bool true) ∧ W.cell? ⟨t, 1, none⟩ = some (.int .i64 L.op) ∧ W.cell? ⟨t, 2, none⟩ = some (.int .i64 L.by_) ∧ W.cell? ⟨t, 3, none⟩ = some (.int .i64 L.ex) ∧
    W.cell? ⟨t, 4, none⟩ = some (.slice A os.length c) ∧ os.length ≤ c ∧ Kd.C k7 W A os.length os := by
  obtain ⟨v, oB, h1, h2, h3⟩ := h.st
  obtain ⟨A, c, rfl, hl, hC⟩ := h2.reads
  exact ⟨A, c, (blk_cell h1 0).trans rfl, (blk_cell h1 1).trans rfl, (blk_cell h1 2).trans rfl, (blk_cell h1 3).trans rfl, (blk_cell h1 4).trans rfl, hl, hC⟩
theorem TS.obj {own : Nat → Prop} {t : Nat} {L : Room.Lim} {os : List OB} {W : World} (h : TS own t L os W) : ∀ o ∈ os, OPA o W := by
  obtain ⟨v, oB, h1, h2, h3⟩ := h.st
  exact h2.obj
theorem ixI_map (p : Room.OA → Bool) (os : List OB) : Room.ixI p (os.map OB.a) = Room.ixI (fun o => p o.a) os := by
  unfold Room.ixI
  rw [Room.idx_map, List.length_map]
set_option maxHeartbeats 1000000 in
set_option maxRecDepth 100000 in
theorem find_calls {own : Nat → Prop} {t : Nat} {L : Room.Lim} {os : List OB} {W : World} (h : TS own t L os W) (f e i : Int) :
    Calls Try.prog 28 #[.pointer (some ⟨t, 0, none⟩), .agg #[.int .u16 f, .int .u32 e, .int .u32 i]] W fun e' w' => e' = .returned (.int .i64 (Room.ixI (Room.isK f e i) (os.map OB.a))) ∧ Below W.heap.size W w' := by
  have hB : Below W.heap.size W (W.alloc (.cells #[.int .u16 f, .int .u32 e, .int .u32 i] 66)) := below_alloc (Below.refl _ _) _
  obtain ⟨A, c, _, _, _, _, g4, hl, hC⟩ := (h.below hB).reads
  have hc := idx69 (fun o => Room.isK f e i o.a) 57 #[.pointer (some ⟨W.heap.size, 0, none⟩)] (enters_of Try.func57 (by kernel_rfl) rfl) A c os (W.alloc (.cells #[.int .u16 f, .int .u32 e, .int .u32 i] 66)) hC (fun V x hb => find_clo x f e i W.heap.size V ((hb.block _ (by simp)).trans (heap_alloc_new W _)))
  rw [← ixI_map] at hc
  have HC := Aside0.mk hc
  have HB := Aside0.mk hB
  clear hc hB hC h
  go_enter Try.func28, Try.ntmps28
  go_wp2_with fail
  refine HC.out.mono ?_
  rintro e' w1 ⟨rfl, hb⟩
  have HB1 := Aside0.mk hb
  clear hb HC
  go_wp2
  go_ret
  exact ⟨rfl, below_then HB.out HB.out.size HB1.out⟩
set_option maxHeartbeats 1000000 in
set_option maxRecDepth 100000 in
theorem drop_calls {own : Nat → Prop} {t : Nat} {L : Room.Lim} {os : List OB} {W : World} (h : TS own t L os W) (k : Nat) (hk : k < os.length) (hmax : os.length ≤ 140737488355328) :
    Calls Try.prog 31 #[.pointer (some ⟨t, 0, none⟩), .int .i64 k] W fun e' w' => e' = .returned (.tuple #[]) ∧ Fr own W w' ∧ TS own t L (os.eraseIdx k) w' := by
  obtain ⟨v, oB, h1, h2, h3⟩ := h.st
  obtain ⟨oL, hR, hL⟩ := h2.row
  obtain ⟨A, c, rfl, hl, hC⟩ := Kd.R_reads hR
  obtain ⟨ad, rfl⟩ : ∃ ad, A = some ad := by
    obtain ⟨ad, e, _⟩ := hC.2.2 (by omega)
    exact ⟨ad, e⟩
  obtain ⟨g, rfl⟩ := Kd.R_head hR
  have g4 : W.cell? ⟨t, 4, none⟩ = some (.slice (some ⟨g, 0, none⟩) os.length c) := (blk_cell h1 4).trans rfl
  have hcall := del_calls hR hk (Nat.zero_le _) hmax
  have HH := Aside0.mk h
  have HCL := Aside0.mk hcall
  have H1 := Aside0.mk h1
  have H2 := Aside0.mk h2
  have H3 := Aside0.mk h3
  have HL := Aside0.mk hL
  have HG := Aside0.mk (hR.1 g rfl)
  clear hcall h h1 h2 h3 hR hL hC
  go_enter Try.func31, Try.ntmps31
  go_wp2_with fail
  refine HCL.out.mono ?_
  rintro e' w1 ⟨rfl, hR1, hg1⟩
  have hgt : t ≠ g := fun e => (H3.out g (HL.out g HG.out).1).2 e.symm
  have hb1 : w1.heap[t]? = some (.cells #[.bool true, .int .i64 L.op, .int .i64 L.by_, .int .i64 L.ex, .slice (some ⟨g, 0, none⟩) os.length c] 64 (0, 0)) := (hg1.block t (HH.out.lt t HH.out.ot) (fun e => hgt (Option.some.inj e))).trans H1.out
  have hf1 : w1.frozen? ⟨t, 4, none⟩ = false := blk_frozen hb1 4
  have hc1 : w1.cell? ⟨t, 4, none⟩ = some (.slice (some ⟨g, 0, none⟩) os.length c) := (blk_cell hb1 4).trans rfl
  have HB1 := Aside0.mk hb1
  have HR1 := Aside0.mk hR1
  have HG1 := Aside0.mk hg1
  have HGT := Aside0.mk hgt
  clear hb1 hR1 hg1 hgt HCL g4
  go_wp2
  go_end0
  have hblk := blk_set HB1.out 4 (.slice (some ⟨g, 0, none⟩) (os.length - 1) c)
  have hsz : (w1.setCell ⟨t, 4, none⟩ (.slice (some ⟨g, 0, none⟩) (os.length - 1) c)).heap.size = w1.heap.size := by simp [World.setCell]
  have hfr1 : Fr own W w1 := Fr.of_grown HG1.out (H3.out g (HL.out g HG.out).1).1
  have hfr2 : Fr (fun k => k = t) w1 (w1.setCell ⟨t, 4, none⟩ (.slice (some ⟨g, 0, none⟩) (os.length - 1) c)) := ⟨rfl, rfl, rfl, by rw [hsz]; exact Nat.le_refl _, fun k hk hn => Below.heap_setCell _ _ _ _ hn⟩
  have hbag : Bag OPA 69 oB (.slice (some ⟨g, 0, none⟩) (os.length - 1) c) (os.eraseIdx k) w1 := H2.out.sub_ OPA.fr HL.out HG.out (List.eraseIdx_sublist _ _) HR1.out HG1.out
  refine ⟨rfl, hfr1.then_ hfr2 (fun q _ hq => by rw [hq]; exact HH.out.ot), HH.out.ot, ⟨_, oB, ?_, hbag.frame OPA.fr hfr2 (fun q hq e => (H3.out q hq).2 e), H3.out⟩, fun q hq => ?_⟩
  · rw [hblk]; simp
  · rw [hsz]; exact Nat.lt_of_lt_of_le (HH.out.lt q hq) HG1.out.size
#print axioms drop_calls
end Go.Proofs.Ytaeelmkpjgmdlaa.H
