/- Mine. Chapter 22, by hand: the law RoomPlays, walked. -/
import Derived.Test.YtaeelmkpjgmdlaaHXP
namespace Go.Proofs.Ytaeelmkpjgmdlaa.H
open Go Go.Proofs Go.RowKit Go.Lib Go.Proofs.Ytaeelmkpjgmdlaa.P Go.Proofs.YtaeelmkpjgmdlaaW.PrintWords Go.Proofs.YtaeelmkpjgmdlaaW.PrintLast Go.Proofs.YtaeelmkpjgmdlaaW.PrintMore Go.Proofs.YtaeelmkpjgmdlaaW.PrintFlat
set_option linter.unusedVariables false
set_option linter.unusedSimpArgs false
structure TwT (own ownx : Nat → Prop) (t x : Nat) (L : Room.Lim) (os osx : List OB) (w V : World) : Prop where
  ts : TS own t L os V
  xs : XS ownx x L osx V
  ap : ∀ q, own q → ¬ ownx q
  bl : Below w.heap.size w V
  nw : ∀ q, own q ∨ ownx q → w.heap.size ≤ q
  eq : aOf osx = aOf os
theorem TwT.below {own ownx : Nat → Prop} {t x : Nat} {L : Room.Lim} {os osx : List OB} {w V V' : World} (h : TwT own ownx t x L os osx w V) (hb : Below V.heap.size V V') : TwT own ownx t x L os osx w V' :=
  ⟨h.ts.below hb, h.xs.below hb, h.ap, below_then h.bl h.bl.size hb, h.nw, h.eq⟩
theorem TwT.len {own ownx : Nat → Prop} {t x : Nat} {L : Room.Lim} {os osx : List OB} {w V : World} (h : TwT own ownx t x L os osx w V) : osx.length = os.length := by
  rw [← aOf_len osx, ← aOf_len os, h.eq]
theorem TwT.row {own ownx : Nat → Prop} {t x : Nat} {L : Room.Lim} {os osx : List OB} {w V : World} (h : TwT own ownx t x L os osx w V) : ∃ v : Option Addr × Nat, V.cell? ⟨x, 3, none⟩ = some (.slice v.1 os.length v.2) := by
  obtain ⟨A, c, _, _, _, h3, _⟩ := h.xs.reads
  rw [h.len] at h3
  exact ⟨(A, c), h3⟩
structure TwR (own ownx : Nat → Prop) (t x : Nat) (L : Room.Lim) (os osx : List OB) (w : World) (v : Value) (V : World) : Prop where
  tw : TwT own ownx t x L os osx w V
  c3 : V.cell? ⟨x, 3, none⟩ = some v
theorem TwR.below {own ownx : Nat → Prop} {t x : Nat} {L : Room.Lim} {os osx : List OB} {w : World} {v : Value} {V V' : World} (h : TwR own ownx t x L os osx w v V) (hb : Below V.heap.size V V') : TwR own ownx t x L os osx w v V' := ⟨h.tw.below hb, pw_cell_below hb h.c3⟩
theorem two_xheld {own ownx : Nat → Prop} {t x : Nat} {L : Room.Lim} {os osx : List OB} {w V : World} (h : TwT own ownx t x L os osx w V) (hm : os.length ≤ 1000) (hh : Room.held (aOf os) ≤ 4611686018427387904) (hc : ∀ o ∈ os, 1 ≤ o.a.cnt ∧ o.a.cnt ≤ 65535) :
    Calls Try.prog 17 #[.pointer (some ⟨x, 0, none⟩)] V fun e' w' => e' = .returned (.int .i64 (Room.held (aOf os))) ∧ Below V.heap.size V w' := by
  rw [← h.eq] at hh ⊢
  refine xheld_calls h.xs (by rw [h.len]; exact hm) hh (fun o ho => ?_)
  have h1 : o.a ∈ aOf osx := List.mem_map.2 ⟨o, ho, rfl⟩
  rw [h.eq] at h1
  obtain ⟨o', ho', e⟩ := List.mem_map.1 h1
  rw [← e]; exact hc o' ho'
theorem tk_aOf (L : Room.Lim) (os : List OB) : aOf (tkB L os) = Room.tick L (aOf os) := by
  unfold tkB Room.tick aOf
  rw [List.map_map, List.filter_map, List.filter_map, List.map_map]
  rfl
theorem tick_both {own ownx : Nat → Prop} {t x : Nat} {L : Room.Lim} {os osx os4 : List OB} {w V w3 w4 : World} (h : TwT own ownx t x L os osx w V) (hf3 : Fr own V w3) (ha3 : aOf os4 = Room.tick L (aOf os)) (hT3 : TS own t L os4 w3) (hf4 : Fr ownx w3 w4) (hX4 : XS (fun q => ownx q ∨ w3.heap.size ≤ q ∧ q < w4.heap.size) x L (tkB L osx) w4) :
    TwT own (fun q => ownx q ∨ w3.heap.size ≤ q ∧ q < w4.heap.size) t x L os4 (tkB L osx) w w4 :=
  ⟨hT3.frame hf4 h.ap, hX4, fun q hq e => e.elim (h.ap q hq) (fun e => by have := hT3.lt q hq; omega), (h.bl.trans (hf3.below h.bl.size (fun q hq => h.nw q (.inl hq)))).trans (hf4.below (Nat.le_trans h.bl.size hf3.size) (fun q hq => h.nw q (.inr hq))), fun q hq => by
    rcases hq with hq | hq | hq
    · exact h.nw q (.inl hq)
    · exact h.nw q (.inr hq)
    · have h1 := h.bl.size
      have h2 := hf3.size
      omega, by rw [tk_aOf, ha3, h.eq]⟩
theorem put_both {own ownx own3 ownx4 : Nat → Prop} {t x : Nat} {L : Room.Lim} {os osx os3 osx4 : List OB} {w V w3 W3 w4 : World} {l : List Room.OA} (h : TwT own ownx t x L os osx w V) (hf3 : Fr own V w3) (hT3 : TS own3 t L os3 w3) (ho3 : ∀ q, own3 q → own q ∨ V.heap.size ≤ q) (hb : Below w3.heap.size w3 W3) (ha3 : aOf os3 = l)
    (hf4 : Fr ownx W3 w4) (hX4 : XS ownx4 x L osx4 w4) (ho4 : ∀ q, ownx4 q → ownx q ∨ W3.heap.size ≤ q) (ha4 : aOf osx4 = l) : TwT own3 ownx4 t x L os3 osx4 w w4 := by
  have hap : ∀ q, own3 q → ¬ ownx q := fun q hq e => by
    rcases ho3 q hq with h1 | h1
    · exact h.ap q h1 e
    · have := h.xs.lt q e; omega
  have hs := hb.size
  refine ⟨(hT3.below hb).frame hf4 hap, hX4, fun q hq e => ?_, (below_then (h.bl.trans (hf3.below h.bl.size (fun q hq => h.nw q (.inl hq)))) (Nat.le_trans h.bl.size hf3.size) hb).trans (hf4.below (Nat.le_trans h.bl.size (Nat.le_trans hf3.size hs)) (fun q hq => h.nw q (.inr hq))), fun q hq => ?_, by rw [ha3, ha4]⟩
  · rcases ho4 q e with h1 | h1
    · exact hap q hq h1
    · have := hT3.lt q hq; omega
  · have h1 := h.bl.size
    have h2 := hf3.size
    rcases hq with hq | hq
    · rcases ho3 q hq with h3 | h3
      · exact h.nw q (.inl h3)
      · omega
    · rcases ho4 q hq with h3 | h3
      · exact h.nw q (.inr h3)
      · omega
set_option maxHeartbeats 8000000 in
set_option maxRecDepth 100000 in
theorem plays_calls (kk : Nat) (L : Room.Lim) (A1 : Option Addr) (c1 : Nat) (l1 : List S40) (lg : Bool) (w : World) (hr1 : Kd.C k40 w A1 l1.length l1) (hc1 : l1.length ≤ c1) (hlg : annuletlaw22_Large.f kk l1 = some lg) (hok : okD l1 = true) :
    Calls Try.prog 3 #[.agg #[.int .i64 L.op, .int .i64 L.by_, .int .i64 L.ex], .slice A1 l1.length c1] w fun e w' => e = .returned (.bool true) ∧ Below w.heap.size w w' := by
  obtain ⟨V, hV⟩ : ∃ V, (w.alloc (.cells #[.int .i64 L.op, .int .i64 L.by_, .int .i64 L.ex] 23)) = V := ⟨_, rfl⟩
  have hbV : Below w.heap.size w V := by rw [← hV]; exact below_alloc (Below.refl _ _) _
  have hx2 : V.heap[w.heap.size]? = some (.cells #[.int .i64 L.op, .int .i64 L.by_, .int .i64 L.ex] 23 (0, 0)) := by rw [← hV]; exact heap_alloc_new w _
  have HLG := Aside0.mk (annuletlaw22_Large.calls kk A1 c1 l1 lg V (Kd.C_below hr1 hbV) hc1 hlg)
  have HR1 := Aside0.mk hr1
  have HLF := Aside0.mk hlg
  have HOK := Aside0.mk hok
  have HBV := Aside0.mk hbV
  have HX2 := Aside0.mk hx2
  have HAW : Aside0 (∀ V, Below w.heap.size w V → Calls Try.prog 8 #[] V fun e w' => e = .returned (.bool true) ∧ Below w.heap.size w w') := ⟨fun V hV => (awake_calls V).mono (fun e w' h => ⟨h.1, below_then hV hV.size h.2⟩)⟩
  clear hr1 hc1 hlg hok hbV hx2
  cases lg with
  | true =>
    go_enter Try.func3, Try.ntmps3
    go_wp2_with fail
    refine HLG.out.mono ?_
    rintro e1 w1 ⟨rfl, hb1⟩
    have HB1 := Aside0.mk (below_then HBV.out HBV.out.size hb1)
    clear hb1
    go_wp2_with fail
    refine (HAW.out _ HB1.out).mono ?_
    rintro e2 w2 ⟨rfl, hb2⟩
    have HB2 := Aside0.mk hb2
    clear hb2
    go_wp2_with fail
    go_ret
    exact ⟨rfl, HB2.out⟩
  | false =>
    have HLL := Aside0.mk (large_false l1 kk 0 0 (by decide) (by decide) (by decide) (by decide) HLF.out)
    go_enter Try.func3, Try.ntmps3
    go_wp2_with fail
    refine HLG.out.mono ?_
    rintro e1 w1 ⟨rfl, hb1⟩
    have HB1 := Aside0.mk (below_then HBV.out HBV.out.size hb1)
    have HX2a := Aside0.mk ((hb1.block _ (blk_lt HX2.out)).trans HX2.out)
    obtain ⟨x0, x1, x2⟩ := box3c HX2a.out
    have HTN := Aside0.mk (tnew_calls L w1)
    clear hb1
    go_wp2_with fail
    refine HTN.out.mono ?_
    rintro e2 w2 ⟨hb2, (⟨hlim, t, rfl, hT2⟩ | ⟨hlim, rfl⟩)⟩
    · have HLO := Aside0.mk (limB_ok hlim)
      have HLI := Aside0.mk hlim
      have HB2 := Aside0.mk (below_then HB1.out HB1.out.size hb2)
      have HX2b := Aside0.mk ((hb2.block _ (blk_lt HX2a.out)).trans HX2a.out)
      have HT2 := Aside0.mk hT2
      have HXN := Aside0.mk (xnew_calls L w2)
      clear hb2 hT2 hlim x0 x1 x2
      obtain ⟨x0, x1, x2⟩ := box3c HX2b.out
      go_wp2_with fail
      refine HXN.out.mono ?_
      rintro e3 w3 ⟨hb3, hxn⟩
      obtain ⟨x, he3, hX3⟩ : ∃ x, e3 = .returned (.tuple #[.pointer (some ⟨x, 0, none⟩), .int .i64 0]) ∧ XS (fun k => w2.heap.size ≤ k ∧ k < w3.heap.size) x L [] w3 := by
        rcases hxn with ⟨_, h⟩ | ⟨h, _⟩
        · exact h
        · rw [HLI.out] at h; cases h
      clear hxn
      subst he3
      have HTW : Aside0 (TwT (fun k => w1.heap.size ≤ k ∧ k < w2.heap.size) (fun k => w2.heap.size ≤ k ∧ k < w3.heap.size) t x L [] [] w w3) := ⟨HT2.out.below hb3, hX3, fun q h1 h2 => by omega, below_then HB2.out HB2.out.size hb3, fun q h => by
        have h1 := HB1.out.size
        have h2 := HB2.out.size
        omega, rfl⟩
      have HI2 := Aside0.mk (RInv.nil (L := L) HLO.out)
      have HG2 : Aside0 (AgeIn L 0 []) := ⟨fun o ho => by simp at ho⟩
      clear hb3 hX3 x0 x1 x2
      go_wp2_with fail
      go_loopg [9] l1.length (fun gg s9 wr => ∃ (j : Nat) (own' ownx' : Nat → Prop) (os osx : List OB), j ≤ l1.length ∧ l1.length - j ≤ gg ∧ s9 = .int .i64 j ∧ Aside0 (TwT own' ownx' t x L os osx w wr) ∧ Aside0 (RInv L (aOf os)) ∧ Aside0 (AgeIn L 0 (aOf os)))
      case atStart => exact ⟨0, _, _, [], [], Nat.zero_le _, by omega, rfl, HTW, HI2, HG2⟩
      case round =>
        obtain ⟨j, own', ownx', os, osx, hj, hgg, rfl, HT, HI, HG⟩ := hrel
        have hl200 := HLL.out.1
        by_cases hlt : j < l1.length
        · obtain ⟨ad, A8, c8, rfl, hx0, hx1, hx2, hx3, hx4, hx5, hx6, hx7, hx8, hl8, hC8⟩ := at_T40 HR1.out (j : Int) (by omega) (by omega)
          rw [Int.toNat_natCast] at hx0 hx1 hx2 hx3 hx4 hx5 hx6 hx7 hx8
          have hmem : rd_T40 l1 (j : Int) ∈ l1 := rd_mem40 hlt
          have hgm := okD_gm HOK.out hmem (HLL.out.2.2 j (by omega) hlt)
          obtain ⟨y, hy⟩ : ∃ y, rd_T40 l1 (j : Int) = y := ⟨_, rfl⟩
          rw [hy] at hx0 hx1 hx2 hx3 hx4 hx5 hx6 hx7 hx8 hl8 hC8 hgm
          have q0 := pw_cell_below HT.out.bl hx0
          have p0 : (0 ≤ (j : Int)) = True := eq_true (by omega)
          have p1 : ((j : Int) < (l1.length : Int)) = True := eq_true (by omega)
          have HGM := Aside0.mk hgm
          have HC8 := Aside0.mk (And.intro hl8 hC8)
          have HCELLS := Aside0.mk (And.intro hx1 (And.intro hx2 (And.intro hx3 (And.intro hx4 (And.intro hx5 (And.intro hx6 (And.intro hx7 hx8)))))))
          have HL6 : Aside0 (os.length ≤ 1000) := ⟨by have h1 := HI.out.ln; have h2 := HLO.out.o2; rw [aOf_len] at h1; omega⟩
          clear hgm hC8 hl8 hx0 hx1 hx2 hx3 hx4 hx5 hx6 hx7 hx8 hmem hy
          obtain ⟨tk, htk⟩ : ∃ tk, y.f0 = tk := ⟨_, rfl⟩
          rw [htk] at q0
          clear htk
          cases tk with
          | true =>
            have HTK := Aside0.mk (tick_calls HT.out.ts HL6.out (fun o ho => by have h1 := HG.out o.a (List.mem_map.2 ⟨o, ho, rfl⟩); have h2 := HLO.out.e2; exact ⟨h1.1, by omega⟩))
            go_wp2_with fail
            refine HTK.out.mono ?_
            rintro e3 w3 ⟨rfl, hf3, os4, ha3, hT3⟩
            have hX3 := HT.out.xs.frame hf3 (fun q h1 h2 => HT.out.ap q h2 h1)
            have HXT := Aside0.mk (xtick_calls hX3 (by have h1 := HL6.out; rw [HT.out.len]; exact h1) (fun o ho => by
              have h3 : o.a ∈ aOf osx := List.mem_map.2 ⟨o, ho, rfl⟩
              rw [HT.out.eq] at h3
              have h1 := HG.out o.a h3; have h2 := HLO.out.e2; exact ⟨h1.1, by omega⟩))
            have HF3 := Aside0.mk hf3
            have HA3 := Aside0.mk ha3
            have HT3 := Aside0.mk hT3
            clear hf3 ha3 hT3 hX3 q0
            go_wp2_with fail
            refine HXT.out.mono ?_
            rintro e4 w4 ⟨rfl, hf4, hX4⟩
            have HT5' := tick_both HT.out HF3.out HA3.out HT3.out hf4 hX4
            have HI5 : Aside0 (RInv L (aOf os4)) := ⟨by rw [HA3.out]; exact tick_inv HI.out⟩
            have HG5 : Aside0 (AgeIn L 0 (aOf os4)) := ⟨by rw [HA3.out]; intro o ho; have := tick_age HG.out o ho; exact ⟨by omega, this.2⟩⟩
            obtain ⟨own5, hown5⟩ : ∃ own5, own' = own5 := ⟨_, rfl⟩
            obtain ⟨ownx5, hownx5⟩ : ∃ ownx5, (fun q => ownx' q ∨ w3.heap.size ≤ q ∧ q < w4.heap.size) = ownx5 := ⟨_, rfl⟩
            obtain ⟨osx5, hosx5⟩ : ∃ osx5, tkB L osx = osx5 := ⟨_, rfl⟩
            obtain ⟨os5, hos5⟩ : ∃ os5, os4 = os5 := ⟨_, rfl⟩
            rw [hown5, hownx5, hosx5, hos5] at HT5'
            rw [hos5] at HI5 HG5
            have HT5 := Aside0.mk HT5'
            clear HT5' hown5 hownx5 hosx5 hos5 hf4 hX4
            have HH4 : Aside0 (Room.held (aOf os5) ≤ 4611686018427387904) := ⟨by have h1 := HI5.out.hd; have h2 := HLO.out.b2; omega⟩
            have HL4 : Aside0 (os5.length ≤ 140737488355328) := ⟨by have h1 := HI5.out.ln; have h2 := HLO.out.o2; rw [aOf_len] at h1; omega⟩
            have HL5 : Aside0 (os5.length ≤ 1000) := ⟨by have h1 := HI5.out.ln; have h2 := HLO.out.o2; rw [aOf_len] at h1; omega⟩
            have HC4 : Aside0 (∀ o ∈ os5, 1 ≤ o.a.cnt ∧ o.a.cnt ≤ 65535) := ⟨fun o ho => HI5.out.ct o.a (List.mem_map.2 ⟨o, ho, rfl⟩)⟩
            obtain ⟨Y, hY⟩ : ∃ Y, w4.drew = Y := ⟨_, rfl⟩
            have hbY : Below w4.heap.size w4 Y := by rw [← hY]; exact (Below.refl _ _).drew
            obtain ⟨⟨A5, c5⟩, hrow5⟩ := HT5.out.row
            have hs1 : TwR own5 ownx5 t x L os5 osx5 w (.slice A5 os5.length c5) w4.drew := by rw [hY]; exact TwR.below ⟨HT5.out, hrow5⟩ hbY
            clear hrow5
            clear hbY
            go_wp2_with fail
            refine start_ (n := 15) (S := TwR own5 ownx5 t x L os5 osx5 w (.slice A5 os5.length c5)) (ds := []) #[false, false, false, false, false, false, false, false, false, false, false, false, false, false, false] (by kernel_rfl) rfl rfl hs1 (fun hJ => ?_)
            rw [hY] at hJ ⊢
            clear hs1 hY
            refine pure_ (i := 0) (N := some 104) (v := ?_) (a' := ?_) #[true, false, false, false, false, false, false, false, false, false, false, false, false, false, false] rfl rfl (by kernel_rfl) (fun _ _ _ h => h) (Or.inl ⟨by rfl, ?_⟩) ?_ ?_
            rotate_left
            · intro w'
              go_simp
              with_reducible rfl
            rotate_left
            · simp only [Act.put, List.setIfInBounds_toArray, List.set_cons_zero, List.set_cons_succ, i64_w, i32_w]
              rfl
            refine pure_ (i := 2) (N := some 106) (v := ?_) (a' := ?_) #[true, false, true, false, false, false, false, false, false, false, false, false, false, false, false] rfl rfl (by kernel_rfl) (fun _ _ _ h => h) (Or.inl ⟨by rfl, ?_⟩) ?_ ?_
            rotate_left
            · intro w'
              go_simp
              with_reducible rfl
            rotate_left
            · simp only [Act.put, List.setIfInBounds_toArray, List.set_cons_zero, List.set_cons_succ, i64_w, i32_w]
              rfl
            refine pure_ (i := 3) (N := some 107) (v := ?_) (a' := ?_) #[true, false, true, true, false, false, false, false, false, false, false, false, false, false, false] rfl rfl (by kernel_rfl) (fun _ _ _ h => h) (Or.inl ⟨by rfl, ?_⟩) ?_ ?_
            rotate_left
            · intro w'
              go_simp
              with_reducible rfl
            rotate_left
            · simp only [Act.put, List.setIfInBounds_toArray, List.set_cons_zero, List.set_cons_succ, i64_w, i32_w]
              rfl
            refine pure_ (i := 4) (N := some 108) (v := ?_) (a' := ?_) #[true, false, true, true, true, false, false, false, false, false, false, false, false, false, false] rfl rfl (by kernel_rfl) (fun _ _ _ h => h) (Or.inl ⟨by rfl, ?_⟩) ?_ ?_
            rotate_left
            · intro w'
              go_simp
              with_reducible rfl
            rotate_left
            · simp only [Act.put, List.setIfInBounds_toArray, List.set_cons_zero, List.set_cons_succ, i64_w, i32_w]
              rfl
            refine take_ (i := 5) (N := some 109) (v := ?_) (a' := ?_) #[true, false, true, true, true, true, false, false, false, false, false, false, false, false, false] rfl rfl (by kernel_rfl) (fun _ _ _ h => h) (Or.inl ⟨by rfl, ?_⟩) hJ ?_ ?_
            rotate_left
            · rintro w' hs_
              have q0 := hs_.c3
              go_simp
              with_reducible rfl
            rotate_left
            · simp only [Act.put, List.setIfInBounds_toArray, List.set_cons_zero, List.set_cons_succ, i64_w, i32_w]
              rfl
            refine pure_ (i := 6) (N := some 110) (v := ?_) (a' := ?_) #[true, false, true, true, true, true, true, false, false, false, false, false, false, false, false] rfl rfl (by kernel_rfl) (fun _ _ _ h => h) (Or.inl ⟨by rfl, ?_⟩) ?_ ?_
            rotate_left
            · intro w'
              go_simp
              with_reducible rfl
            rotate_left
            · simp only [Act.put, List.setIfInBounds_toArray, List.set_cons_zero, List.set_cons_succ, i64_w, i32_w]
              rfl
            refine one_ (i := 1) (N := some 105) #[true, true, true, true, true, true, true, false, false, false, false, false, false, false, false] rfl rfl (by kernel_rfl) (by decide) (fun K hK => ?_)
            refine goes_ Try.func15 (by kernel_rfl) rfl #[.pointer (some ⟨t, 0, none⟩)] (by rfl) rfl rfl (by (try simp only [List.map_toArray, List.map_cons, List.map_nil]); first | done | rfl) ?_
            refine (open_calls hJ.tw.ts).mono ?_
            rintro e5 w5 ⟨rfl, hb5⟩
            refine ⟨_, rfl, ?_⟩
            have hS_ := hJ.below hb5
            clear hb5
            refine hK.out _ _ hS_ (fun hJ1 => ?_)
            clear hS_
            clear hK K
            refine norm_ (a' := ?_) ?_ ?_
            rotate_left
            · show Act.put _ (some 105) _ = _
              simp only [Act.put, List.setIfInBounds_toArray, List.set_cons_zero, List.set_cons_succ, i64_w, i32_w]
              rfl
            refine pure_ (i := 7) (N := some 111) (v := ?_) (a' := ?_) #[true, true, true, true, true, true, true, true, false, false, false, false, false, false, false] rfl rfl (by kernel_rfl) (fun _ _ _ h => h) (Or.inl ⟨by rfl, ?_⟩) ?_ ?_
            rotate_left
            · intro w'
              go_simp
              with_reducible rfl
            rotate_left
            · simp only [Act.put, List.setIfInBounds_toArray, List.set_cons_zero, List.set_cons_succ, i64_w, i32_w]
              rfl
            refine pure_ (i := 8) (N := some 112) (v := ?_) (a' := ?_) #[true, true, true, true, true, true, true, true, true, false, false, false, false, false, false] rfl rfl (by kernel_rfl) (fun _ _ _ h => h) (Or.inl ⟨by rfl, ?_⟩) ?_ ?_
            rotate_left
            · intro w'
              go_simp
              with_reducible rfl
            rotate_left
            · simp only [Act.put, List.setIfInBounds_toArray, List.set_cons_zero, List.set_cons_succ, i64_w, i32_w]
              rfl
            refine pure_ (i := 9) (N := some 113) (v := ?_) (a' := ?_) #[true, true, true, true, true, true, true, true, true, true, false, false, false, false, false] rfl rfl (by kernel_rfl) (fun _ _ _ h => h) (Or.inl ⟨by rfl, ?_⟩) ?_ ?_
            rotate_left
            · intro w'
              go_simp
              with_reducible rfl
            rotate_left
            · simp only [Act.put, List.setIfInBounds_toArray, List.set_cons_zero, List.set_cons_succ, i64_w, i32_w]
              rfl
            refine pure_ (i := 11) (N := some 115) (v := ?_) (a' := ?_) #[true, true, true, true, true, true, true, true, true, true, false, true, false, false, false] rfl rfl (by kernel_rfl) (fun _ _ _ h => h) (Or.inl ⟨by rfl, ?_⟩) ?_ ?_
            rotate_left
            · intro w'
              go_simp
              with_reducible rfl
            rotate_left
            · simp only [Act.put, List.setIfInBounds_toArray, List.set_cons_zero, List.set_cons_succ, i64_w, i32_w]
              rfl
            refine one_ (i := 10) (N := some 114) #[true, true, true, true, true, true, true, true, true, true, true, true, false, false, false] rfl rfl (by kernel_rfl) (by decide) (fun K hK => ?_)
            refine goes_ Try.func16 (by kernel_rfl) rfl #[.pointer (some ⟨t, 0, none⟩)] (by rfl) rfl rfl (by (try simp only [List.map_toArray, List.map_cons, List.map_nil]); first | done | rfl) ?_
            refine (held_calls hJ1.tw.ts HH4.out HL4.out).mono ?_
            rintro e6 w6 ⟨rfl, hb6⟩
            refine ⟨_, rfl, ?_⟩
            have hS_ := hJ1.below hb6
            clear hb6
            refine hK.out _ _ hS_ (fun hJ2 => ?_)
            clear hS_
            clear hK K
            refine norm_ (a' := ?_) ?_ ?_
            rotate_left
            · show Act.put _ (some 114) _ = _
              simp only [Act.put, List.setIfInBounds_toArray, List.set_cons_zero, List.set_cons_succ, i64_w, i32_w]
              rfl
            refine one_ (i := 12) (N := some 116) #[true, true, true, true, true, true, true, true, true, true, true, true, true, false, false] rfl rfl (by kernel_rfl) (by decide) (fun K hK => ?_)
            refine goes_ Try.func17 (by kernel_rfl) rfl #[.pointer (some ⟨x, 0, none⟩)] (by rfl) rfl rfl (by (try simp only [List.map_toArray, List.map_cons, List.map_nil]); first | done | rfl) ?_
            refine (two_xheld hJ2.tw HL5.out HH4.out HC4.out).mono ?_
            rintro e7 w7 ⟨rfl, hb7⟩
            refine ⟨_, rfl, ?_⟩
            have hS_ := hJ2.below hb7
            clear hb7
            refine hK.out _ _ hS_ (fun hJ3 => ?_)
            clear hS_
            clear hK K
            refine norm_ (a' := ?_) ?_ ?_
            rotate_left
            · show Act.put _ (some 116) _ = _
              simp only [Act.put, List.setIfInBounds_toArray, List.set_cons_zero, List.set_cons_succ, i64_w, i32_w]
              rfl
            refine pure_ (i := 13) (N := some 117) (v := ?_) (a' := ?_) #[true, true, true, true, true, true, true, true, true, true, true, true, true, true, false] rfl rfl (by kernel_rfl) (fun _ _ _ h => h) (Or.inl ⟨by rfl, ?_⟩) ?_ ?_
            rotate_left
            · intro w'
              go_simp
              with_reducible rfl
            rotate_left
            · simp only [Act.put, List.setIfInBounds_toArray, List.set_cons_zero, List.set_cons_succ, i64_w, i32_w]
              rfl
            refine pure_ (i := 14) (N := some 118) (v := ?_) (a' := ?_) #[true, true, true, true, true, true, true, true, true, true, true, true, true, true, true] rfl rfl (by kernel_rfl) (fun _ _ _ h => h) (Or.inl ⟨by rfl, ?_⟩) ?_ ?_
            rotate_left
            · intro w'
              go_simp
              with_reducible rfl
            rotate_left
            · simp only [Act.put, List.setIfInBounds_toArray, List.set_cons_zero, List.set_cons_succ, i64_w, i32_w]
              rfl
            refine done_ (by kernel_rfl) ?_
            have HJ4 := Aside0.mk hJ3
            clear hJ hJ1 hJ2 hJ3
            go_wp2
            go_roundg (l1.length - (j + 1))
            case measure => omega
            case rel => exact ⟨j + 1, own5, ownx5, os5, osx5, by omega, by omega, by go_num, ⟨HJ4.out.tw⟩, HI5, HG5⟩
          | false =>
            obtain ⟨X, hX⟩ : ∃ X, wr.drew = X := ⟨_, rfl⟩
            have hbX : Below wr.heap.size wr X := by rw [← hX]; exact (Below.refl _ _).drew
            have HTX := Aside0.mk (HT.out.below hbX)
            have HPUT := Aside0.mk (put_calls HTX.out.ts HLO.out HI.out y.f1 y.f2.f0 ⟨y.f2.f1, y.f2.f2, y.f2.f3, y.f2.f4, y.f2.f5, y.f2.f6⟩ HGM.out A8 c8 HC8.out.1 (fun U hU => Kd.C_below HC8.out.2 (HTX.out.bl.trans (hU.below HTX.out.bl.size (fun q hq => HTX.out.nw q (.inl hq))))))
            obtain ⟨r, hr⟩ : ∃ r, Room.put L (aOf os) y.f1 ⟨y.f2.f1, y.f2.f2, y.f2.f3, y.f2.f4, y.f2.f5, y.f2.f6⟩ = r := ⟨_, rfl⟩
            rw [hr] at HPUT
            have HRR := Aside0.mk hr
            obtain ⟨hx1, hx2, hx3, hx4, hx5, hx6, hx7, hx8⟩ := HCELLS.out
            replace hx1 := pw_cell_below HTX.out.bl hx1
            replace hx2 := pw_cell_below HTX.out.bl hx2
            replace hx3 := pw_cell_below HTX.out.bl hx3
            replace hx4 := pw_cell_below HTX.out.bl hx4
            replace hx5 := pw_cell_below HTX.out.bl hx5
            replace hx6 := pw_cell_below HTX.out.bl hx6
            replace hx7 := pw_cell_below HTX.out.bl hx7
            replace hx8 := pw_cell_below HTX.out.bl hx8
            clear hbX hr
            go_wp2_with fail
            refine start_ (n := 19) (S := fun V => V = X) (ds := [11]) #[false, false, false, false, false, false, false, false, false, false, false, false, false, false, false, false, false, false, false] (by kernel_rfl) rfl rfl hX (fun hH => ?_)
            rw [hX] at hH ⊢
            clear hX q0
            refine pure_ (i := 0) (N := some 59) (v := ?_) (a' := ?_) #[true, false, false, false, false, false, false, false, false, false, false, false, false, false, false, false, false, false, false] rfl rfl (by kernel_rfl) (fun _ _ _ h => h) (Or.inl ⟨by rfl, ?_⟩) ?_ ?_
            rotate_left
            · intro w'
              go_simp
              with_reducible rfl
            rotate_left
            · simp only [Act.put, List.setIfInBounds_toArray, List.set_cons_zero, List.set_cons_succ, i64_w, i32_w]
              rfl
            refine pure_ (i := 1) (N := some 60) (v := ?_) (a' := ?_) #[true, true, false, false, false, false, false, false, false, false, false, false, false, false, false, false, false, false, false] rfl rfl (by kernel_rfl) (fun _ _ _ h => h) (Or.inl ⟨by rfl, ?_⟩) ?_ ?_
            rotate_left
            · intro w'
              go_simp
              with_reducible rfl
            rotate_left
            · simp only [Act.put, List.setIfInBounds_toArray, List.set_cons_zero, List.set_cons_succ, i64_w, i32_w]
              rfl
            refine pure_ (i := 2) (N := some 61) (v := ?_) (a' := ?_) #[true, true, true, false, false, false, false, false, false, false, false, false, false, false, false, false, false, false, false] rfl rfl (by kernel_rfl) (fun _ _ _ h => h) (Or.inl ⟨by rfl, ?_⟩) ?_ ?_
            rotate_left
            · intro w'
              go_simp
              with_reducible rfl
            rotate_left
            · simp only [Act.put, List.setIfInBounds_toArray, List.set_cons_zero, List.set_cons_succ, i64_w, i32_w]
              rfl
            refine pure_ (i := 3) (N := some 62) (v := ?_) (a' := ?_) #[true, true, true, true, false, false, false, false, false, false, false, false, false, false, false, false, false, false, false] rfl rfl (by kernel_rfl) (fun _ _ _ h => h) (Or.inl ⟨by rfl, ?_⟩) ?_ ?_
            rotate_left
            · intro w'
              go_simp
              with_reducible rfl
            rotate_left
            · simp only [Act.put, List.setIfInBounds_toArray, List.set_cons_zero, List.set_cons_succ, i64_w, i32_w]
              rfl
            refine pure_ (i := 4) (N := some 63) (v := ?_) (a' := ?_) #[true, true, true, true, true, false, false, false, false, false, false, false, false, false, false, false, false, false, false] rfl rfl (by kernel_rfl) (fun _ _ _ h => h) (Or.inl ⟨by rfl, ?_⟩) ?_ ?_
            rotate_left
            · intro w'
              go_simp
              with_reducible rfl
            rotate_left
            · simp only [Act.put, List.setIfInBounds_toArray, List.set_cons_zero, List.set_cons_succ, i64_w, i32_w]
              rfl
            refine take_ (i := 5) (N := some 64) (v := ?_) (a' := ?_) #[true, true, true, true, true, true, false, false, false, false, false, false, false, false, false, false, false, false, false] rfl rfl (by kernel_rfl) (fun _ _ _ h => h) (Or.inl ⟨by rfl, ?_⟩) hH ?_ ?_
            rotate_left
            · rintro w' rfl
              go_simp
              with_reducible rfl
            rotate_left
            · simp only [Act.put, List.setIfInBounds_toArray, List.set_cons_zero, List.set_cons_succ, i64_w, i32_w]
              rfl
            refine pure_ (i := 6) (N := some 65) (v := ?_) (a' := ?_) #[true, true, true, true, true, true, true, false, false, false, false, false, false, false, false, false, false, false, false] rfl rfl (by kernel_rfl) (fun _ _ _ h => h) (Or.inl ⟨by rfl, ?_⟩) ?_ ?_
            rotate_left
            · intro w'
              go_simp
              with_reducible rfl
            rotate_left
            · simp only [Act.put, List.setIfInBounds_toArray, List.set_cons_zero, List.set_cons_succ, i64_w, i32_w]
              rfl
            refine pure_ (i := 7) (N := some 66) (v := ?_) (a' := ?_) #[true, true, true, true, true, true, true, true, false, false, false, false, false, false, false, false, false, false, false] rfl rfl (by kernel_rfl) (fun _ _ _ h => h) (Or.inl ⟨by rfl, ?_⟩) ?_ ?_
            rotate_left
            · intro w'
              go_simp
              with_reducible rfl
            rotate_left
            · simp only [Act.put, List.setIfInBounds_toArray, List.set_cons_zero, List.set_cons_succ, i64_w, i32_w]
              rfl
            refine pure_ (i := 8) (N := some 67) (v := ?_) (a' := ?_) #[true, true, true, true, true, true, true, true, true, false, false, false, false, false, false, false, false, false, false] rfl rfl (by kernel_rfl) (fun _ _ _ h => h) (Or.inl ⟨by rfl, ?_⟩) ?_ ?_
            rotate_left
            · intro w'
              go_simp
              with_reducible rfl
            rotate_left
            · simp only [Act.put, List.setIfInBounds_toArray, List.set_cons_zero, List.set_cons_succ, i64_w, i32_w]
              rfl
            refine pure_ (i := 9) (N := some 68) (v := ?_) (a' := ?_) #[true, true, true, true, true, true, true, true, true, true, false, false, false, false, false, false, false, false, false] rfl rfl (by kernel_rfl) (fun _ _ _ h => h) (Or.inl ⟨by rfl, ?_⟩) ?_ ?_
            rotate_left
            · intro w'
              go_simp
              with_reducible rfl
            rotate_left
            · simp only [Act.put, List.setIfInBounds_toArray, List.set_cons_zero, List.set_cons_succ, i64_w, i32_w]
              rfl
            refine take_ (i := 10) (N := some 69) (v := ?_) (a' := ?_) #[true, true, true, true, true, true, true, true, true, true, true, false, false, false, false, false, false, false, false] rfl rfl (by kernel_rfl) (fun _ _ _ h => h) (Or.inl ⟨by rfl, ?_⟩) hH ?_ ?_
            rotate_left
            · rintro w' rfl
              go_simp
              with_reducible rfl
            rotate_left
            · simp only [Act.put, List.setIfInBounds_toArray, List.set_cons_zero, List.set_cons_succ, i64_w, i32_w]
              rfl
            refine last_ (i := 11) (N := some 70) #[true, true, true, true, true, true, true, true, true, true, true, true, false, false, false, false, false, false, false] rfl rfl (by kernel_rfl) (by decide) (fun K hK => ?_)
            refine goes_ Try.func13 (by kernel_rfl) rfl #[.pointer (some ⟨t, 0, none⟩), .int .u16 y.f1, .agg #[.int .u8 y.f2.f0, .int .u8 y.f2.f1, .int .u32 y.f2.f2, .int .u32 y.f2.f3, .int .u16 y.f2.f4, .int .u16 y.f2.f5, .slice A8 y.f2.f6.length c8]] (by rfl) rfl rfl (by (try simp only [List.map_toArray, List.map_cons, List.map_nil]); first | done | rfl) ?_
            refine HPUT.out.mono ?_
            rintro e3 w3 ⟨hf3, own3, os3, v3, hT3, ho3, ha3, rfl, A3, c3, rfl, hl3, hst3⟩
            refine ⟨_, rfl, ?_⟩
            refine hK.out _ _ ?_
            clear hK K
            refine norm_ (a' := ?_) ?_ ?_
            rotate_left
            · show Act.put _ (some 70) _ = _
              simp only [Act.put, List.setIfInBounds_toArray, List.set_cons_zero, List.set_cons_succ, i64_w, i32_w]
              rfl
            refine pure_ (i := 12) (N := some 58) (v := ?_) (a' := ?_) #[true, true, true, true, true, true, true, true, true, true, true, true, true, false, false, false, false, false, false] rfl rfl (by kernel_rfl) (fun _ _ _ h => h) (Or.inl ⟨by rfl, ?_⟩) ?_ ?_
            rotate_left
            · intro w'
              go_simp
              with_reducible rfl
            rotate_left
            · simp only [Act.put, List.setIfInBounds_toArray, List.set_cons_zero, List.set_cons_succ, i64_w, i32_w]
              rfl
            refine pure_ (i := 13) (N := some 71) (v := ?_) (a' := ?_) #[true, true, true, true, true, true, true, true, true, true, true, true, true, true, false, false, false, false, false] rfl rfl (by kernel_rfl) (fun _ _ _ h => h) (Or.inl ⟨by rfl, ?_⟩) ?_ ?_
            rotate_left
            · intro w'
              go_simp
              with_reducible rfl
            rotate_left
            · simp only [Act.put, List.setIfInBounds_toArray, List.set_cons_zero, List.set_cons_succ, i64_w, i32_w]
              rfl
            refine pure_ (i := 14) (N := some 72) (v := ?_) (a' := ?_) #[true, true, true, true, true, true, true, true, true, true, true, true, true, true, true, false, false, false, false] rfl rfl (by kernel_rfl) (fun _ _ _ h => h) (Or.inl ⟨by rfl, ?_⟩) ?_ ?_
            rotate_left
            · intro w'
              go_simp
              with_reducible rfl
            rotate_left
            · simp only [Act.put, List.setIfInBounds_toArray, List.set_cons_zero, List.set_cons_succ, i64_w, i32_w]
              rfl
            refine pure_ (i := 15) (N := some 73) (v := ?_) (a' := ?_) #[true, true, true, true, true, true, true, true, true, true, true, true, true, true, true, true, false, false, false] rfl rfl (by kernel_rfl) (fun _ _ _ h => h) (Or.inl ⟨by rfl, ?_⟩) ?_ ?_
            rotate_left
            · intro w'
              go_simp
              with_reducible rfl
            rotate_left
            · simp only [Act.put, List.setIfInBounds_toArray, List.set_cons_zero, List.set_cons_succ, i64_w, i32_w]
              rfl
            refine pure_ (i := 16) (N := some 10) (v := ?_) (a' := ?_) #[true, true, true, true, true, true, true, true, true, true, true, true, true, true, true, true, true, false, false] rfl rfl (by kernel_rfl) (fun _ _ _ h => h) (Or.inl ⟨by rfl, ?_⟩) ?_ ?_
            rotate_left
            · intro w'
              go_simp
              with_reducible rfl
            rotate_left
            · simp only [Act.put, List.setIfInBounds_toArray, List.set_cons_zero, List.set_cons_succ, i64_w, i32_w]
              rfl
            refine pure_ (i := 17) (N := some 11) (v := ?_) (a' := ?_) #[true, true, true, true, true, true, true, true, true, true, true, true, true, true, true, true, true, true, false] rfl rfl (by kernel_rfl) (fun _ _ _ h => h) (Or.inl ⟨by rfl, ?_⟩) ?_ ?_
            rotate_left
            · intro w'
              go_simp
              with_reducible rfl
            rotate_left
            · simp only [Act.put, List.setIfInBounds_toArray, List.set_cons_zero, List.set_cons_succ, i64_w, i32_w]
              rfl
            refine pure_ (i := 18) (N := some 12) (v := ?_) (a' := ?_) #[true, true, true, true, true, true, true, true, true, true, true, true, true, true, true, true, true, true, true] rfl rfl (by kernel_rfl) (fun _ _ _ h => h) (Or.inl ⟨by rfl, ?_⟩) ?_ ?_
            rotate_left
            · intro w'
              go_simp
              with_reducible rfl
            rotate_left
            · simp only [Act.put, List.setIfInBounds_toArray, List.set_cons_zero, List.set_cons_succ, i64_w, i32_w]
              rfl
            refine done_ (by kernel_rfl) ?_
            clear hH hx1 hx2 hx3 hx4 hx5 hx6 hx7 hx8
            obtain ⟨Z, hZ⟩ : ∃ Z, w3.drew = Z := ⟨_, rfl⟩
            have hbZ : Below w3.heap.size w3 Z := by rw [← hZ]; exact (Below.refl _ _).drew
            have hX3 := (HTX.out.xs.frame hf3 (fun q h1 h2 => HTX.out.ap q h2 h1)).below hbZ
            have hB3 : Below w.heap.size w Z := below_then (HTX.out.bl.trans (hf3.below HTX.out.bl.size (fun q hq => HTX.out.nw q (.inl hq)))) (Nat.le_trans HTX.out.bl.size hf3.size) hbZ
            have hxput := xput_calls hX3 HLO.out (by rw [HTX.out.eq]; exact HI.out) y.f1 y.f2.f0 ⟨y.f2.f1, y.f2.f2, y.f2.f3, y.f2.f4, y.f2.f5, y.f2.f6⟩ HGM.out A8 c8 HC8.out.1 (fun U hU => Kd.C_below HC8.out.2 (hB3.trans (hU.below hB3.size (fun q hq => HTX.out.nw q (.inr hq)))))
            rw [HTX.out.eq, HRR.out] at hxput
            have HXPUT := Aside0.mk hxput
            have HBZ := Aside0.mk hbZ
            have HF3 := Aside0.mk hf3
            have HT3 := Aside0.mk hT3
            have HO3 := Aside0.mk ho3
            have HA3 := Aside0.mk ha3
            have HL3 := Aside0.mk hl3
            have HST3 := Aside0.mk hst3
            obtain ⟨hx1, hx2, hx3, hx4, hx5, hx6, hx7, hx8⟩ := HCELLS.out
            replace hx1 := pw_cell_below hB3 hx1
            replace hx2 := pw_cell_below hB3 hx2
            replace hx3 := pw_cell_below hB3 hx3
            replace hx4 := pw_cell_below hB3 hx4
            replace hx5 := pw_cell_below hB3 hx5
            replace hx6 := pw_cell_below hB3 hx6
            replace hx7 := pw_cell_below hB3 hx7
            replace hx8 := pw_cell_below hB3 hx8
            clear hbZ hX3 hxput hf3 hT3 ho3 ha3 hl3 hst3 hB3
            go_wp2_with fail
            refine start_ (n := 19) (S := fun V => V = Z) (ds := [11]) #[false, false, false, false, false, false, false, false, false, false, false, false, false, false, false, false, false, false, false] (by kernel_rfl) rfl rfl hZ (fun hG => ?_)
            rw [hZ] at hG ⊢
            clear hZ
            refine pure_ (i := 0) (N := some 75) (v := ?_) (a' := ?_) #[true, false, false, false, false, false, false, false, false, false, false, false, false, false, false, false, false, false, false] rfl rfl (by kernel_rfl) (fun _ _ _ h => h) (Or.inl ⟨by rfl, ?_⟩) ?_ ?_
            rotate_left
            · intro w'
              go_simp
              with_reducible rfl
            rotate_left
            · simp only [Act.put, List.setIfInBounds_toArray, List.set_cons_zero, List.set_cons_succ, i64_w, i32_w]
              rfl
            refine pure_ (i := 1) (N := some 76) (v := ?_) (a' := ?_) #[true, true, false, false, false, false, false, false, false, false, false, false, false, false, false, false, false, false, false] rfl rfl (by kernel_rfl) (fun _ _ _ h => h) (Or.inl ⟨by rfl, ?_⟩) ?_ ?_
            rotate_left
            · intro w'
              go_simp
              with_reducible rfl
            rotate_left
            · simp only [Act.put, List.setIfInBounds_toArray, List.set_cons_zero, List.set_cons_succ, i64_w, i32_w]
              rfl
            refine pure_ (i := 2) (N := some 77) (v := ?_) (a' := ?_) #[true, true, true, false, false, false, false, false, false, false, false, false, false, false, false, false, false, false, false] rfl rfl (by kernel_rfl) (fun _ _ _ h => h) (Or.inl ⟨by rfl, ?_⟩) ?_ ?_
            rotate_left
            · intro w'
              go_simp
              with_reducible rfl
            rotate_left
            · simp only [Act.put, List.setIfInBounds_toArray, List.set_cons_zero, List.set_cons_succ, i64_w, i32_w]
              rfl
            refine pure_ (i := 3) (N := some 78) (v := ?_) (a' := ?_) #[true, true, true, true, false, false, false, false, false, false, false, false, false, false, false, false, false, false, false] rfl rfl (by kernel_rfl) (fun _ _ _ h => h) (Or.inl ⟨by rfl, ?_⟩) ?_ ?_
            rotate_left
            · intro w'
              go_simp
              with_reducible rfl
            rotate_left
            · simp only [Act.put, List.setIfInBounds_toArray, List.set_cons_zero, List.set_cons_succ, i64_w, i32_w]
              rfl
            refine pure_ (i := 4) (N := some 79) (v := ?_) (a' := ?_) #[true, true, true, true, true, false, false, false, false, false, false, false, false, false, false, false, false, false, false] rfl rfl (by kernel_rfl) (fun _ _ _ h => h) (Or.inl ⟨by rfl, ?_⟩) ?_ ?_
            rotate_left
            · intro w'
              go_simp
              with_reducible rfl
            rotate_left
            · simp only [Act.put, List.setIfInBounds_toArray, List.set_cons_zero, List.set_cons_succ, i64_w, i32_w]
              rfl
            refine take_ (i := 5) (N := some 80) (v := ?_) (a' := ?_) #[true, true, true, true, true, true, false, false, false, false, false, false, false, false, false, false, false, false, false] rfl rfl (by kernel_rfl) (fun _ _ _ h => h) (Or.inl ⟨by rfl, ?_⟩) hG ?_ ?_
            rotate_left
            · rintro w' rfl
              go_simp
              with_reducible rfl
            rotate_left
            · simp only [Act.put, List.setIfInBounds_toArray, List.set_cons_zero, List.set_cons_succ, i64_w, i32_w]
              rfl
            refine pure_ (i := 6) (N := some 81) (v := ?_) (a' := ?_) #[true, true, true, true, true, true, true, false, false, false, false, false, false, false, false, false, false, false, false] rfl rfl (by kernel_rfl) (fun _ _ _ h => h) (Or.inl ⟨by rfl, ?_⟩) ?_ ?_
            rotate_left
            · intro w'
              go_simp
              with_reducible rfl
            rotate_left
            · simp only [Act.put, List.setIfInBounds_toArray, List.set_cons_zero, List.set_cons_succ, i64_w, i32_w]
              rfl
            refine pure_ (i := 7) (N := some 82) (v := ?_) (a' := ?_) #[true, true, true, true, true, true, true, true, false, false, false, false, false, false, false, false, false, false, false] rfl rfl (by kernel_rfl) (fun _ _ _ h => h) (Or.inl ⟨by rfl, ?_⟩) ?_ ?_
            rotate_left
            · intro w'
              go_simp
              with_reducible rfl
            rotate_left
            · simp only [Act.put, List.setIfInBounds_toArray, List.set_cons_zero, List.set_cons_succ, i64_w, i32_w]
              rfl
            refine pure_ (i := 8) (N := some 83) (v := ?_) (a' := ?_) #[true, true, true, true, true, true, true, true, true, false, false, false, false, false, false, false, false, false, false] rfl rfl (by kernel_rfl) (fun _ _ _ h => h) (Or.inl ⟨by rfl, ?_⟩) ?_ ?_
            rotate_left
            · intro w'
              go_simp
              with_reducible rfl
            rotate_left
            · simp only [Act.put, List.setIfInBounds_toArray, List.set_cons_zero, List.set_cons_succ, i64_w, i32_w]
              rfl
            refine pure_ (i := 9) (N := some 84) (v := ?_) (a' := ?_) #[true, true, true, true, true, true, true, true, true, true, false, false, false, false, false, false, false, false, false] rfl rfl (by kernel_rfl) (fun _ _ _ h => h) (Or.inl ⟨by rfl, ?_⟩) ?_ ?_
            rotate_left
            · intro w'
              go_simp
              with_reducible rfl
            rotate_left
            · simp only [Act.put, List.setIfInBounds_toArray, List.set_cons_zero, List.set_cons_succ, i64_w, i32_w]
              rfl
            refine take_ (i := 10) (N := some 85) (v := ?_) (a' := ?_) #[true, true, true, true, true, true, true, true, true, true, true, false, false, false, false, false, false, false, false] rfl rfl (by kernel_rfl) (fun _ _ _ h => h) (Or.inl ⟨by rfl, ?_⟩) hG ?_ ?_
            rotate_left
            · rintro w' rfl
              go_simp
              with_reducible rfl
            rotate_left
            · simp only [Act.put, List.setIfInBounds_toArray, List.set_cons_zero, List.set_cons_succ, i64_w, i32_w]
              rfl
            refine last_ (i := 11) (N := some 86) #[true, true, true, true, true, true, true, true, true, true, true, true, false, false, false, false, false, false, false] rfl rfl (by kernel_rfl) (by decide) (fun K hK => ?_)
            refine goes_ Try.func14 (by kernel_rfl) rfl #[.pointer (some ⟨x, 0, none⟩), .int .u16 y.f1, .agg #[.int .u8 y.f2.f0, .int .u8 y.f2.f1, .int .u32 y.f2.f2, .int .u32 y.f2.f3, .int .u16 y.f2.f4, .int .u16 y.f2.f5, .slice A8 y.f2.f6.length c8]] (by rfl) rfl rfl (by (try simp only [List.map_toArray, List.map_cons, List.map_nil]); first | done | rfl) ?_
            refine HXPUT.out.mono ?_
            rintro e4 w4 ⟨hf4, ownx4, osx4, hX4, hox4, hax4, rfl⟩
            refine ⟨_, rfl, ?_⟩
            refine hK.out _ _ ?_
            clear hK K
            refine norm_ (a' := ?_) ?_ ?_
            rotate_left
            · show Act.put _ (some 86) _ = _
              simp only [Act.put, List.setIfInBounds_toArray, List.set_cons_zero, List.set_cons_succ, i64_w, i32_w]
              rfl
            refine pure_ (i := 12) (N := some 74) (v := ?_) (a' := ?_) #[true, true, true, true, true, true, true, true, true, true, true, true, true, false, false, false, false, false, false] rfl rfl (by kernel_rfl) (fun _ _ _ h => h) (Or.inl ⟨by rfl, ?_⟩) ?_ ?_
            rotate_left
            · intro w'
              go_simp
              with_reducible rfl
            rotate_left
            · simp only [Act.put, List.setIfInBounds_toArray, List.set_cons_zero, List.set_cons_succ, i64_w, i32_w]
              rfl
            refine pure_ (i := 13) (N := some 87) (v := ?_) (a' := ?_) #[true, true, true, true, true, true, true, true, true, true, true, true, true, true, false, false, false, false, false] rfl rfl (by kernel_rfl) (fun _ _ _ h => h) (Or.inl ⟨by rfl, ?_⟩) ?_ ?_
            rotate_left
            · intro w'
              go_simp
              with_reducible rfl
            rotate_left
            · simp only [Act.put, List.setIfInBounds_toArray, List.set_cons_zero, List.set_cons_succ, i64_w, i32_w]
              rfl
            refine pure_ (i := 14) (N := some 88) (v := ?_) (a' := ?_) #[true, true, true, true, true, true, true, true, true, true, true, true, true, true, true, false, false, false, false] rfl rfl (by kernel_rfl) (fun _ _ _ h => h) (Or.inl ⟨by rfl, ?_⟩) ?_ ?_
            rotate_left
            · intro w'
              go_simp
              with_reducible rfl
            rotate_left
            · simp only [Act.put, List.setIfInBounds_toArray, List.set_cons_zero, List.set_cons_succ, i64_w, i32_w]
              rfl
            refine pure_ (i := 15) (N := some 89) (v := ?_) (a' := ?_) #[true, true, true, true, true, true, true, true, true, true, true, true, true, true, true, true, false, false, false] rfl rfl (by kernel_rfl) (fun _ _ _ h => h) (Or.inl ⟨by rfl, ?_⟩) ?_ ?_
            rotate_left
            · intro w'
              go_simp
              with_reducible rfl
            rotate_left
            · simp only [Act.put, List.setIfInBounds_toArray, List.set_cons_zero, List.set_cons_succ, i64_w, i32_w]
              rfl
            refine pure_ (i := 16) (N := some 13) (v := ?_) (a' := ?_) #[true, true, true, true, true, true, true, true, true, true, true, true, true, true, true, true, true, false, false] rfl rfl (by kernel_rfl) (fun _ _ _ h => h) (Or.inl ⟨by rfl, ?_⟩) ?_ ?_
            rotate_left
            · intro w'
              go_simp
              with_reducible rfl
            rotate_left
            · simp only [Act.put, List.setIfInBounds_toArray, List.set_cons_zero, List.set_cons_succ, i64_w, i32_w]
              rfl
            refine pure_ (i := 17) (N := some 14) (v := ?_) (a' := ?_) #[true, true, true, true, true, true, true, true, true, true, true, true, true, true, true, true, true, true, false] rfl rfl (by kernel_rfl) (fun _ _ _ h => h) (Or.inl ⟨by rfl, ?_⟩) ?_ ?_
            rotate_left
            · intro w'
              go_simp
              with_reducible rfl
            rotate_left
            · simp only [Act.put, List.setIfInBounds_toArray, List.set_cons_zero, List.set_cons_succ, i64_w, i32_w]
              rfl
            refine pure_ (i := 18) (N := some 15) (v := ?_) (a' := ?_) #[true, true, true, true, true, true, true, true, true, true, true, true, true, true, true, true, true, true, true] rfl rfl (by kernel_rfl) (fun _ _ _ h => h) (Or.inl ⟨by rfl, ?_⟩) ?_ ?_
            rotate_left
            · intro w'
              go_simp
              with_reducible rfl
            rotate_left
            · simp only [Act.put, List.setIfInBounds_toArray, List.set_cons_zero, List.set_cons_succ, i64_w, i32_w]
              rfl
            refine done_ (by kernel_rfl) ?_
            clear hG hx1 hx2 hx3 hx4 hx5 hx6 hx7 hx8
            have HT5' := put_both HTX.out HF3.out HT3.out HO3.out HBZ.out HA3.out hf4 hX4 hox4 hax4
            have hcv : (Go.convert 36 9 (.slice A3 r.2.1.length c3)).run Try.prog w4 = .ok (.string (strOfNums r.2.1)) w4 := Kd.C_string (P := Try.prog) (A := A3) (c := c3) Try.underlying36 Try.underlying5 Try.underlying9 (HST3.out ownx' w4 ((Fr.of_below HBZ.out).then_ hf4 (fun q _ h => h)) (fun q hq => .inr (HTX.out.xs.lt q hq)))
            have HI5 : Aside0 (RInv L (aOf os3)) := ⟨by rw [HA3.out, ← HRR.out]; exact put_inv HLO.out HI.out _ _ HGM.out⟩
            have HG5 : Aside0 (AgeIn L 0 (aOf os3)) := ⟨by rw [HA3.out, ← HRR.out]; exact put_age HLO.out HG.out _ _⟩
            obtain ⟨own5, hown5⟩ : ∃ own5, own3 = own5 := ⟨_, rfl⟩
            obtain ⟨ownx5, hownx5⟩ : ∃ ownx5, ownx4 = ownx5 := ⟨_, rfl⟩
            obtain ⟨osx5, hosx5⟩ : ∃ osx5, osx4 = osx5 := ⟨_, rfl⟩
            obtain ⟨os5, hos5⟩ : ∃ os5, os3 = os5 := ⟨_, rfl⟩
            rw [hown5, hownx5, hosx5, hos5] at HT5'
            rw [hos5] at HI5 HG5
            have HT5 := Aside0.mk HT5'
            clear HT5' hown5 hownx5 hosx5 hos5 hf4 hX4 hox4 hax4
            have HH4 : Aside0 (Room.held (aOf os5) ≤ 4611686018427387904) := ⟨by have h1 := HI5.out.hd; have h2 := HLO.out.b2; omega⟩
            have HL4 : Aside0 (os5.length ≤ 140737488355328) := ⟨by have h1 := HI5.out.ln; have h2 := HLO.out.o2; rw [aOf_len] at h1; omega⟩
            have HL5 : Aside0 (os5.length ≤ 1000) := ⟨by have h1 := HI5.out.ln; have h2 := HLO.out.o2; rw [aOf_len] at h1; omega⟩
            have HC4 : Aside0 (∀ o ∈ os5, 1 ≤ o.a.cnt ∧ o.a.cnt ≤ 65535) := ⟨fun o ho => HI5.out.ct o.a (List.mem_map.2 ⟨o, ho, rfl⟩)⟩
            go_wp2_with fail
            clear hcv
            obtain ⟨Y, hY⟩ : ∃ Y, w4.drew = Y := ⟨_, rfl⟩
            have hbY : Below w4.heap.size w4 Y := by rw [← hY]; exact (Below.refl _ _).drew
            obtain ⟨⟨A5, c5⟩, hrow5⟩ := HT5.out.row
            have hs1 : TwR own5 ownx5 t x L os5 osx5 w (.slice A5 os5.length c5) w4.drew := by rw [hY]; exact TwR.below ⟨HT5.out, hrow5⟩ hbY
            clear hrow5
            clear hbY
            go_wp2_with fail
            refine start_ (n := 15) (S := TwR own5 ownx5 t x L os5 osx5 w (.slice A5 os5.length c5)) (ds := []) #[false, false, false, false, false, false, false, false, false, false, false, false, false, false, false] (by kernel_rfl) rfl rfl hs1 (fun hJ => ?_)
            rw [hY] at hJ ⊢
            clear hs1 hY
            refine pure_ (i := 0) (N := some 104) (v := ?_) (a' := ?_) #[true, false, false, false, false, false, false, false, false, false, false, false, false, false, false] rfl rfl (by kernel_rfl) (fun _ _ _ h => h) (Or.inl ⟨by rfl, ?_⟩) ?_ ?_
            rotate_left
            · intro w'
              go_simp
              with_reducible rfl
            rotate_left
            · simp only [Act.put, List.setIfInBounds_toArray, List.set_cons_zero, List.set_cons_succ, i64_w, i32_w]
              rfl
            refine pure_ (i := 2) (N := some 106) (v := ?_) (a' := ?_) #[true, false, true, false, false, false, false, false, false, false, false, false, false, false, false] rfl rfl (by kernel_rfl) (fun _ _ _ h => h) (Or.inl ⟨by rfl, ?_⟩) ?_ ?_
            rotate_left
            · intro w'
              go_simp
              with_reducible rfl
            rotate_left
            · simp only [Act.put, List.setIfInBounds_toArray, List.set_cons_zero, List.set_cons_succ, i64_w, i32_w]
              rfl
            refine pure_ (i := 3) (N := some 107) (v := ?_) (a' := ?_) #[true, false, true, true, false, false, false, false, false, false, false, false, false, false, false] rfl rfl (by kernel_rfl) (fun _ _ _ h => h) (Or.inl ⟨by rfl, ?_⟩) ?_ ?_
            rotate_left
            · intro w'
              go_simp
              with_reducible rfl
            rotate_left
            · simp only [Act.put, List.setIfInBounds_toArray, List.set_cons_zero, List.set_cons_succ, i64_w, i32_w]
              rfl
            refine pure_ (i := 4) (N := some 108) (v := ?_) (a' := ?_) #[true, false, true, true, true, false, false, false, false, false, false, false, false, false, false] rfl rfl (by kernel_rfl) (fun _ _ _ h => h) (Or.inl ⟨by rfl, ?_⟩) ?_ ?_
            rotate_left
            · intro w'
              go_simp
              with_reducible rfl
            rotate_left
            · simp only [Act.put, List.setIfInBounds_toArray, List.set_cons_zero, List.set_cons_succ, i64_w, i32_w]
              rfl
            refine take_ (i := 5) (N := some 109) (v := ?_) (a' := ?_) #[true, false, true, true, true, true, false, false, false, false, false, false, false, false, false] rfl rfl (by kernel_rfl) (fun _ _ _ h => h) (Or.inl ⟨by rfl, ?_⟩) hJ ?_ ?_
            rotate_left
            · rintro w' hs_
              have q0 := hs_.c3
              go_simp
              with_reducible rfl
            rotate_left
            · simp only [Act.put, List.setIfInBounds_toArray, List.set_cons_zero, List.set_cons_succ, i64_w, i32_w]
              rfl
            refine pure_ (i := 6) (N := some 110) (v := ?_) (a' := ?_) #[true, false, true, true, true, true, true, false, false, false, false, false, false, false, false] rfl rfl (by kernel_rfl) (fun _ _ _ h => h) (Or.inl ⟨by rfl, ?_⟩) ?_ ?_
            rotate_left
            · intro w'
              go_simp
              with_reducible rfl
            rotate_left
            · simp only [Act.put, List.setIfInBounds_toArray, List.set_cons_zero, List.set_cons_succ, i64_w, i32_w]
              rfl
            refine one_ (i := 1) (N := some 105) #[true, true, true, true, true, true, true, false, false, false, false, false, false, false, false] rfl rfl (by kernel_rfl) (by decide) (fun K hK => ?_)
            refine goes_ Try.func15 (by kernel_rfl) rfl #[.pointer (some ⟨t, 0, none⟩)] (by rfl) rfl rfl (by (try simp only [List.map_toArray, List.map_cons, List.map_nil]); first | done | rfl) ?_
            refine (open_calls hJ.tw.ts).mono ?_
            rintro e5 w5 ⟨rfl, hb5⟩
            refine ⟨_, rfl, ?_⟩
            have hS_ := hJ.below hb5
            clear hb5
            refine hK.out _ _ hS_ (fun hJ1 => ?_)
            clear hS_
            clear hK K
            refine norm_ (a' := ?_) ?_ ?_
            rotate_left
            · show Act.put _ (some 105) _ = _
              simp only [Act.put, List.setIfInBounds_toArray, List.set_cons_zero, List.set_cons_succ, i64_w, i32_w]
              rfl
            refine pure_ (i := 7) (N := some 111) (v := ?_) (a' := ?_) #[true, true, true, true, true, true, true, true, false, false, false, false, false, false, false] rfl rfl (by kernel_rfl) (fun _ _ _ h => h) (Or.inl ⟨by rfl, ?_⟩) ?_ ?_
            rotate_left
            · intro w'
              go_simp
              with_reducible rfl
            rotate_left
            · simp only [Act.put, List.setIfInBounds_toArray, List.set_cons_zero, List.set_cons_succ, i64_w, i32_w]
              rfl
            refine pure_ (i := 8) (N := some 112) (v := ?_) (a' := ?_) #[true, true, true, true, true, true, true, true, true, false, false, false, false, false, false] rfl rfl (by kernel_rfl) (fun _ _ _ h => h) (Or.inl ⟨by rfl, ?_⟩) ?_ ?_
            rotate_left
            · intro w'
              go_simp
              with_reducible rfl
            rotate_left
            · simp only [Act.put, List.setIfInBounds_toArray, List.set_cons_zero, List.set_cons_succ, i64_w, i32_w]
              rfl
            refine pure_ (i := 9) (N := some 113) (v := ?_) (a' := ?_) #[true, true, true, true, true, true, true, true, true, true, false, false, false, false, false] rfl rfl (by kernel_rfl) (fun _ _ _ h => h) (Or.inl ⟨by rfl, ?_⟩) ?_ ?_
            rotate_left
            · intro w'
              go_simp
              with_reducible rfl
            rotate_left
            · simp only [Act.put, List.setIfInBounds_toArray, List.set_cons_zero, List.set_cons_succ, i64_w, i32_w]
              rfl
            refine pure_ (i := 11) (N := some 115) (v := ?_) (a' := ?_) #[true, true, true, true, true, true, true, true, true, true, false, true, false, false, false] rfl rfl (by kernel_rfl) (fun _ _ _ h => h) (Or.inl ⟨by rfl, ?_⟩) ?_ ?_
            rotate_left
            · intro w'
              go_simp
              with_reducible rfl
            rotate_left
            · simp only [Act.put, List.setIfInBounds_toArray, List.set_cons_zero, List.set_cons_succ, i64_w, i32_w]
              rfl
            refine one_ (i := 10) (N := some 114) #[true, true, true, true, true, true, true, true, true, true, true, true, false, false, false] rfl rfl (by kernel_rfl) (by decide) (fun K hK => ?_)
            refine goes_ Try.func16 (by kernel_rfl) rfl #[.pointer (some ⟨t, 0, none⟩)] (by rfl) rfl rfl (by (try simp only [List.map_toArray, List.map_cons, List.map_nil]); first | done | rfl) ?_
            refine (held_calls hJ1.tw.ts HH4.out HL4.out).mono ?_
            rintro e6 w6 ⟨rfl, hb6⟩
            refine ⟨_, rfl, ?_⟩
            have hS_ := hJ1.below hb6
            clear hb6
            refine hK.out _ _ hS_ (fun hJ2 => ?_)
            clear hS_
            clear hK K
            refine norm_ (a' := ?_) ?_ ?_
            rotate_left
            · show Act.put _ (some 114) _ = _
              simp only [Act.put, List.setIfInBounds_toArray, List.set_cons_zero, List.set_cons_succ, i64_w, i32_w]
              rfl
            refine one_ (i := 12) (N := some 116) #[true, true, true, true, true, true, true, true, true, true, true, true, true, false, false] rfl rfl (by kernel_rfl) (by decide) (fun K hK => ?_)
            refine goes_ Try.func17 (by kernel_rfl) rfl #[.pointer (some ⟨x, 0, none⟩)] (by rfl) rfl rfl (by (try simp only [List.map_toArray, List.map_cons, List.map_nil]); first | done | rfl) ?_
            refine (two_xheld hJ2.tw HL5.out HH4.out HC4.out).mono ?_
            rintro e7 w7 ⟨rfl, hb7⟩
            refine ⟨_, rfl, ?_⟩
            have hS_ := hJ2.below hb7
            clear hb7
            refine hK.out _ _ hS_ (fun hJ3 => ?_)
            clear hS_
            clear hK K
            refine norm_ (a' := ?_) ?_ ?_
            rotate_left
            · show Act.put _ (some 116) _ = _
              simp only [Act.put, List.setIfInBounds_toArray, List.set_cons_zero, List.set_cons_succ, i64_w, i32_w]
              rfl
            refine pure_ (i := 13) (N := some 117) (v := ?_) (a' := ?_) #[true, true, true, true, true, true, true, true, true, true, true, true, true, true, false] rfl rfl (by kernel_rfl) (fun _ _ _ h => h) (Or.inl ⟨by rfl, ?_⟩) ?_ ?_
            rotate_left
            · intro w'
              go_simp
              with_reducible rfl
            rotate_left
            · simp only [Act.put, List.setIfInBounds_toArray, List.set_cons_zero, List.set_cons_succ, i64_w, i32_w]
              rfl
            refine pure_ (i := 14) (N := some 118) (v := ?_) (a' := ?_) #[true, true, true, true, true, true, true, true, true, true, true, true, true, true, true] rfl rfl (by kernel_rfl) (fun _ _ _ h => h) (Or.inl ⟨by rfl, ?_⟩) ?_ ?_
            rotate_left
            · intro w'
              go_simp
              with_reducible rfl
            rotate_left
            · simp only [Act.put, List.setIfInBounds_toArray, List.set_cons_zero, List.set_cons_succ, i64_w, i32_w]
              rfl
            refine done_ (by kernel_rfl) ?_
            have HJ4 := Aside0.mk hJ3
            clear hJ hJ1 hJ2 hJ3
            go_wp2
            go_roundg (l1.length - (j + 1))
            case measure => omega
            case rel => exact ⟨j + 1, own5, ownx5, os5, osx5, by omega, by omega, by go_num, ⟨HJ4.out.tw⟩, HI5, HG5⟩
        · have p1 : ¬ ((j : Int) < (l1.length : Int)) := by omega
          have HB9 := Aside0.mk HT.out.bl
          go_wp2_with fail
          refine (HAW.out _ HB9.out).mono ?_
          rintro e9 w9 ⟨rfl, hb9⟩
          have HB10 := Aside0.mk hb9
          clear hb9
          go_wp2_with fail
          go_ret
          exact ⟨rfl, HB10.out⟩
    · have HB2 := Aside0.mk (below_then HB1.out HB1.out.size hb2)
      have HX2b := Aside0.mk ((hb2.block _ (blk_lt HX2a.out)).trans HX2a.out)
      have HLI := Aside0.mk hlim
      have HXN := Aside0.mk (xnew_calls L w2)
      clear hb2 x0 x1 x2 hlim
      obtain ⟨x0, x1, x2⟩ := box3c HX2b.out
      go_wp2_with fail
      refine HXN.out.mono ?_
      rintro e3 w3 ⟨hb3, hxn⟩
      have he3 : e3 = .returned (.tuple #[.pointer none, .int .i64 1]) := by
        rcases hxn with ⟨h, _⟩ | ⟨_, h⟩
        · rw [HLI.out] at h; cases h
        · exact h
      subst he3
      have HB3 := Aside0.mk (below_then HB2.out HB2.out.size hb3)
      clear hb3 hxn x0 x1 x2
      go_wp2_with fail
      go_loopg [9] 0 (fun gg s9 wr => s9 = .int .i64 0 ∧ Aside0 (Below w.heap.size w wr))
      case atStart => exact ⟨rfl, HB3⟩
      case round =>
        obtain ⟨rfl, HB4⟩ := hrel
        by_cases hlt : (0 : Int) < (l1.length : Int)
        · go_wp2_with fail
          refine (HAW.out _ HB4.out).mono ?_
          rintro e9 w9 ⟨rfl, hb9⟩
          have HB9 := Aside0.mk hb9
          clear hb9
          go_wp2_with fail
          go_ret
          exact ⟨rfl, HB9.out⟩
        · go_wp2_with fail
          refine (HAW.out _ HB4.out).mono ?_
          rintro e9 w9 ⟨rfl, hb9⟩
          have HB9 := Aside0.mk hb9
          clear hb9
          go_wp2_with fail
          go_ret
          exact ⟨rfl, HB9.out⟩
#print axioms plays_calls
end Go.Proofs.Ytaeelmkpjgmdlaa.H
