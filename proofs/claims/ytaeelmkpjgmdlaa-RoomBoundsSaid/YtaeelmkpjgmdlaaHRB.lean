/- Mine. Chapter 22, by hand: the law RoomBounds, walked. -/
import Derived.Test.YtaeelmkpjgmdlaaHQa
namespace Go.Proofs.Ytaeelmkpjgmdlaa.H
open Go Go.Proofs Go.RowKit Go.Lib Go.Proofs.Ytaeelmkpjgmdlaa.P Go.Proofs.YtaeelmkpjgmdlaaW.PrintWords Go.Proofs.YtaeelmkpjgmdlaaW.PrintLast Go.Proofs.YtaeelmkpjgmdlaaW.PrintMore Go.Proofs.YtaeelmkpjgmdlaaW.PrintFlat
set_option linter.unusedVariables false
set_option linter.unusedSimpArgs false
structure BndS (own : Nat → Prop) (t z : Nat) (L : Room.Lim) (os : List OB) (w V : World) : Prop where
  ts : TS own t L os V
  bx : V.heap[z]? = some (.cells #[.int .i64 L.op, .int .i64 L.by_, .int .i64 L.ex] 23 (0, 0))
  bl : Below w.heap.size w V
theorem BndS.below {own : Nat → Prop} {t z : Nat} {L : Room.Lim} {os : List OB} {w V V' : World} (h : BndS own t z L os w V) (hb : Below V.heap.size V V') : BndS own t z L os w V' :=
  ⟨h.ts.below hb, (hb.block _ (blk_lt h.bx)).trans h.bx, below_then h.bl h.bl.size hb⟩
set_option maxHeartbeats 8000000 in
set_option maxRecDepth 100000 in
theorem bounds_calls (kk : Nat) (L : Room.Lim) (A1 : Option Addr) (c1 : Nat) (l1 : List S40) (lg : Bool) (w : World) (hr1 : Kd.C k40 w A1 l1.length l1) (hc1 : l1.length ≤ c1) (hlg : annuletlaw22_Large.f kk l1 = some lg) (hok : okD l1 = true) :
    Calls Try.prog 4 #[.agg #[.int .i64 L.op, .int .i64 L.by_, .int .i64 L.ex], .slice A1 l1.length c1] w fun e w' => e = .returned (.bool true) ∧ Below w.heap.size w w' := by
  obtain ⟨V, hV⟩ : ∃ V, (w.alloc (.cells #[.int .i64 L.op, .int .i64 L.by_, .int .i64 L.ex] 23)) = V := ⟨_, rfl⟩
  have hbV : Below w.heap.size w V := by rw [← hV]; exact below_alloc (Below.refl _ _) _
  have hx2 : V.heap[w.heap.size]? = some (.cells #[.int .i64 L.op, .int .i64 L.by_, .int .i64 L.ex] 23 (0, 0)) := by rw [← hV]; exact heap_alloc_new w _
  have HLG := Aside0.mk (annuletlaw22_Large.calls kk A1 c1 l1 lg V (Kd.C_below hr1 hbV) hc1 hlg)
  have HR1 := Aside0.mk hr1
  have HLF := Aside0.mk hlg
  have HOK := Aside0.mk hok
  have HBV := Aside0.mk hbV
  have HX2 := Aside0.mk hx2
  have HAW : Aside0 (∀ V, Below w.heap.size w V → Calls Try.prog 8 #[] V fun e w' => e = .returned (.bool true) ∧ Below w.heap.size w w') := ⟨fun V hV => (awake_calls V).mono (fun e w' h => ⟨h.1, below_then hV hV.size h.2⟩)⟩
  clear hr1 hc1 hlg hok hbV hx2
  cases lg with
  | true =>
    go_enter Try.func4, Try.ntmps4
    go_wp2_with fail
    refine HLG.out.mono ?_
    rintro e1 w1 ⟨rfl, hb1⟩
    have HB1 := Aside0.mk (below_then HBV.out HBV.out.size hb1)
    clear hb1
    go_wp2_with fail
    refine (HAW.out _ HB1.out).mono ?_
    rintro e2 w2 ⟨rfl, hb2⟩
    have HB2 := Aside0.mk hb2
    clear hb2
    go_wp2_with fail
    go_ret
    exact ⟨rfl, HB2.out⟩
  | false =>
    have HLL := Aside0.mk (large_false l1 kk 0 0 (by decide) (by decide) (by decide) (by decide) HLF.out)
    go_enter Try.func4, Try.ntmps4
    go_wp2_with fail
    refine HLG.out.mono ?_
    rintro e1 w1 ⟨rfl, hb1⟩
    have HB1 := Aside0.mk (below_then HBV.out HBV.out.size hb1)
    have HX2a := Aside0.mk ((hb1.block _ (blk_lt HX2.out)).trans HX2.out)
    obtain ⟨x0, x1, x2⟩ := box3c HX2a.out
    have HTN := Aside0.mk (tnew_calls L w1)
    clear hb1
    go_wp2_with fail
    refine HTN.out.mono ?_
    rintro e2 w2 ⟨hb2, (⟨hlim, t, rfl, hT2⟩ | ⟨hlim, rfl⟩)⟩
    · have HLO := Aside0.mk (limB_ok hlim)
      have HB2 := Aside0.mk (below_then HB1.out HB1.out.size hb2)
      have HX2b := Aside0.mk ((hb2.block _ (blk_lt HX2a.out)).trans HX2a.out)
      have HT2 := Aside0.mk hT2
      have HOW2 : Aside0 (∀ q, (w1.heap.size ≤ q ∧ q < w2.heap.size) → w.heap.size + 1 ≤ q) := ⟨fun q h => by have h1 := blk_lt HX2a.out; omega⟩
      have HI2 := Aside0.mk (RInv.nil (L := L) HLO.out)
      have HG2 : Aside0 (AgeIn L 0 []) := ⟨fun o ho => by simp at ho⟩
      clear hb2 hT2 hlim x0 x1 x2
      go_wp2_with fail
      go_loopg [7] l1.length (fun gg s7 wr => ∃ (j : Nat) (own' : Nat → Prop) (os : List OB), j ≤ l1.length ∧ l1.length - j ≤ gg ∧ s7 = .int .i64 j ∧ Aside0 (TS own' t L os wr) ∧ Aside0 (RInv L (aOf os)) ∧ Aside0 (AgeIn L 0 (aOf os)) ∧ Aside0 (∀ q, own' q → w.heap.size + 1 ≤ q) ∧ Aside0 (Below w.heap.size w wr) ∧ Aside0 (wr.heap[w.heap.size]? = some (.cells #[.int .i64 L.op, .int .i64 L.by_, .int .i64 L.ex] 23 (0, 0))))
      case atStart => exact ⟨0, _, [], Nat.zero_le _, by omega, rfl, HT2, HI2, HG2, HOW2, HB2, HX2b⟩
      case round =>
        obtain ⟨j, own', os, hj, hgg, rfl, HT, HI, HG, HO, HB, HX⟩ := hrel
        have hl200 := HLL.out.1
        by_cases hlt : j < l1.length
        · obtain ⟨ad, A8, c8, rfl, hx0, hx1, hx2, hx3, hx4, hx5, hx6, hx7, hx8, hl8, hC8⟩ := at_T40 HR1.out (j : Int) (by omega) (by omega)
          rw [Int.toNat_natCast] at hx0 hx1 hx2 hx3 hx4 hx5 hx6 hx7 hx8
          have hmem : rd_T40 l1 (j : Int) ∈ l1 := rd_mem40 hlt
          have hgm := okD_gm HOK.out hmem (HLL.out.2.2 j (by omega) hlt)
          obtain ⟨y, hy⟩ : ∃ y, rd_T40 l1 (j : Int) = y := ⟨_, rfl⟩
          rw [hy] at hx0 hx1 hx2 hx3 hx4 hx5 hx6 hx7 hx8 hl8 hC8 hgm
          have q0 := pw_cell_below HB.out hx0
          have p0 : (0 ≤ (j : Int)) = True := eq_true (by omega)
          have p1 : ((j : Int) < (l1.length : Int)) = True := eq_true (by omega)
          have HGM := Aside0.mk hgm
          have HC8 := Aside0.mk (And.intro hl8 hC8)
          have HCELLS := Aside0.mk (And.intro hx1 (And.intro hx2 (And.intro hx3 (And.intro hx4 (And.intro hx5 (And.intro hx6 (And.intro hx7 hx8)))))))
          clear hgm hC8 hl8 hx0 hx1 hx2 hx3 hx4 hx5 hx6 hx7 hx8 hmem hy
          obtain ⟨tk, htk⟩ : ∃ tk, y.f0 = tk := ⟨_, rfl⟩
          rw [htk] at q0
          clear htk
          cases tk with
          | true =>
            have HTK := Aside0.mk (tick_calls HT.out (by have h1 := HI.out.ln; have h2 := HLO.out.o2; rw [aOf_len] at h1; omega) (fun o ho => by have h1 := HG.out o.a (List.mem_map.2 ⟨o, ho, rfl⟩); have h2 := HLO.out.e2; exact ⟨h1.1, by omega⟩))
            go_wp2_with fail
            refine HTK.out.mono ?_
            rintro e3 w3 ⟨rfl, hf3, os4, ha3, hT3⟩
            obtain ⟨own4, hown4⟩ : ∃ own4, own' = own4 := ⟨_, rfl⟩
            rw [hown4] at hT3 hf3 HO
            have HT4 := Aside0.mk hT3
            have HI4 : Aside0 (RInv L (aOf os4)) := ⟨by rw [ha3]; exact tick_inv HI.out⟩
            have HG4 : Aside0 (AgeIn L 0 (aOf os4)) := ⟨by rw [ha3]; intro o ho; have := tick_age HG.out o ho; exact ⟨by omega, this.2⟩⟩
            have HO4 := HO
            have HB4 : Aside0 (Below w.heap.size w w3) := ⟨HB.out.trans (hf3.below HB.out.size (fun q hq => by have := HO.out q hq; omega))⟩
            have HX4 := Aside0.mk ((hf3.block _ (blk_lt HX.out) (fun e => by have := HO.out _ e; omega)).trans HX.out)
            have HL4 : Aside0 (os4.length ≤ 140737488355328) := ⟨by have h1 := HI4.out.ln; have h2 := HLO.out.o2; rw [aOf_len] at h1; omega⟩
            have HL4' : Aside0 ((os4.length : Int) ≤ L.op) := ⟨by have h1 := HI4.out.ln; rwa [aOf_len] at h1⟩
            have HH4 : Aside0 (Room.held (aOf os4) ≤ 4611686018427387904) := ⟨by have h1 := HI4.out.hd; have h2 := HLO.out.b2; omega⟩
            clear hf3 ha3 hT3 hown4 q0
            obtain ⟨Y, hY⟩ : ∃ Y, w3.drew = Y := ⟨_, rfl⟩
            have hbY : Below w3.heap.size w3 Y := by rw [← hY]; exact (Below.refl _ _).drew
            have hs1 : BndS own4 t w.heap.size L os4 w w3.drew := by rw [hY]; exact ⟨HT4.out.below hbY, (hbY.block _ (blk_lt HX4.out)).trans HX4.out, below_then HB4.out HB4.out.size hbY⟩
            have hL4 := HL4'.out
            have k0 : ((os4.length : Int) < 0) = False := eq_false (by omega)
            have k1 : ((os4.length : Int) > L.op) = False := eq_false (by omega)
            have k2 : (Room.held (aOf os4) < 0) = False := eq_false (by have := Room.held_nn (aOf os4); omega)
            have k3 : (Room.held (aOf os4) > L.by_) = False := eq_false (by have := HI4.out.hd; omega)
            clear hL4 hbY
            go_wp2_with fail
            refine start_ (n := 22) (S := BndS own4 t w.heap.size L os4 w) (ds := []) #[false, false, false, false, false, false, false, false, false, false, false, false, false, false, false, false, false, false, false, false, false, false] (by kernel_rfl) rfl rfl hs1 (fun hJ => ?_)
            rw [hY] at hJ ⊢
            clear hs1 hY
            refine pure_ (i := 0) (N := some 49) (v := ?_) (a' := ?_) #[true, false, false, false, false, false, false, false, false, false, false, false, false, false, false, false, false, false, false, false, false, false] rfl rfl (by kernel_rfl) (fun _ _ _ h => h) (Or.inl ⟨by rfl, ?_⟩) ?_ ?_
            rotate_left
            · intro w'
              go_simp
              with_reducible rfl
            rotate_left
            · simp only [Act.put, List.setIfInBounds_toArray, List.set_cons_zero, List.set_cons_succ, i64_w, i32_w]
              rfl
            refine one_ (i := 1) (N := some 50) #[true, true, false, false, false, false, false, false, false, false, false, false, false, false, false, false, false, false, false, false, false, false] rfl rfl (by kernel_rfl) (by decide) (fun K hK => ?_)
            refine goes_ Try.func15 (by kernel_rfl) rfl #[.pointer (some ⟨t, 0, none⟩)] (by rfl) rfl rfl (by (try simp only [List.map_toArray, List.map_cons, List.map_nil]); first | done | rfl) ?_
            refine (open_calls hJ.ts).mono ?_
            rintro e5 w5 ⟨rfl, hb5⟩
            refine ⟨_, rfl, ?_⟩
            have hS_ := hJ.below hb5
            clear hb5
            refine hK.out _ _ hS_ (fun hJ1 => ?_)
            clear hS_
            clear hK K
            refine norm_ (a' := ?_) ?_ ?_
            rotate_left
            · show Act.put _ (some 50) _ = _
              simp only [Act.put, List.setIfInBounds_toArray, List.set_cons_zero, List.set_cons_succ, i64_w, i32_w]
              rfl
            refine pure_ (i := 2) (N := some 51) (v := ?_) (a' := ?_) #[true, true, true, false, false, false, false, false, false, false, false, false, false, false, false, false, false, false, false, false, false, false] rfl rfl (by kernel_rfl) (fun _ _ _ h => h) (Or.inl ⟨by rfl, ?_⟩) ?_ ?_
            rotate_left
            · intro w'
              go_simp
              with_reducible rfl
            rotate_left
            · simp only [Act.put, List.setIfInBounds_toArray, List.set_cons_zero, List.set_cons_succ, i64_w, i32_w]
              rfl
            refine pure_ (i := 3) (N := some 52) (v := ?_) (a' := ?_) #[true, true, true, true, false, false, false, false, false, false, false, false, false, false, false, false, false, false, false, false, false, false] rfl rfl (by kernel_rfl) (fun _ _ _ h => h) (Or.inl ⟨by rfl, ?_⟩) ?_ ?_
            rotate_left
            · intro w'
              go_simp
              with_reducible rfl
            rotate_left
            · simp only [Act.put, List.setIfInBounds_toArray, List.set_cons_zero, List.set_cons_succ, i64_w, i32_w]
              rfl
            refine pure_ (i := 4) (N := some 53) (v := ?_) (a' := ?_) #[true, true, true, true, true, false, false, false, false, false, false, false, false, false, false, false, false, false, false, false, false, false] rfl rfl (by kernel_rfl) (fun _ _ _ h => h) (Or.inl ⟨by rfl, ?_⟩) ?_ ?_
            rotate_left
            · intro w'
              go_simp
              with_reducible rfl
            rotate_left
            · simp only [Act.put, List.setIfInBounds_toArray, List.set_cons_zero, List.set_cons_succ, i64_w, i32_w]
              rfl
            refine pure_ (i := 6) (N := some 55) (v := ?_) (a' := ?_) #[true, true, true, true, true, false, true, false, false, false, false, false, false, false, false, false, false, false, false, false, false, false] rfl rfl (by kernel_rfl) (fun _ _ _ h => h) (Or.inl ⟨by rfl, ?_⟩) ?_ ?_
            rotate_left
            · intro w'
              go_simp
              with_reducible rfl
            rotate_left
            · simp only [Act.put, List.setIfInBounds_toArray, List.set_cons_zero, List.set_cons_succ, i64_w, i32_w]
              rfl
            refine take_ (i := 7) (N := some 56) (v := ?_) (a' := ?_) #[true, true, true, true, true, false, true, true, false, false, false, false, false, false, false, false, false, false, false, false, false, false] rfl rfl (by kernel_rfl) (fun _ _ _ h => h) (Or.inl ⟨by rfl, ?_⟩) hJ1 ?_ ?_
            rotate_left
            · rintro w' ⟨_, s1, _⟩
              have q0 := (blk_cell s1 0).trans rfl
              go_simp
              with_reducible rfl
            rotate_left
            · simp only [Act.put, List.setIfInBounds_toArray, List.set_cons_zero, List.set_cons_succ, i64_w, i32_w]
              rfl
            refine one_ (i := 5) (N := some 54) #[true, true, true, true, true, true, true, true, false, false, false, false, false, false, false, false, false, false, false, false, false, false] rfl rfl (by kernel_rfl) (by decide) (fun K hK => ?_)
            refine goes_ Try.func15 (by kernel_rfl) rfl #[.pointer (some ⟨t, 0, none⟩)] (by rfl) rfl rfl (by (try simp only [List.map_toArray, List.map_cons, List.map_nil]); first | done | rfl) ?_
            refine (open_calls hJ1.ts).mono ?_
            rintro e6 w6 ⟨rfl, hb6⟩
            refine ⟨_, rfl, ?_⟩
            have hS_ := hJ1.below hb6
            clear hb6
            refine hK.out _ _ hS_ (fun hJ2 => ?_)
            clear hS_
            clear hK K
            refine norm_ (a' := ?_) ?_ ?_
            rotate_left
            · show Act.put _ (some 54) _ = _
              simp only [Act.put, List.setIfInBounds_toArray, List.set_cons_zero, List.set_cons_succ, i64_w, i32_w]
              rfl
            refine pure_ (i := 8) (N := some 57) (v := ?_) (a' := ?_) #[true, true, true, true, true, true, true, true, true, false, false, false, false, false, false, false, false, false, false, false, false, false] rfl rfl (by kernel_rfl) (fun _ _ _ h => h) (Or.inl ⟨by rfl, ?_⟩) ?_ ?_
            rotate_left
            · intro w'
              go_simp
              with_reducible rfl
            rotate_left
            · simp only [Act.put, List.setIfInBounds_toArray, List.set_cons_zero, List.set_cons_succ, i64_w, i32_w]
              rfl
            refine pure_ (i := 9) (N := some 58) (v := ?_) (a' := ?_) #[true, true, true, true, true, true, true, true, true, true, false, false, false, false, false, false, false, false, false, false, false, false] rfl rfl (by kernel_rfl) (fun _ _ _ h => h) (Or.inl ⟨by rfl, ?_⟩) ?_ ?_
            rotate_left
            · intro w'
              go_simp
              with_reducible rfl
            rotate_left
            · simp only [Act.put, List.setIfInBounds_toArray, List.set_cons_zero, List.set_cons_succ, i64_w, i32_w]
              rfl
            refine pure_ (i := 10) (N := some 59) (v := ?_) (a' := ?_) #[true, true, true, true, true, true, true, true, true, true, true, false, false, false, false, false, false, false, false, false, false, false] rfl rfl (by kernel_rfl) (fun _ _ _ h => h) (Or.inl ⟨by rfl, ?_⟩) ?_ ?_
            rotate_left
            · intro w'
              go_simp
              with_reducible rfl
            rotate_left
            · simp only [Act.put, List.setIfInBounds_toArray, List.set_cons_zero, List.set_cons_succ, i64_w, i32_w]
              rfl
            refine pure_ (i := 11) (N := some 60) (v := ?_) (a' := ?_) #[true, true, true, true, true, true, true, true, true, true, true, true, false, false, false, false, false, false, false, false, false, false] rfl rfl (by kernel_rfl) (fun _ _ _ h => h) (Or.inl ⟨by rfl, ?_⟩) ?_ ?_
            rotate_left
            · intro w'
              go_simp
              with_reducible rfl
            rotate_left
            · simp only [Act.put, List.setIfInBounds_toArray, List.set_cons_zero, List.set_cons_succ, i64_w, i32_w]
              rfl
            refine one_ (i := 12) (N := some 61) #[true, true, true, true, true, true, true, true, true, true, true, true, true, false, false, false, false, false, false, false, false, false] rfl rfl (by kernel_rfl) (by decide) (fun K hK => ?_)
            refine goes_ Try.func16 (by kernel_rfl) rfl #[.pointer (some ⟨t, 0, none⟩)] (by rfl) rfl rfl (by (try simp only [List.map_toArray, List.map_cons, List.map_nil]); first | done | rfl) ?_
            refine (held_calls hJ2.ts HH4.out HL4.out).mono ?_
            rintro e7 w7 ⟨rfl, hb7⟩
            refine ⟨_, rfl, ?_⟩
            have hS_ := hJ2.below hb7
            clear hb7
            refine hK.out _ _ hS_ (fun hJ3 => ?_)
            clear hS_
            clear hK K
            refine norm_ (a' := ?_) ?_ ?_
            rotate_left
            · show Act.put _ (some 61) _ = _
              simp only [Act.put, List.setIfInBounds_toArray, List.set_cons_zero, List.set_cons_succ, i64_w, i32_w]
              rfl
            refine pure_ (i := 13) (N := some 62) (v := ?_) (a' := ?_) #[true, true, true, true, true, true, true, true, true, true, true, true, true, true, false, false, false, false, false, false, false, false] rfl rfl (by kernel_rfl) (fun _ _ _ h => h) (Or.inl ⟨by rfl, ?_⟩) ?_ ?_
            rotate_left
            · intro w'
              go_simp
              with_reducible rfl
            rotate_left
            · simp only [Act.put, List.setIfInBounds_toArray, List.set_cons_zero, List.set_cons_succ, i64_w, i32_w]
              rfl
            refine pure_ (i := 14) (N := some 63) (v := ?_) (a' := ?_) #[true, true, true, true, true, true, true, true, true, true, true, true, true, true, true, false, false, false, false, false, false, false] rfl rfl (by kernel_rfl) (fun _ _ _ h => h) (Or.inl ⟨by rfl, ?_⟩) ?_ ?_
            rotate_left
            · intro w'
              go_simp
              with_reducible rfl
            rotate_left
            · simp only [Act.put, List.setIfInBounds_toArray, List.set_cons_zero, List.set_cons_succ, i64_w, i32_w]
              rfl
            refine pure_ (i := 15) (N := some 64) (v := ?_) (a' := ?_) #[true, true, true, true, true, true, true, true, true, true, true, true, true, true, true, true, false, false, false, false, false, false] rfl rfl (by kernel_rfl) (fun _ _ _ h => h) (Or.inl ⟨by rfl, ?_⟩) ?_ ?_
            rotate_left
            · intro w'
              go_simp
              with_reducible rfl
            rotate_left
            · simp only [Act.put, List.setIfInBounds_toArray, List.set_cons_zero, List.set_cons_succ, i64_w, i32_w]
              rfl
            refine pure_ (i := 16) (N := some 65) (v := ?_) (a' := ?_) #[true, true, true, true, true, true, true, true, true, true, true, true, true, true, true, true, true, false, false, false, false, false] rfl rfl (by kernel_rfl) (fun _ _ _ h => h) (Or.inl ⟨by rfl, ?_⟩) ?_ ?_
            rotate_left
            · intro w'
              go_simp
              with_reducible rfl
            rotate_left
            · simp only [Act.put, List.setIfInBounds_toArray, List.set_cons_zero, List.set_cons_succ, i64_w, i32_w]
              rfl
            refine pure_ (i := 18) (N := some 67) (v := ?_) (a' := ?_) #[true, true, true, true, true, true, true, true, true, true, true, true, true, true, true, true, true, false, true, false, false, false] rfl rfl (by kernel_rfl) (fun _ _ _ h => h) (Or.inl ⟨by rfl, ?_⟩) ?_ ?_
            rotate_left
            · intro w'
              go_simp
              with_reducible rfl
            rotate_left
            · simp only [Act.put, List.setIfInBounds_toArray, List.set_cons_zero, List.set_cons_succ, i64_w, i32_w]
              rfl
            refine take_ (i := 19) (N := some 68) (v := ?_) (a' := ?_) #[true, true, true, true, true, true, true, true, true, true, true, true, true, true, true, true, true, false, true, true, false, false] rfl rfl (by kernel_rfl) (fun _ _ _ h => h) (Or.inl ⟨by rfl, ?_⟩) hJ3 ?_ ?_
            rotate_left
            · rintro w' ⟨_, s1, _⟩
              have q1 := (blk_cell s1 1).trans rfl
              go_simp
              with_reducible rfl
            rotate_left
            · simp only [Act.put, List.setIfInBounds_toArray, List.set_cons_zero, List.set_cons_succ, i64_w, i32_w]
              rfl
            refine one_ (i := 17) (N := some 66) #[true, true, true, true, true, true, true, true, true, true, true, true, true, true, true, true, true, true, true, true, false, false] rfl rfl (by kernel_rfl) (by decide) (fun K hK => ?_)
            refine goes_ Try.func16 (by kernel_rfl) rfl #[.pointer (some ⟨t, 0, none⟩)] (by rfl) rfl rfl (by (try simp only [List.map_toArray, List.map_cons, List.map_nil]); first | done | rfl) ?_
            refine (held_calls hJ3.ts HH4.out HL4.out).mono ?_
            rintro e8 w8 ⟨rfl, hb8⟩
            refine ⟨_, rfl, ?_⟩
            have hS_ := hJ3.below hb8
            clear hb8
            refine hK.out _ _ hS_ (fun hJ4 => ?_)
            clear hS_
            clear hK K
            refine norm_ (a' := ?_) ?_ ?_
            rotate_left
            · show Act.put _ (some 66) _ = _
              simp only [Act.put, List.setIfInBounds_toArray, List.set_cons_zero, List.set_cons_succ, i64_w, i32_w]
              rfl
            refine pure_ (i := 20) (N := some 69) (v := ?_) (a' := ?_) #[true, true, true, true, true, true, true, true, true, true, true, true, true, true, true, true, true, true, true, true, true, false] rfl rfl (by kernel_rfl) (fun _ _ _ h => h) (Or.inl ⟨by rfl, ?_⟩) ?_ ?_
            rotate_left
            · intro w'
              go_simp
              with_reducible rfl
            rotate_left
            · simp only [Act.put, List.setIfInBounds_toArray, List.set_cons_zero, List.set_cons_succ, i64_w, i32_w]
              rfl
            refine pure_ (i := 21) (N := some 70) (v := ?_) (a' := ?_) #[true, true, true, true, true, true, true, true, true, true, true, true, true, true, true, true, true, true, true, true, true, true] rfl rfl (by kernel_rfl) (fun _ _ _ h => h) (Or.inl ⟨by rfl, ?_⟩) ?_ ?_
            rotate_left
            · intro w'
              go_simp
              with_reducible rfl
            rotate_left
            · simp only [Act.put, List.setIfInBounds_toArray, List.set_cons_zero, List.set_cons_succ, i64_w, i32_w]
              rfl
            refine done_ (by kernel_rfl) ?_
            have HJ4 := Aside0.mk hJ4
            clear hJ hJ1 hJ2 hJ3 hJ4 k0 k1 k2 k3
            go_wp2
            go_roundg (l1.length - (j + 1))
            case measure => omega
            case rel => exact ⟨j + 1, own4, os4, by omega, by omega, by go_num, ⟨HJ4.out.ts⟩, HI4, HG4, HO4, ⟨HJ4.out.bl⟩, ⟨HJ4.out.bx⟩⟩
          | false =>
            obtain ⟨X, hX⟩ : ∃ X, wr.drew = X := ⟨_, rfl⟩
            have hbX : Below wr.heap.size wr X := by rw [← hX]; exact (Below.refl _ _).drew
            have HBX := Aside0.mk (below_then HB.out HB.out.size hbX)
            have hput := put_calls (HT.out.below hbX) HLO.out HI.out y.f1 y.f2.f0 ⟨y.f2.f1, y.f2.f2, y.f2.f3, y.f2.f4, y.f2.f5, y.f2.f6⟩ HGM.out A8 c8 HC8.out.1 (fun U hU => Kd.C_below HC8.out.2 (HBX.out.trans (hU.below HBX.out.size (fun q hq => by have := HO.out q hq; omega))))
            have HPUT := Aside0.mk hput
            have HXX := Aside0.mk ((hbX.block _ (blk_lt HX.out)).trans HX.out)
            obtain ⟨hx1, hx2, hx3, hx4, hx5, hx6, hx7, hx8⟩ := HCELLS.out
            replace hx1 := pw_cell_below HBX.out hx1
            replace hx2 := pw_cell_below HBX.out hx2
            replace hx3 := pw_cell_below HBX.out hx3
            replace hx4 := pw_cell_below HBX.out hx4
            replace hx5 := pw_cell_below HBX.out hx5
            replace hx6 := pw_cell_below HBX.out hx6
            replace hx7 := pw_cell_below HBX.out hx7
            replace hx8 := pw_cell_below HBX.out hx8
            clear hput hbX
            go_wp2_with fail
            refine start_ (n := 12) (S := fun V => V = X) (ds := [11]) #[false, false, false, false, false, false, false, false, false, false, false, false] (by kernel_rfl) rfl rfl hX (fun hH => ?_)
            rw [hX] at hH ⊢
            clear hX q0
            refine pure_ (i := 0) (N := some 37) (v := ?_) (a' := ?_) #[true, false, false, false, false, false, false, false, false, false, false, false] rfl rfl (by kernel_rfl) (fun _ _ _ h => h) (Or.inl ⟨by rfl, ?_⟩) ?_ ?_
            rotate_left
            · intro w'
              go_simp
              with_reducible rfl
            rotate_left
            · simp only [Act.put, List.setIfInBounds_toArray, List.set_cons_zero, List.set_cons_succ, i64_w, i32_w]
              rfl
            refine pure_ (i := 1) (N := some 38) (v := ?_) (a' := ?_) #[true, true, false, false, false, false, false, false, false, false, false, false] rfl rfl (by kernel_rfl) (fun _ _ _ h => h) (Or.inl ⟨by rfl, ?_⟩) ?_ ?_
            rotate_left
            · intro w'
              go_simp
              with_reducible rfl
            rotate_left
            · simp only [Act.put, List.setIfInBounds_toArray, List.set_cons_zero, List.set_cons_succ, i64_w, i32_w]
              rfl
            refine pure_ (i := 2) (N := some 39) (v := ?_) (a' := ?_) #[true, true, true, false, false, false, false, false, false, false, false, false] rfl rfl (by kernel_rfl) (fun _ _ _ h => h) (Or.inl ⟨by rfl, ?_⟩) ?_ ?_
            rotate_left
            · intro w'
              go_simp
              with_reducible rfl
            rotate_left
            · simp only [Act.put, List.setIfInBounds_toArray, List.set_cons_zero, List.set_cons_succ, i64_w, i32_w]
              rfl
            refine pure_ (i := 3) (N := some 40) (v := ?_) (a' := ?_) #[true, true, true, true, false, false, false, false, false, false, false, false] rfl rfl (by kernel_rfl) (fun _ _ _ h => h) (Or.inl ⟨by rfl, ?_⟩) ?_ ?_
            rotate_left
            · intro w'
              go_simp
              with_reducible rfl
            rotate_left
            · simp only [Act.put, List.setIfInBounds_toArray, List.set_cons_zero, List.set_cons_succ, i64_w, i32_w]
              rfl
            refine pure_ (i := 4) (N := some 41) (v := ?_) (a' := ?_) #[true, true, true, true, true, false, false, false, false, false, false, false] rfl rfl (by kernel_rfl) (fun _ _ _ h => h) (Or.inl ⟨by rfl, ?_⟩) ?_ ?_
            rotate_left
            · intro w'
              go_simp
              with_reducible rfl
            rotate_left
            · simp only [Act.put, List.setIfInBounds_toArray, List.set_cons_zero, List.set_cons_succ, i64_w, i32_w]
              rfl
            refine take_ (i := 5) (N := some 42) (v := ?_) (a' := ?_) #[true, true, true, true, true, true, false, false, false, false, false, false] rfl rfl (by kernel_rfl) (fun _ _ _ h => h) (Or.inl ⟨by rfl, ?_⟩) hH ?_ ?_
            rotate_left
            · rintro w' rfl
              go_simp
              with_reducible rfl
            rotate_left
            · simp only [Act.put, List.setIfInBounds_toArray, List.set_cons_zero, List.set_cons_succ, i64_w, i32_w]
              rfl
            refine pure_ (i := 6) (N := some 43) (v := ?_) (a' := ?_) #[true, true, true, true, true, true, true, false, false, false, false, false] rfl rfl (by kernel_rfl) (fun _ _ _ h => h) (Or.inl ⟨by rfl, ?_⟩) ?_ ?_
            rotate_left
            · intro w'
              go_simp
              with_reducible rfl
            rotate_left
            · simp only [Act.put, List.setIfInBounds_toArray, List.set_cons_zero, List.set_cons_succ, i64_w, i32_w]
              rfl
            refine pure_ (i := 7) (N := some 44) (v := ?_) (a' := ?_) #[true, true, true, true, true, true, true, true, false, false, false, false] rfl rfl (by kernel_rfl) (fun _ _ _ h => h) (Or.inl ⟨by rfl, ?_⟩) ?_ ?_
            rotate_left
            · intro w'
              go_simp
              with_reducible rfl
            rotate_left
            · simp only [Act.put, List.setIfInBounds_toArray, List.set_cons_zero, List.set_cons_succ, i64_w, i32_w]
              rfl
            refine pure_ (i := 8) (N := some 45) (v := ?_) (a' := ?_) #[true, true, true, true, true, true, true, true, true, false, false, false] rfl rfl (by kernel_rfl) (fun _ _ _ h => h) (Or.inl ⟨by rfl, ?_⟩) ?_ ?_
            rotate_left
            · intro w'
              go_simp
              with_reducible rfl
            rotate_left
            · simp only [Act.put, List.setIfInBounds_toArray, List.set_cons_zero, List.set_cons_succ, i64_w, i32_w]
              rfl
            refine pure_ (i := 9) (N := some 46) (v := ?_) (a' := ?_) #[true, true, true, true, true, true, true, true, true, true, false, false] rfl rfl (by kernel_rfl) (fun _ _ _ h => h) (Or.inl ⟨by rfl, ?_⟩) ?_ ?_
            rotate_left
            · intro w'
              go_simp
              with_reducible rfl
            rotate_left
            · simp only [Act.put, List.setIfInBounds_toArray, List.set_cons_zero, List.set_cons_succ, i64_w, i32_w]
              rfl
            refine take_ (i := 10) (N := some 47) (v := ?_) (a' := ?_) #[true, true, true, true, true, true, true, true, true, true, true, false] rfl rfl (by kernel_rfl) (fun _ _ _ h => h) (Or.inl ⟨by rfl, ?_⟩) hH ?_ ?_
            rotate_left
            · rintro w' rfl
              go_simp
              with_reducible rfl
            rotate_left
            · simp only [Act.put, List.setIfInBounds_toArray, List.set_cons_zero, List.set_cons_succ, i64_w, i32_w]
              rfl
            refine last_ (i := 11) (N := some 48) #[true, true, true, true, true, true, true, true, true, true, true, true] rfl rfl (by kernel_rfl) (by decide) (fun K hK => ?_)
            refine goes_ Try.func13 (by kernel_rfl) rfl #[.pointer (some ⟨t, 0, none⟩), .int .u16 y.f1, .agg #[.int .u8 y.f2.f0, .int .u8 y.f2.f1, .int .u32 y.f2.f2, .int .u32 y.f2.f3, .int .u16 y.f2.f4, .int .u16 y.f2.f5, .slice A8 y.f2.f6.length c8]] (by rfl) rfl rfl (by (try simp only [List.map_toArray, List.map_cons, List.map_nil]); first | done | rfl) ?_
            refine HPUT.out.mono ?_
            rintro e3 w3 ⟨hf3, own3, os3, v3, hT3, ho3, ha3, rfl, _⟩
            refine ⟨_, rfl, ?_⟩
            refine hK.out _ _ ?_
            clear hK K
            refine norm_ (a' := ?_) ?_ ?_
            rotate_left
            · show Act.put _ (some 48) _ = _
              simp only [Act.put, List.setIfInBounds_toArray, List.set_cons_zero, List.set_cons_succ, i64_w, i32_w]
              rfl
            refine done_ (by kernel_rfl) ?_
            clear hH hx1 hx2 hx3 hx4 hx5 hx6 hx7 hx8
            obtain ⟨own4, hown4⟩ : ∃ own4, own3 = own4 := ⟨_, rfl⟩
            obtain ⟨os4, hos4⟩ : ∃ os4, os3 = os4 := ⟨_, rfl⟩
            rw [hown4, hos4] at hT3
            rw [hown4] at ho3
            rw [hos4] at ha3
            have HT4 := Aside0.mk hT3
            have HI4 : Aside0 (RInv L (aOf os4)) := ⟨by rw [ha3]; exact put_inv HLO.out HI.out _ _ HGM.out⟩
            have HG4 : Aside0 (AgeIn L 0 (aOf os4)) := ⟨by rw [ha3]; exact put_age HLO.out HG.out _ _⟩
            have HO4 : Aside0 (∀ q, own4 q → w.heap.size + 1 ≤ q) := ⟨fun q hq => by
              rcases ho3 q hq with h | h
              · exact HO.out q h
              · have h1 := blk_lt HXX.out; omega⟩
            have HB4 : Aside0 (Below w.heap.size w w3) := ⟨HBX.out.trans (hf3.below HBX.out.size (fun q hq => by have := HO.out q hq; omega))⟩
            have HX4 := Aside0.mk ((hf3.block _ (blk_lt HXX.out) (fun e => by have := HO.out _ e; omega)).trans HXX.out)
            have HL4 : Aside0 (os4.length ≤ 140737488355328) := ⟨by have h1 := HI4.out.ln; have h2 := HLO.out.o2; rw [aOf_len] at h1; omega⟩
            have HL4' : Aside0 ((os4.length : Int) ≤ L.op) := ⟨by have h1 := HI4.out.ln; rwa [aOf_len] at h1⟩
            have HH4 : Aside0 (Room.held (aOf os4) ≤ 4611686018427387904) := ⟨by have h1 := HI4.out.hd; have h2 := HLO.out.b2; omega⟩
            clear hf3 ha3 hT3 hown4 hos4 ho3
            obtain ⟨Y, hY⟩ : ∃ Y, w3.drew = Y := ⟨_, rfl⟩
            have hbY : Below w3.heap.size w3 Y := by rw [← hY]; exact (Below.refl _ _).drew
            have hs1 : BndS own4 t w.heap.size L os4 w w3.drew := by rw [hY]; exact ⟨HT4.out.below hbY, (hbY.block _ (blk_lt HX4.out)).trans HX4.out, below_then HB4.out HB4.out.size hbY⟩
            have hL4 := HL4'.out
            have k0 : ((os4.length : Int) < 0) = False := eq_false (by omega)
            have k1 : ((os4.length : Int) > L.op) = False := eq_false (by omega)
            have k2 : (Room.held (aOf os4) < 0) = False := eq_false (by have := Room.held_nn (aOf os4); omega)
            have k3 : (Room.held (aOf os4) > L.by_) = False := eq_false (by have := HI4.out.hd; omega)
            clear hL4 hbY
            go_wp2_with fail
            refine start_ (n := 22) (S := BndS own4 t w.heap.size L os4 w) (ds := []) #[false, false, false, false, false, false, false, false, false, false, false, false, false, false, false, false, false, false, false, false, false, false] (by kernel_rfl) rfl rfl hs1 (fun hJ => ?_)
            rw [hY] at hJ ⊢
            clear hs1 hY
            refine pure_ (i := 0) (N := some 49) (v := ?_) (a' := ?_) #[true, false, false, false, false, false, false, false, false, false, false, false, false, false, false, false, false, false, false, false, false, false] rfl rfl (by kernel_rfl) (fun _ _ _ h => h) (Or.inl ⟨by rfl, ?_⟩) ?_ ?_
            rotate_left
            · intro w'
              go_simp
              with_reducible rfl
            rotate_left
            · simp only [Act.put, List.setIfInBounds_toArray, List.set_cons_zero, List.set_cons_succ, i64_w, i32_w]
              rfl
            refine one_ (i := 1) (N := some 50) #[true, true, false, false, false, false, false, false, false, false, false, false, false, false, false, false, false, false, false, false, false, false] rfl rfl (by kernel_rfl) (by decide) (fun K hK => ?_)
            refine goes_ Try.func15 (by kernel_rfl) rfl #[.pointer (some ⟨t, 0, none⟩)] (by rfl) rfl rfl (by (try simp only [List.map_toArray, List.map_cons, List.map_nil]); first | done | rfl) ?_
            refine (open_calls hJ.ts).mono ?_
            rintro e5 w5 ⟨rfl, hb5⟩
            refine ⟨_, rfl, ?_⟩
            have hS_ := hJ.below hb5
            clear hb5
            refine hK.out _ _ hS_ (fun hJ1 => ?_)
            clear hS_
            clear hK K
            refine norm_ (a' := ?_) ?_ ?_
            rotate_left
            · show Act.put _ (some 50) _ = _
              simp only [Act.put, List.setIfInBounds_toArray, List.set_cons_zero, List.set_cons_succ, i64_w, i32_w]
              rfl
            refine pure_ (i := 2) (N := some 51) (v := ?_) (a' := ?_) #[true, true, true, false, false, false, false, false, false, false, false, false, false, false, false, false, false, false, false, false, false, false] rfl rfl (by kernel_rfl) (fun _ _ _ h => h) (Or.inl ⟨by rfl, ?_⟩) ?_ ?_
            rotate_left
            · intro w'
              go_simp
              with_reducible rfl
            rotate_left
            · simp only [Act.put, List.setIfInBounds_toArray, List.set_cons_zero, List.set_cons_succ, i64_w, i32_w]
              rfl
            refine pure_ (i := 3) (N := some 52) (v := ?_) (a' := ?_) #[true, true, true, true, false, false, false, false, false, false, false, false, false, false, false, false, false, false, false, false, false, false] rfl rfl (by kernel_rfl) (fun _ _ _ h => h) (Or.inl ⟨by rfl, ?_⟩) ?_ ?_
            rotate_left
            · intro w'
              go_simp
              with_reducible rfl
            rotate_left
            · simp only [Act.put, List.setIfInBounds_toArray, List.set_cons_zero, List.set_cons_succ, i64_w, i32_w]
              rfl
            refine pure_ (i := 4) (N := some 53) (v := ?_) (a' := ?_) #[true, true, true, true, true, false, false, false, false, false, false, false, false, false, false, false, false, false, false, false, false, false] rfl rfl (by kernel_rfl) (fun _ _ _ h => h) (Or.inl ⟨by rfl, ?_⟩) ?_ ?_
            rotate_left
            · intro w'
              go_simp
              with_reducible rfl
            rotate_left
            · simp only [Act.put, List.setIfInBounds_toArray, List.set_cons_zero, List.set_cons_succ, i64_w, i32_w]
              rfl
            refine pure_ (i := 6) (N := some 55) (v := ?_) (a' := ?_) #[true, true, true, true, true, false, true, false, false, false, false, false, false, false, false, false, false, false, false, false, false, false] rfl rfl (by kernel_rfl) (fun _ _ _ h => h) (Or.inl ⟨by rfl, ?_⟩) ?_ ?_
            rotate_left
            · intro w'
              go_simp
              with_reducible rfl
            rotate_left
            · simp only [Act.put, List.setIfInBounds_toArray, List.set_cons_zero, List.set_cons_succ, i64_w, i32_w]
              rfl
            refine take_ (i := 7) (N := some 56) (v := ?_) (a' := ?_) #[true, true, true, true, true, false, true, true, false, false, false, false, false, false, false, false, false, false, false, false, false, false] rfl rfl (by kernel_rfl) (fun _ _ _ h => h) (Or.inl ⟨by rfl, ?_⟩) hJ1 ?_ ?_
            rotate_left
            · rintro w' ⟨_, s1, _⟩
              have q0 := (blk_cell s1 0).trans rfl
              go_simp
              with_reducible rfl
            rotate_left
            · simp only [Act.put, List.setIfInBounds_toArray, List.set_cons_zero, List.set_cons_succ, i64_w, i32_w]
              rfl
            refine one_ (i := 5) (N := some 54) #[true, true, true, true, true, true, true, true, false, false, false, false, false, false, false, false, false, false, false, false, false, false] rfl rfl (by kernel_rfl) (by decide) (fun K hK => ?_)
            refine goes_ Try.func15 (by kernel_rfl) rfl #[.pointer (some ⟨t, 0, none⟩)] (by rfl) rfl rfl (by (try simp only [List.map_toArray, List.map_cons, List.map_nil]); first | done | rfl) ?_
            refine (open_calls hJ1.ts).mono ?_
            rintro e6 w6 ⟨rfl, hb6⟩
            refine ⟨_, rfl, ?_⟩
            have hS_ := hJ1.below hb6
            clear hb6
            refine hK.out _ _ hS_ (fun hJ2 => ?_)
            clear hS_
            clear hK K
            refine norm_ (a' := ?_) ?_ ?_
            rotate_left
            · show Act.put _ (some 54) _ = _
              simp only [Act.put, List.setIfInBounds_toArray, List.set_cons_zero, List.set_cons_succ, i64_w, i32_w]
              rfl
            refine pure_ (i := 8) (N := some 57) (v := ?_) (a' := ?_) #[true, true, true, true, true, true, true, true, true, false, false, false, false, false, false, false, false, false, false, false, false, false] rfl rfl (by kernel_rfl) (fun _ _ _ h => h) (Or.inl ⟨by rfl, ?_⟩) ?_ ?_
            rotate_left
            · intro w'
              go_simp
              with_reducible rfl
            rotate_left
            · simp only [Act.put, List.setIfInBounds_toArray, List.set_cons_zero, List.set_cons_succ, i64_w, i32_w]
              rfl
            refine pure_ (i := 9) (N := some 58) (v := ?_) (a' := ?_) #[true, true, true, true, true, true, true, true, true, true, false, false, false, false, false, false, false, false, false, false, false, false] rfl rfl (by kernel_rfl) (fun _ _ _ h => h) (Or.inl ⟨by rfl, ?_⟩) ?_ ?_
            rotate_left
            · intro w'
              go_simp
              with_reducible rfl
            rotate_left
            · simp only [Act.put, List.setIfInBounds_toArray, List.set_cons_zero, List.set_cons_succ, i64_w, i32_w]
              rfl
            refine pure_ (i := 10) (N := some 59) (v := ?_) (a' := ?_) #[true, true, true, true, true, true, true, true, true, true, true, false, false, false, false, false, false, false, false, false, false, false] rfl rfl (by kernel_rfl) (fun _ _ _ h => h) (Or.inl ⟨by rfl, ?_⟩) ?_ ?_
            rotate_left
            · intro w'
              go_simp
              with_reducible rfl
            rotate_left
            · simp only [Act.put, List.setIfInBounds_toArray, List.set_cons_zero, List.set_cons_succ, i64_w, i32_w]
              rfl
            refine pure_ (i := 11) (N := some 60) (v := ?_) (a' := ?_) #[true, true, true, true, true, true, true, true, true, true, true, true, false, false, false, false, false, false, false, false, false, false] rfl rfl (by kernel_rfl) (fun _ _ _ h => h) (Or.inl ⟨by rfl, ?_⟩) ?_ ?_
            rotate_left
            · intro w'
              go_simp
              with_reducible rfl
            rotate_left
            · simp only [Act.put, List.setIfInBounds_toArray, List.set_cons_zero, List.set_cons_succ, i64_w, i32_w]
              rfl
            refine one_ (i := 12) (N := some 61) #[true, true, true, true, true, true, true, true, true, true, true, true, true, false, false, false, false, false, false, false, false, false] rfl rfl (by kernel_rfl) (by decide) (fun K hK => ?_)
            refine goes_ Try.func16 (by kernel_rfl) rfl #[.pointer (some ⟨t, 0, none⟩)] (by rfl) rfl rfl (by (try simp only [List.map_toArray, List.map_cons, List.map_nil]); first | done | rfl) ?_
            refine (held_calls hJ2.ts HH4.out HL4.out).mono ?_
            rintro e7 w7 ⟨rfl, hb7⟩
            refine ⟨_, rfl, ?_⟩
            have hS_ := hJ2.below hb7
            clear hb7
            refine hK.out _ _ hS_ (fun hJ3 => ?_)
            clear hS_
            clear hK K
            refine norm_ (a' := ?_) ?_ ?_
            rotate_left
            · show Act.put _ (some 61) _ = _
              simp only [Act.put, List.setIfInBounds_toArray, List.set_cons_zero, List.set_cons_succ, i64_w, i32_w]
              rfl
            refine pure_ (i := 13) (N := some 62) (v := ?_) (a' := ?_) #[true, true, true, true, true, true, true, true, true, true, true, true, true, true, false, false, false, false, false, false, false, false] rfl rfl (by kernel_rfl) (fun _ _ _ h => h) (Or.inl ⟨by rfl, ?_⟩) ?_ ?_
            rotate_left
            · intro w'
              go_simp
              with_reducible rfl
            rotate_left
            · simp only [Act.put, List.setIfInBounds_toArray, List.set_cons_zero, List.set_cons_succ, i64_w, i32_w]
              rfl
            refine pure_ (i := 14) (N := some 63) (v := ?_) (a' := ?_) #[true, true, true, true, true, true, true, true, true, true, true, true, true, true, true, false, false, false, false, false, false, false] rfl rfl (by kernel_rfl) (fun _ _ _ h => h) (Or.inl ⟨by rfl, ?_⟩) ?_ ?_
            rotate_left
            · intro w'
              go_simp
              with_reducible rfl
            rotate_left
            · simp only [Act.put, List.setIfInBounds_toArray, List.set_cons_zero, List.set_cons_succ, i64_w, i32_w]
              rfl
            refine pure_ (i := 15) (N := some 64) (v := ?_) (a' := ?_) #[true, true, true, true, true, true, true, true, true, true, true, true, true, true, true, true, false, false, false, false, false, false] rfl rfl (by kernel_rfl) (fun _ _ _ h => h) (Or.inl ⟨by rfl, ?_⟩) ?_ ?_
            rotate_left
            · intro w'
              go_simp
              with_reducible rfl
            rotate_left
            · simp only [Act.put, List.setIfInBounds_toArray, List.set_cons_zero, List.set_cons_succ, i64_w, i32_w]
              rfl
            refine pure_ (i := 16) (N := some 65) (v := ?_) (a' := ?_) #[true, true, true, true, true, true, true, true, true, true, true, true, true, true, true, true, true, false, false, false, false, false] rfl rfl (by kernel_rfl) (fun _ _ _ h => h) (Or.inl ⟨by rfl, ?_⟩) ?_ ?_
            rotate_left
            · intro w'
              go_simp
              with_reducible rfl
            rotate_left
            · simp only [Act.put, List.setIfInBounds_toArray, List.set_cons_zero, List.set_cons_succ, i64_w, i32_w]
              rfl
            refine pure_ (i := 18) (N := some 67) (v := ?_) (a' := ?_) #[true, true, true, true, true, true, true, true, true, true, true, true, true, true, true, true, true, false, true, false, false, false] rfl rfl (by kernel_rfl) (fun _ _ _ h => h) (Or.inl ⟨by rfl, ?_⟩) ?_ ?_
            rotate_left
            · intro w'
              go_simp
              with_reducible rfl
            rotate_left
            · simp only [Act.put, List.setIfInBounds_toArray, List.set_cons_zero, List.set_cons_succ, i64_w, i32_w]
              rfl
            refine take_ (i := 19) (N := some 68) (v := ?_) (a' := ?_) #[true, true, true, true, true, true, true, true, true, true, true, true, true, true, true, true, true, false, true, true, false, false] rfl rfl (by kernel_rfl) (fun _ _ _ h => h) (Or.inl ⟨by rfl, ?_⟩) hJ3 ?_ ?_
            rotate_left
            · rintro w' ⟨_, s1, _⟩
              have q1 := (blk_cell s1 1).trans rfl
              go_simp
              with_reducible rfl
            rotate_left
            · simp only [Act.put, List.setIfInBounds_toArray, List.set_cons_zero, List.set_cons_succ, i64_w, i32_w]
              rfl
            refine one_ (i := 17) (N := some 66) #[true, true, true, true, true, true, true, true, true, true, true, true, true, true, true, true, true, true, true, true, false, false] rfl rfl (by kernel_rfl) (by decide) (fun K hK => ?_)
            refine goes_ Try.func16 (by kernel_rfl) rfl #[.pointer (some ⟨t, 0, none⟩)] (by rfl) rfl rfl (by (try simp only [List.map_toArray, List.map_cons, List.map_nil]); first | done | rfl) ?_
            refine (held_calls hJ3.ts HH4.out HL4.out).mono ?_
            rintro e8 w8 ⟨rfl, hb8⟩
            refine ⟨_, rfl, ?_⟩
            have hS_ := hJ3.below hb8
            clear hb8
            refine hK.out _ _ hS_ (fun hJ4 => ?_)
            clear hS_
            clear hK K
            refine norm_ (a' := ?_) ?_ ?_
            rotate_left
            · show Act.put _ (some 66) _ = _
              simp only [Act.put, List.setIfInBounds_toArray, List.set_cons_zero, List.set_cons_succ, i64_w, i32_w]
              rfl
            refine pure_ (i := 20) (N := some 69) (v := ?_) (a' := ?_) #[true, true, true, true, true, true, true, true, true, true, true, true, true, true, true, true, true, true, true, true, true, false] rfl rfl (by kernel_rfl) (fun _ _ _ h => h) (Or.inl ⟨by rfl, ?_⟩) ?_ ?_
            rotate_left
            · intro w'
              go_simp
              with_reducible rfl
            rotate_left
            · simp only [Act.put, List.setIfInBounds_toArray, List.set_cons_zero, List.set_cons_succ, i64_w, i32_w]
              rfl
            refine pure_ (i := 21) (N := some 70) (v := ?_) (a' := ?_) #[true, true, true, true, true, true, true, true, true, true, true, true, true, true, true, true, true, true, true, true, true, true] rfl rfl (by kernel_rfl) (fun _ _ _ h => h) (Or.inl ⟨by rfl, ?_⟩) ?_ ?_
            rotate_left
            · intro w'
              go_simp
              with_reducible rfl
            rotate_left
            · simp only [Act.put, List.setIfInBounds_toArray, List.set_cons_zero, List.set_cons_succ, i64_w, i32_w]
              rfl
            refine done_ (by kernel_rfl) ?_
            have HJ4 := Aside0.mk hJ4
            clear hJ hJ1 hJ2 hJ3 hJ4 k0 k1 k2 k3
            go_wp2
            go_roundg (l1.length - (j + 1))
            case measure => omega
            case rel => exact ⟨j + 1, own4, os4, by omega, by omega, by go_num, ⟨HJ4.out.ts⟩, HI4, HG4, HO4, ⟨HJ4.out.bl⟩, ⟨HJ4.out.bx⟩⟩
        · have p1 : ¬ ((j : Int) < (l1.length : Int)) := by omega
          have HG0 : Aside0 (AgeIn L ((0 : Nat) : Int) (aOf os)) := ⟨HG.out⟩
          go_wp2_with fail
          go_loopg [8] (L.ex + 1).toNat (fun gg s8 wr => ∃ (m : Nat) (own' : Nat → Prop) (os : List OB), (m : Int) ≤ L.ex + 1 ∧ (L.ex + 1).toNat - m ≤ gg ∧ s8 = .int .i64 m ∧ Aside0 (TS own' t L os wr) ∧ Aside0 (RInv L (aOf os)) ∧ Aside0 (AgeIn L m (aOf os)) ∧ Aside0 (∀ q, own' q → w.heap.size + 1 ≤ q) ∧ Aside0 (Below w.heap.size w wr) ∧ Aside0 (wr.heap[w.heap.size]? = some (.cells #[.int .i64 L.op, .int .i64 L.by_, .int .i64 L.ex] 23 (0, 0))))
          case atStart => exact ⟨0, _, os, by have := HLO.out.e1; omega, by omega, rfl, HT, HI, HG0, HO, HB, HX⟩
          case round =>
            obtain ⟨m, own5, os5, hm, hgm, rfl, HT5, HI5, HG5, HO5, HB5, HX5⟩ := hrel
            obtain ⟨x0, x1, x2⟩ := box3c HX5.out
            have he1 := HLO.out.e1
            have he2 := HLO.out.e2
            by_cases hml : (m : Int) ≤ L.ex
            · have c1 : decide ((m : Int) ≤ L.ex) = true := decide_eq_true hml
              have c2 : decide ((m : Int) < 40) = true := decide_eq_true (by omega)
              have HTK := Aside0.mk (tick_calls HT5.out (by have h1 := HI5.out.ln; have h2 := HLO.out.o2; rw [aOf_len] at h1; omega) (fun o ho => by have h1 := HG5.out o.a (List.mem_map.2 ⟨o, ho, rfl⟩); have h2 := HLO.out.e2; exact ⟨by omega, by omega⟩))
              go_wp2_with fail
              refine HTK.out.mono ?_
              rintro e3 w3 ⟨rfl, hf3, os6, ha3, hT3⟩
              have HT6 := Aside0.mk hT3
              have HI6 : Aside0 (RInv L (aOf os6)) := ⟨by rw [ha3]; exact tick_inv HI5.out⟩
              have HG6 : Aside0 (AgeIn L ((m + 1 : Nat) : Int) (aOf os6)) := ⟨by rw [ha3]; have := tick_age HG5.out; exact this⟩
              have HB6 : Aside0 (Below w.heap.size w w3) := ⟨HB5.out.trans (hf3.below HB5.out.size (fun q hq => by have := HO5.out q hq; omega))⟩
              have HX6 := Aside0.mk ((hf3.block _ (blk_lt HX5.out) (fun e => by have := HO5.out _ e; omega)).trans HX5.out)
              clear hf3 ha3 hT3 x0 x1 x2 c1 c2
              go_wp2
              go_roundg ((L.ex + 1).toNat - (m + 1))
              case measure => omega
              case rel => exact ⟨m + 1, own5, os6, by omega, by omega, by go_num, HT6, HI6, HG6, HO5, HB6, HX6⟩
            · have c1 : decide ((m : Int) ≤ L.ex) = false := decide_eq_false hml
              have hnil : os5 = [] := by
                cases os5 with
                | nil => rfl
                | cons o r =>
                  have := HG5.out o.a (by simp [aOf])
                  omega
              subst hnil
              have HOP := Aside0.mk (open_calls HT5.out)
              go_wp2_with fail
              refine HOP.out.mono ?_
              rintro e7 w7 ⟨rfl, hb7⟩
              have HB7 := Aside0.mk (below_then HB5.out HB5.out.size hb7)
              have HHE := Aside0.mk (held_calls (HT5.out.below hb7) (by show (0 : Int) ≤ _; omega) (by show 0 ≤ _; omega))
              clear hb7
              go_wp2_with fail
              refine HHE.out.mono ?_
              rintro e8 w8 ⟨rfl, hb8⟩
              have HB8 := Aside0.mk (below_then HB7.out HB7.out.size hb8)
              have hh0 : Room.held (aOf []) = 0 := rfl
              rw [hh0]
              clear hb8 hh0
              go_wp2_with fail
              refine (HAW.out _ HB8.out).mono ?_
              rintro e9 w9 ⟨rfl, hb9⟩
              have HB9 := Aside0.mk hb9
              clear hb9
              go_wp2_with fail
              go_ret
              exact ⟨rfl, HB9.out⟩
    · have HB2 := Aside0.mk (below_then HB1.out HB1.out.size hb2)
      clear hb2 x0 x1 x2 hlim
      go_wp2_with fail
      refine (HAW.out _ HB2.out).mono ?_
      rintro e9 w9 ⟨rfl, hb9⟩
      have HB9 := Aside0.mk hb9
      clear hb9
      go_wp2_with fail
      go_ret
      exact ⟨rfl, HB9.out⟩
#print axioms bounds_calls
end Go.Proofs.Ytaeelmkpjgmdlaa.H
