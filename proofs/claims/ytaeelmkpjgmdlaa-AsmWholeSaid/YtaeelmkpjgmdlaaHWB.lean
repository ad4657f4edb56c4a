/- Mine. Chapters 18 and 23, by hand: the reference's Get, at bytes that are right. -/
import Derived.Test.YtaeelmkpjgmdlaaHWA
namespace Go.Proofs.Ytaeelmkpjgmdlaa.H
open Go Go.Proofs Go.RowKit Go.Lib Go.Proofs.Ytaeelmkpjgmdlaa.P Go.Proofs.YtaeelmkpjgmdlaaW.PrintWords Go.Proofs.YtaeelmkpjgmdlaaW.PrintLast Go.Proofs.YtaeelmkpjgmdlaaW.PrintMore Go.Proofs.YtaeelmkpjgmdlaaW.PrintFlat
set_option linter.unusedVariables false
set_option linter.unusedSimpArgs false
/-- The boxes of Get: the result, the reader, what is read. -/
structure GetS (w : World) (z2 g z7 : Nat) (A : Option Addr) (c : Nat) (cs : List Int) (at_ : Nat) (gv : Array Value) (V : World) : Prop where
  b2 : V.heap[z2]? = some (.cells #[.int .u8 0, .int .u8 0, .int .u32 0, .int .u32 0, .int .u16 0, .int .u16 0, .slice none 0 0] 38 (0, 0))
  cb : CurB g A c cs (at_ : Int) V
  b7 : V.heap[z7]? = some (.cells gv 38 (0, 0))
  bl : Below w.heap.size w V
  ng : w.heap.size ≤ g
  n7 : w.heap.size ≤ z7
  n2 : w.heap.size ≤ z2
  d1 : z2 ≠ g
  d2 : z2 ≠ z7
  d3 : z7 ≠ g
theorem GetS.below {w : World} {z2 g z7 : Nat} {A : Option Addr} {c : Nat} {cs : List Int} {at_ : Nat} {gv : Array Value} {V V' : World} (h : GetS w z2 g z7 A c cs at_ gv V) (hb : Below V.heap.size V V') : GetS w z2 g z7 A c cs at_ gv V' :=
  ⟨(hb.block _ (blk_lt h.b2)).trans h.b2, h.cb.below hb, (hb.block _ (blk_lt h.b7)).trans h.b7, below_then h.bl h.bl.size hb, h.ng, h.n7, h.n2, h.d1, h.d2, h.d3⟩
theorem GetS.fix {w : World} {z2 g z7 : Nat} {A : Option Addr} {c : Nat} {cs : List Int} {at_ z : Nat} {gv : Array Value} {V V' : World} (h : GetS w z2 g z7 A c cs at_ gv V) (hq : CurQ w V g A c cs (z : Int) V') : GetS w z2 g z7 A c cs z gv V' :=
  ⟨(hq.fr.block _ (blk_lt h.b2) h.d1).trans h.b2, hq.cb, (hq.fr.block _ (blk_lt h.b7) h.d3).trans h.b7, h.bl.trans (hq.fr.below h.bl.size (fun q hq => by rw [hq]; exact h.ng)), h.ng, h.n7, h.n2, h.d1, h.d2, h.d3⟩
theorem GetS.set {w : World} {z2 g z7 : Nat} {A : Option Addr} {c : Nat} {cs : List Int} {at_ : Nat} {gv : Array Value} {V : World} (h : GetS w z2 g z7 A c cs at_ gv V) (i : Nat) (v : Value) : GetS w z2 g z7 A c cs at_ (gv.setIfInBounds i v) (V.setCell ⟨z7, i, none⟩ v) := by
  have hfr : Fr (fun q => q = z7) V (V.setCell ⟨z7, i, none⟩ v) := ⟨rfl, rfl, rfl, by simp [World.setCell], fun k hk hn => Below.heap_setCell _ _ _ _ hn⟩
  exact ⟨(hfr.block _ (blk_lt h.b2) h.d2).trans h.b2, ⟨(hfr.block _ (blk_lt h.cb.b) (fun e => h.d3 e.symm)).trans h.cb.b⟩, by rw [blk_set h.b7 i v], h.bl.trans (hfr.below h.bl.size (fun q hq => by rw [hq]; exact h.n7)), h.ng, h.n7, h.n2, h.d1, h.d2, h.d3⟩
theorem right_ok (kd ver ep id ix cnt : Int) (body : List Int) (h1 : 1 ≤ kd) (h2 : kd ≤ 2) (h3 : 0 ≤ ix) (h4 : ix < cnt) (h5 : body.length ≤ 65487) : annuletref18_Right.f 3 kd ver ep id ix cnt body = some 0 := by
  unfold annuletref18_Right.f
  rw [if_neg (by omega)]
  simp only [annuletref18_Right.j0, annuletref18_Right.j1]
  rw [if_neg (by simp; omega), if_neg (by omega)]
  rw [if_neg (by simp; omega), if_neg (by omega)]
theorem wrap64_small (M : Nat) (h : M ≤ 9223372036854775807) : wrap64 (M : Int) = (M : Int) := by unfold wrap64; omega
set_option maxHeartbeats 8000000 in
set_option maxRecDepth 100000 in
theorem get_ok {A : Option Addr} {c : Nat} {bs : List Int} {w : World} (hr : Kd.C (Kd.int .u8) w A bs.length bs) (hc : bs.length ≤ c) (N M : Nat) (hN : bs.length = N) (hM : M + 4 = N) (h16 : 16 ≤ M) (hN2 : N ≤ 1600) (hby : ∀ b ∈ bs, 0 ≤ b ∧ b < 256) {kS : Nat} (D : List Int) (hD : bs.drop M = D) (hS : annuletref18_Sum.f kS (bs.take M) = some D) (h0 : rd bs 0 = 167) (h1 : rd bs 1 = 78)
    (cs : List Int) (hcs : (bs.take M).drop 2 = cs) (kd ver ep id ix cnt : Int) (body : List Int) (hkd : num ((cs.take 1).drop 0) = kd) (hver : num ((cs.take 2).drop 1) = ver) (hep : num ((cs.take 6).drop 2) = ep) (hid : num ((cs.take 10).drop 6) = id) (hix : num ((cs.take 12).drop 10) = ix) (hcnt : num ((cs.take 14).drop 12) = cnt) (hbody : cs.drop 14 = body)
    (wk : 1 ≤ kd ∧ kd ≤ 2) (wv : 0 ≤ ver ∧ ver < 256) (we : 0 ≤ ep ∧ ep < 4294967296) (wi : 0 ≤ id ∧ id < 4294967296) (wx : 0 ≤ ix ∧ ix < cnt) (wc : cnt < 65536) :
    Calls Try.prog 21 #[.slice A bs.length c] w fun e w' => Below w.heap.size w w' ∧ ∃ A' c', e = .returned (.tuple #[.agg #[.int .u8 kd, .int .u8 ver, .int .u32 ep, .int .u32 id, .int .u16 ix, .int .u16 cnt, .slice A' body.length c'], .int .i64 0]) ∧ body.length ≤ c' ∧ Kd.R (Kd.int .u8) 5 w' w.heap.size (fun _ => True) (.slice A' body.length c') body := by
  obtain ⟨ad, rfl, hx0⟩ := Kd.at_int hr 0 (by decide) (by omega)
  obtain ⟨ad', e2, hx1⟩ := Kd.at_int hr 1 (by decide) (by omega)
  rw [h0] at hx0
  rw [h1] at hx1
  cases e2
  have hsub : (N : Int) - 4 = (M : Int) := by omega
  have hMc : M ≤ c := by omega
  have hMN : M ≤ N := by omega
  have hNc : N ≤ c := by omega
  have hNM : N - M = 4 := by omega
  have p20 : ¬ ((N : Int) < 20) := by omega
  have p65 : ¬ ((N : Int) > 65507) := by omega
  obtain ⟨A1, hA1⟩ : ∃ A1, (if c = M then some ad else some (ad.add M)) = A1 := ⟨_, rfl⟩
  have hC1 : Kd.C (Kd.int .u8) w A1 D.length D := by
    have h := Kd.C_drop (m := M) (c := c) hr (by omega) hc
    rw [show (Kd.int .u8).sz = 1 from rfl, Nat.mul_one, Option.map_some, hA1, hD] at h
    exact h
  have hD4 : D.length = 4 := by rw [← hD, List.length_drop]; omega
  have hCT : Kd.C (Kd.int .u8) w (some ad) M (bs.take M) := by
    have h := Kd.C_take (m := M) hr (by omega)
    rw [List.length_take, Nat.min_eq_left (by omega)] at h
    exact h
  have HCV : Aside0 (∀ V, Below w.heap.size w V → (Go.convert 36 9 (.slice A1 4 (c - M))).run Try.prog V = .ok (.string (strOfNums D)) V) := ⟨fun V hV => by
    have h := Kd.C_string (P := Try.prog) (A := A1) (c := c - M) Try.underlying36 Try.underlying5 Try.underlying9 (Kd.C_below hC1 hV)
    rw [hD4] at h
    exact h⟩
  have HSUM : Aside0 (∀ V, Below w.heap.size w V → Calls Try.prog 48 #[.slice (some ad) M c] V fun e w' => ∃ v : Value, e = .returned v ∧ Kd.R (Kd.int .u8) 5 w' V.heap.size (fun _ => True) v D ∧ Below V.heap.size V w') := ⟨fun V hV => by
    have h := annuletref18_Sum.calls kS (some ad) c (bs.take M) D V (by rw [List.length_take, Nat.min_eq_left (by omega)]; exact Kd.C_below hCT hV) (by rw [List.length_take]; omega) hS
    rw [List.length_take, Nat.min_eq_left (by omega)] at h
    exact h⟩
  have HSTR : Aside0 (∀ (base : Nat) (ok : Nat → Prop) (v : Value) (V : World), Kd.R (Kd.int .u8) 5 V base ok v D → (Go.convert 36 9 v).run Try.prog V = .ok (.string (strOfNums D)) V) := ⟨fun base ok v V h => by
    obtain ⟨B, d, rfl, _, hC⟩ := Kd.R_reads h
    exact Kd.C_string (P := Try.prog) (A := B) (c := d) Try.underlying36 Try.underlying5 Try.underlying9 hC⟩
  obtain ⟨A2, hA2⟩ : ∃ A2, (if c = 2 then some ad else some ⟨ad.block, ad.off + 2, none⟩) = A2 := ⟨_, rfl⟩
  have hlc : cs.length = M - 2 := by rw [← hcs, List.length_drop, List.length_take]; omega
  have hCC : Kd.C (Kd.int .u8) w A2 cs.length cs := by
    have h := Kd.C_mid (c := c) hr (show 2 ≤ M by omega) (show M ≤ bs.length by omega) hc
    rw [hcs, show (Kd.int .u8).sz = 1 from rfl, Nat.mul_one, Option.map_some, show ad.add 2 = ⟨ad.block, ad.off + 2, none⟩ from rfl, hA2] at h
    exact h
  have HCC := Aside0.mk hCC
  have HA2 := Aside0.mk hA2
  clear hA2
  have HBD : Aside0 ((cs.length : Int) - ((14 : Nat) : Int) = (body.length : Int) ∧ 14 + body.length = cs.length ∧ (cs.take cs.length).drop 14 = body ∧ body.length ≤ 65487) := ⟨by
    have h1 : body.length = cs.length - 14 := by rw [← hbody, List.length_drop]
    exact ⟨by omega, by omega, by rw [List.take_length, hbody], by omega⟩⟩
  have HLC := Aside0.mk (And.intro hlc (And.intro h16 (And.intro hM hN2)))
  have HCL : Aside0 (cs.length ≤ c - 2) := ⟨by omega⟩
  have HCB : Aside0 (∀ b ∈ cs, 0 ≤ b ∧ b < 256) := ⟨fun b hb => by rw [← hcs] at hb; exact hby b (List.mem_of_mem_take (List.mem_of_mem_drop hb))⟩
  have Hkd := Aside0.mk hkd
  have Hver := Aside0.mk hver
  have Hep := Aside0.mk hep
  have Hid := Aside0.mk hid
  have Hix := Aside0.mk hix
  have Hcnt := Aside0.mk hcnt
  have HBODY := Aside0.mk hbody
  rw [hN]
  have HX : Aside0 (w.cell? ad = some (.int .u8 167) ∧ w.cell? ⟨ad.block, ad.off + 1, none⟩ = some (.int .u8 78)) := ⟨by simpa [Addr.add] using hx0, by simpa [Addr.add] using hx1⟩
  have HT : Aside0 ((1 : Int) < (N : Int) ∧ (0 : Int) < (N : Int) ∧ ((N : Int) - 4).toNat = M ∧ (((N : Int) - 4 ≤ (c : Int)) = True) ∧ (((2 : Int) ≤ (N : Int) - 4) = True) ∧ (((0 : Int) ≤ (N : Int) - 4) = True) ∧ M - 2 = cs.length ∧ 2 ≤ M) := ⟨by omega, by omega, by omega, eq_true (by omega), eq_true (by omega), eq_true (by omega), by omega, by omega⟩
  have HBY := Aside0.mk hby
  clear hr hc hN hM h16 hN2 hby hD hS hcs hkd hver hep hid hix hcnt hbody hC1 hCT hCC hlc h0 h1 hx0 hx1
  go_enter Try.func21, Try.ntmps21
  go_upto_region 7 with fail
  obtain ⟨X0, hX0⟩ : ∃ X, (w.alloc (.cells #[.int .u8 0, .int .u8 0, .int .u32 0, .int .u32 0, .int .u16 0, .int .u16 0, .slice none 0 0] 38)).alloc (.cells #[.int .u8 0, .int .u8 0, .int .u32 0, .int .u32 0, .int .u16 0, .int .u16 0, .slice none 0 0] 38) = X := ⟨_, rfl⟩
  rw [hX0]
  have hb1 := below_alloc (Below.refl w.heap.size w) (.cells #[.int .u8 0, .int .u8 0, .int .u32 0, .int .u32 0, .int .u16 0, .int .u16 0, .slice none 0 0] 38)
  have hb2 := below_alloc hb1 (.cells #[.int .u8 0, .int .u8 0, .int .u32 0, .int .u32 0, .int .u16 0, .int .u16 0, .slice none 0 0] 38)
  rw [hX0] at hb2
  have hz2 : X0.heap[w.heap.size]? = some (.cells #[.int .u8 0, .int .u8 0, .int .u32 0, .int .u32 0, .int .u16 0, .int .u16 0, .slice none 0 0] 38 (0, 0)) := by
    rw [← hX0]
    exact ((below_alloc (Below.refl _ _) _).block _ (blk_lt (heap_alloc_new w _))).trans (heap_alloc_new w _)
  obtain ⟨X, hX⟩ : ∃ X, X0.drew = X := ⟨_, rfl⟩
  have hbX : Below X0.heap.size X0 X := by rw [← hX]; exact (Below.refl _ _).drew
  have HZ2 := Aside0.mk ((hbX.block _ (blk_lt hz2)).trans hz2)
  have hs0 : Below X.heap.size X X0.drew := by rw [hX]; exact Below.refl _ _
  have hbwX := below_then hb2 hb2.size hbX
  have HBWX : Aside0 (∀ V, Below X.heap.size X V → Below w.heap.size w V) := ⟨fun V hV => below_then hbwX hbwX.size hV⟩
  have hszX : Aside0 (X.heap.size = X0.heap.size) := ⟨by rw [← hX]; rfl⟩
  clear hX0 hb1 hb2 hz2 hbX hbwX
  go_wp2_with fail
  refine start_ (n := 12) (S := fun V => Below X.heap.size X V) (ds := []) #[false, false, false, false, false, false, false, false, false, false, false, false] (by kernel_rfl) rfl rfl hs0 (fun hH => ?_)
  rw [hX] at hH ⊢
  clear hX hs0
  have hMw : wrap64 (M : Int) = (M : Int) := wrap64_small M (by omega)
  refine pure_ (i := 0) (N := some 18) (v := ?_) (a' := ?_) #[true, false, false, false, false, false, false, false, false, false, false, false] rfl rfl (by kernel_rfl) (fun _ _ _ h => h) (Or.inl ⟨by rfl, ?_⟩) ?_ ?_
  rotate_left
  · intro w'
    go_simp
    with_reducible rfl
  rotate_left
  · simp only [Act.put, List.setIfInBounds_toArray, List.set_cons_zero, List.set_cons_succ, i64_w, i32_w]
    rfl
  refine pure_ (i := 1) (N := some 19) (v := ?_) (a' := ?_) #[true, true, false, false, false, false, false, false, false, false, false, false] rfl rfl (by kernel_rfl) (fun _ _ _ h => h) (Or.inl ⟨by rfl, ?_⟩) ?_ ?_
  rotate_left
  · intro w'
    go_simp
    with_reducible rfl
  rotate_left
  · simp only [Act.put, List.setIfInBounds_toArray, List.set_cons_zero, List.set_cons_succ, i64_w, i32_w]
    rfl
  refine pure_ (i := 2) (N := some 20) (v := ?_) (a' := ?_) #[true, true, true, false, false, false, false, false, false, false, false, false] rfl rfl (by kernel_rfl) (fun _ _ _ h => h) (Or.inl ⟨by rfl, ?_⟩) ?_ ?_
  rotate_left
  · intro w'
    go_simp
    with_reducible rfl
  rotate_left
  · simp only [Act.put, List.setIfInBounds_toArray, List.set_cons_zero, List.set_cons_succ, i64_w, i32_w]
    rfl
  refine pure_ (i := 3) (N := some 21) (v := ?_) (a' := ?_) #[true, true, true, true, false, false, false, false, false, false, false, false] rfl rfl (by kernel_rfl) (fun _ _ _ h => h) (Or.inl ⟨by rfl, ?_⟩) ?_ ?_
  rotate_left
  · intro w'
    go_simp
    with_reducible rfl
  rotate_left
  · simp only [Act.put, List.setIfInBounds_toArray, List.set_cons_zero, List.set_cons_succ, i64_w, i32_w]
    rfl
  refine pure_ (i := 6) (N := some 24) (v := ?_) (a' := ?_) #[true, true, true, true, false, false, true, false, false, false, false, false] rfl rfl (by kernel_rfl) (fun _ _ _ h => h) (Or.inl ⟨by rfl, ?_⟩) ?_ ?_
  rotate_left
  · intro w'
    go_simp
    with_reducible rfl
  rotate_left
  · simp only [Act.put, List.setIfInBounds_toArray, List.set_cons_zero, List.set_cons_succ, i64_w, i32_w]
    rfl
  refine pure_ (i := 7) (N := some 25) (v := ?_) (a' := ?_) #[true, true, true, true, false, false, true, true, false, false, false, false] rfl rfl (by kernel_rfl) (fun _ _ _ h => h) (Or.inl ⟨by rfl, ?_⟩) ?_ ?_
  rotate_left
  · intro w'
    go_simp
    with_reducible rfl
  rotate_left
  · simp only [Act.put, List.setIfInBounds_toArray, List.set_cons_zero, List.set_cons_succ, i64_w, i32_w]
    rfl
  refine pure_ (i := 8) (N := some 26) (v := ?_) (a' := ?_) #[true, true, true, true, false, false, true, true, true, false, false, false] rfl rfl (by kernel_rfl) (fun _ _ _ h => h) (Or.inl ⟨by rfl, ?_⟩) ?_ ?_
  rotate_left
  · intro w'
    go_simp
    with_reducible rfl
  rotate_left
  · simp only [Act.put, List.setIfInBounds_toArray, List.set_cons_zero, List.set_cons_succ, i64_w, i32_w]
    rfl
  refine pure_ (i := 9) (N := some 27) (v := ?_) (a' := ?_) #[true, true, true, true, false, false, true, true, true, true, false, false] rfl rfl (by kernel_rfl) (fun _ _ _ h => h) (Or.inl ⟨by rfl, ?_⟩) ?_ ?_
  rotate_left
  · intro w'
    go_simp
    with_reducible rfl
  rotate_left
  · simp only [Act.put, List.setIfInBounds_toArray, List.set_cons_zero, List.set_cons_succ, i64_w, i32_w]
    rfl
  refine take_ (i := 10) (N := some 28) (v := ?_) (a' := ?_) #[true, true, true, true, false, false, true, true, true, true, true, false] rfl rfl (by kernel_rfl) (fun _ _ _ h => h) (Or.inl ⟨by rfl, ?_⟩) hH ?_ ?_
  rotate_left
  · rintro w' hs_
    have t0 := HCV.out _ (HBWX.out _ hs_)
    go_simp
    with_reducible rfl
  rotate_left
  · simp only [Act.put, List.setIfInBounds_toArray, List.set_cons_zero, List.set_cons_succ, i64_w, i32_w]
    rfl
  refine one_ (i := 4) (N := some 22) #[true, true, true, true, true, false, true, true, true, true, true, false] rfl rfl (by kernel_rfl) (by decide) (fun K hK => ?_)
  refine goes_ Try.func48 (by kernel_rfl) rfl #[.slice (some ad) M c] (by rfl) rfl rfl (by (try simp only [List.map_toArray, List.map_cons, List.map_nil]); first | done | rfl) ?_
  refine (HSUM.out _ (HBWX.out _ hH)).mono ?_
  rintro e5 w5 ⟨v5, rfl, hR5, hb5⟩
  refine ⟨_, rfl, ?_⟩
  have hcv5 := HSTR.out _ _ _ _ hR5
  have hS_ := below_then hH hH.size hb5
  clear hR5 hb5
  refine hK.out _ _ hS_ (fun hH1 => ?_)
  clear hS_
  clear hK K
  refine norm_ (a' := ?_) ?_ ?_
  rotate_left
  · show Act.put _ (some 22) _ = _
    simp only [Act.put, List.setIfInBounds_toArray, List.set_cons_zero, List.set_cons_succ, i64_w, i32_w]
    rfl
  refine one_ (i := 5) (N := some 23) #[true, true, true, true, true, true, true, true, true, true, true, false] rfl rfl (by kernel_rfl) (by decide) (fun K hK => ?_)
  refine value_ (w1 := w5) (v := .string (strOfNums D)) (by rfl) rfl ?_ ?_
  · go_simp
    try rfl
  clear hcv5
  have hS_ := hH1
  refine hK.out _ _ hS_ (fun hH2 => ?_)
  clear hS_
  clear hK K
  refine norm_ (a' := ?_) ?_ ?_
  rotate_left
  · show Act.put _ (some 23) _ = _
    simp only [Act.put, List.setIfInBounds_toArray, List.set_cons_zero, List.set_cons_succ, i64_w, i32_w]
    rfl
  refine pure_ (i := 11) (N := some 29) (v := ?_) (a' := ?_) #[true, true, true, true, true, true, true, true, true, true, true, true] rfl rfl (by kernel_rfl) (fun _ _ _ h => h) (Or.inl ⟨by rfl, ?_⟩) ?_ ?_
  rotate_left
  · intro w'
    go_simp
    with_reducible rfl
  rotate_left
  · simp only [Act.put, List.setIfInBounds_toArray, List.set_cons_zero, List.set_cons_succ, i64_w, i32_w]
    rfl
  refine done_ (by kernel_rfl) ?_
  have HW5 := Aside0.mk (HBWX.out _ hH2)
  have HZ5 := Aside0.mk ((hH2.block _ (blk_lt HZ2.out)).trans HZ2.out)
  have hx0 := pw_cell_below HW5.out HX.out.1
  have hx1 := pw_cell_below HW5.out HX.out.2
  clear hH hH1 hH2 hA1 hMw hsub hMc hMN hNc hNM
  have hN1 := HT.out.1
  have hN0 := HT.out.2.1
  go_upto_region 11 with fail
  clear hx0 hx1 hN1 hN0
  have t0 := HT.out.2.2.1
  have t1 := HT.out.2.2.2.1
  have t2 := HT.out.2.2.2.2.1
  have t3 := HT.out.2.2.2.2.2.1
  have t4 := HT.out.2.2.2.2.2.2.1
  have hM2 := HT.out.2.2.2.2.2.2.2
  go_upto_region 12 with fail
  clear t0 t1 t2 t3 t4 p20 p65 hM2
  go_upto_region 13 with fail
  rw [HA2.out]
  obtain ⟨x0, hx0⟩ : ∃ x, (w5.alloc (.cells #[.slice A2 cs.length (c - 2), .int .i64 0, .int .i64 0] 106)).alloc (.cells #[.int .u8 0, .int .u8 0, .int .u32 0, .int .u32 0, .int .u16 0, .int .u16 0, .slice none 0 0] 38) = x := ⟨_, rfl⟩
  rw [hx0]
  have HG0 : Aside0 (GetS w w.heap.size w5.heap.size (w5.heap.size + 1) A2 (c - 2) cs 0 #[.int .u8 0, .int .u8 0, .int .u32 0, .int .u32 0, .int .u16 0, .int .u16 0, .slice none 0 0] x0) := ⟨by
    have h1 := below_alloc (Below.refl w5.heap.size w5) (.cells #[.slice A2 cs.length (c - 2), .int .i64 0, .int .i64 0] 106)
    have h2 := below_alloc (Below.refl (w5.alloc (.cells #[.slice A2 cs.length (c - 2), .int .i64 0, .int .i64 0] 106)).heap.size (w5.alloc (.cells #[.slice A2 cs.length (c - 2), .int .i64 0, .int .i64 0] 106))) (.cells #[.int .u8 0, .int .u8 0, .int .u32 0, .int .u32 0, .int .u16 0, .int .u16 0, .slice none 0 0] 38)
    have h3 := heap_alloc_new w5 (.cells #[.slice A2 cs.length (c - 2), .int .i64 0, .int .i64 0] 106)
    have h4 := heap_alloc_new (w5.alloc (.cells #[.slice A2 cs.length (c - 2), .int .i64 0, .int .i64 0] 106)) (.cells #[.int .u8 0, .int .u8 0, .int .u32 0, .int .u32 0, .int .u16 0, .int .u16 0, .slice none 0 0] 38)
    rw [hx0] at h2 h4
    have hs : (w5.alloc (.cells #[.slice A2 cs.length (c - 2), .int .i64 0, .int .i64 0] 106)).heap.size = w5.heap.size + 1 := by simp
    rw [hs] at h4
    have h5 := HW5.out.size
    have h6 := blk_lt HZ5.out
    have h7 := (h1.block _ h6).trans HZ5.out
    exact ⟨(h2.block _ (blk_lt h7)).trans h7, ⟨(h2.block _ (blk_lt h3)).trans h3⟩, h4, below_then (below_then HW5.out h5 h1) (Nat.le_trans h5 h1.size) h2, h5, by omega, Nat.le_refl _, by omega, by omega, by omega⟩⟩
  clear hx0
  obtain ⟨g, hg⟩ : ∃ g, w5.heap.size = g := ⟨_, rfl⟩
  rw [hg] at HG0 ⊢
  obtain ⟨z7, hz7⟩ : ∃ z7, g + 1 = z7 := ⟨_, rfl⟩
  rw [hz7] at HG0 ⊢
  obtain ⟨z2, hz2⟩ : ∃ z2, w.heap.size = z2 := ⟨_, rfl⟩
  have HZ20 := Aside0.mk hz2
  have HG0 : Aside0 (GetS w z2 g z7 A2 (c - 2) cs 0 #[.int .u8 0, .int .u8 0, .int .u32 0, .int .u32 0, .int .u16 0, .int .u16 0, .slice none 0 0] x0) := ⟨by have h := HG0.out; rw [hz2] at h; exact h⟩
  rw [hz2]
  clear hg hz7 hz2
  have HFX0 := Aside0.mk (cfix_ok (m := 1) (z := 1) HG0.out.cb HCC.out HCL.out HG0.out.bl HG0.out.ng rfl (by have := HLC.out; omega) (by have := HLC.out; omega) (by decide) (by decide) HCB.out)
  rw [Hkd.out] at HFX0
  go_wp2_with fail
  refine HFX0.out.mono ?_
  rintro e0 v0 ⟨hq0, rfl⟩
  have hg0 := HG0.out.fix hq0
  have hfz := blk_frozen hg0.b7 0
  have hzc : v0.cell? ⟨z7, 0, none⟩ = some (.int .u8 0) := (blk_cell hg0.b7 0).trans rfl
  have HQ0 := Aside0.mk hg0
  clear hq0 hg0
  go_upto_region 14 with fail
  have HG1 : Aside0 (GetS w z2 g z7 A2 (c - 2) cs 1 #[.int .u8 kd, .int .u8 0, .int .u32 0, .int .u32 0, .int .u16 0, .int .u16 0, .slice none 0 0] (v0.setCell ⟨z7, 0, none⟩ (.int .u8 kd))) := ⟨HQ0.out.set 0 (.int .u8 kd)⟩
  obtain ⟨x1, hx1⟩ : ∃ x, v0.setCell ⟨z7, 0, none⟩ (.int .u8 kd) = x := ⟨_, rfl⟩
  rw [hx1] at HG1 ⊢
  clear hx1 hfz hzc
  have HFX1 := Aside0.mk (cfix_ok (m := 1) (z := 2) HG1.out.cb HCC.out HCL.out HG1.out.bl HG1.out.ng rfl (by have := HLC.out; omega) (by have := HLC.out; omega) (by decide) (by decide) HCB.out)
  rw [Hver.out] at HFX1
  go_wp2_with fail
  refine HFX1.out.mono ?_
  rintro e1 v1 ⟨hq1, rfl⟩
  have hg1 := HG1.out.fix hq1
  have hfz := blk_frozen hg1.b7 1
  have hzc : v1.cell? ⟨z7, 1, none⟩ = some (.int .u8 0) := (blk_cell hg1.b7 1).trans rfl
  have HQ1 := Aside0.mk hg1
  clear hq1 hg1
  go_upto_region 15 with fail
  have HG2 : Aside0 (GetS w z2 g z7 A2 (c - 2) cs 2 #[.int .u8 kd, .int .u8 ver, .int .u32 0, .int .u32 0, .int .u16 0, .int .u16 0, .slice none 0 0] (v1.setCell ⟨z7, 1, none⟩ (.int .u8 ver))) := ⟨HQ1.out.set 1 (.int .u8 ver)⟩
  obtain ⟨x2, hx2⟩ : ∃ x, v1.setCell ⟨z7, 1, none⟩ (.int .u8 ver) = x := ⟨_, rfl⟩
  rw [hx2] at HG2 ⊢
  clear hx2 hfz hzc
  have HFX2 := Aside0.mk (cfix_ok (m := 4) (z := 6) HG2.out.cb HCC.out HCL.out HG2.out.bl HG2.out.ng rfl (by have := HLC.out; omega) (by have := HLC.out; omega) (by decide) (by decide) HCB.out)
  rw [Hep.out] at HFX2
  go_wp2_with fail
  refine HFX2.out.mono ?_
  rintro e2 v2 ⟨hq2, rfl⟩
  have hg2 := HG2.out.fix hq2
  have hfz := blk_frozen hg2.b7 2
  have hzc : v2.cell? ⟨z7, 2, none⟩ = some (.int .u32 0) := (blk_cell hg2.b7 2).trans rfl
  have HQ2 := Aside0.mk hg2
  clear hq2 hg2
  go_upto_region 16 with fail
  have HG3 : Aside0 (GetS w z2 g z7 A2 (c - 2) cs 6 #[.int .u8 kd, .int .u8 ver, .int .u32 ep, .int .u32 0, .int .u16 0, .int .u16 0, .slice none 0 0] (v2.setCell ⟨z7, 2, none⟩ (.int .u32 ep))) := ⟨HQ2.out.set 2 (.int .u32 ep)⟩
  obtain ⟨x3, hx3⟩ : ∃ x, v2.setCell ⟨z7, 2, none⟩ (.int .u32 ep) = x := ⟨_, rfl⟩
  rw [hx3] at HG3 ⊢
  clear hx3 hfz hzc
  have HFX3 := Aside0.mk (cfix_ok (m := 4) (z := 10) HG3.out.cb HCC.out HCL.out HG3.out.bl HG3.out.ng rfl (by have := HLC.out; omega) (by have := HLC.out; omega) (by decide) (by decide) HCB.out)
  rw [Hid.out] at HFX3
  go_wp2_with fail
  refine HFX3.out.mono ?_
  rintro e3 v3 ⟨hq3, rfl⟩
  have hg3 := HG3.out.fix hq3
  have hfz := blk_frozen hg3.b7 3
  have hzc : v3.cell? ⟨z7, 3, none⟩ = some (.int .u32 0) := (blk_cell hg3.b7 3).trans rfl
  have HQ3 := Aside0.mk hg3
  clear hq3 hg3
  go_upto_region 17 with fail
  have HG4 : Aside0 (GetS w z2 g z7 A2 (c - 2) cs 10 #[.int .u8 kd, .int .u8 ver, .int .u32 ep, .int .u32 id, .int .u16 0, .int .u16 0, .slice none 0 0] (v3.setCell ⟨z7, 3, none⟩ (.int .u32 id))) := ⟨HQ3.out.set 3 (.int .u32 id)⟩
  obtain ⟨x4, hx4⟩ : ∃ x, v3.setCell ⟨z7, 3, none⟩ (.int .u32 id) = x := ⟨_, rfl⟩
  rw [hx4] at HG4 ⊢
  clear hx4 hfz hzc
  have HFX4 := Aside0.mk (cfix_ok (m := 2) (z := 12) HG4.out.cb HCC.out HCL.out HG4.out.bl HG4.out.ng rfl (by have := HLC.out; omega) (by have := HLC.out; omega) (by decide) (by decide) HCB.out)
  rw [Hix.out] at HFX4
  go_wp2_with fail
  refine HFX4.out.mono ?_
  rintro e4 v4 ⟨hq4, rfl⟩
  have hg4 := HG4.out.fix hq4
  have hfz := blk_frozen hg4.b7 4
  have hzc : v4.cell? ⟨z7, 4, none⟩ = some (.int .u16 0) := (blk_cell hg4.b7 4).trans rfl
  have HQ4 := Aside0.mk hg4
  clear hq4 hg4
  go_upto_region 18 with fail
  have HG5 : Aside0 (GetS w z2 g z7 A2 (c - 2) cs 12 #[.int .u8 kd, .int .u8 ver, .int .u32 ep, .int .u32 id, .int .u16 ix, .int .u16 0, .slice none 0 0] (v4.setCell ⟨z7, 4, none⟩ (.int .u16 ix))) := ⟨HQ4.out.set 4 (.int .u16 ix)⟩
  obtain ⟨x5, hx5⟩ : ∃ x, v4.setCell ⟨z7, 4, none⟩ (.int .u16 ix) = x := ⟨_, rfl⟩
  rw [hx5] at HG5 ⊢
  clear hx5 hfz hzc
  have HFX5 := Aside0.mk (cfix_ok (m := 2) (z := 14) HG5.out.cb HCC.out HCL.out HG5.out.bl HG5.out.ng rfl (by have := HLC.out; omega) (by have := HLC.out; omega) (by decide) (by decide) HCB.out)
  rw [Hcnt.out] at HFX5
  go_wp2_with fail
  refine HFX5.out.mono ?_
  rintro e5 v5 ⟨hq5, rfl⟩
  have hg5 := HG5.out.fix hq5
  have hfz := blk_frozen hg5.b7 5
  have hzc : v5.cell? ⟨z7, 5, none⟩ = some (.int .u16 0) := (blk_cell hg5.b7 5).trans rfl
  have HQ5 := Aside0.mk hg5
  clear hq5 hg5
  go_upto_region 19 with fail
  have HG6 : Aside0 (GetS w z2 g z7 A2 (c - 2) cs 14 #[.int .u8 kd, .int .u8 ver, .int .u32 ep, .int .u32 id, .int .u16 ix, .int .u16 cnt, .slice none 0 0] (v5.setCell ⟨z7, 5, none⟩ (.int .u16 cnt))) := ⟨HQ5.out.set 5 (.int .u16 cnt)⟩
  obtain ⟨x6, hx6⟩ : ∃ x, v5.setCell ⟨z7, 5, none⟩ (.int .u16 cnt) = x := ⟨_, rfl⟩
  rw [hx6] at HG6 ⊢
  clear hx6 hfz hzc
  have HLF := Aside0.mk (Left_ok (at_ := 14) HG6.out.cb (by have := HLC.out; omega) (by have := HLC.out; omega))
  rw [HBD.out.1] at HLF
  go_wp2_with fail
  refine HLF.out.mono ?_
  rintro e19 v19 ⟨rfl, hb19⟩
  have HG7 := Aside0.mk (HG6.out.below hb19)
  have htk := ctake_ok (at_ := 14) (m := body.length) (z := cs.length) HG7.out.cb HCC.out HCL.out HG7.out.bl HG7.out.ng HBD.out.2.1 (Nat.le_refl _) (by have := HLC.out; omega)
  rw [HBD.out.2.2.1] at htk
  have HTK := Aside0.mk htk
  clear hb19 htk
  go_wp2_with fail
  refine HTK.out.mono ?_
  rintro e20 v20 ⟨hq20, v, rfl, hR20⟩
  have hg20 := HG7.out.fix hq20
  have hfz := blk_frozen hg20.b7 6
  obtain ⟨A9, c9, hv9, hl9, hC9⟩ := Kd.R_reads hR20
  have hR20' := Kd.R_bound hR20
  subst hv9
  have HR20 := Aside0.mk hR20'
  have HC9 := Aside0.mk (And.intro hl9 hC9)
  have HQ20 := Aside0.mk hg20
  clear hq20 hg20 hR20 hR20' hC9 hl9
  have hzc : v20.cell? ⟨z7, 6, none⟩ = some (.slice none 0 0) := (blk_cell HQ20.out.b7 6).trans rfl
  go_upto_region 20 with fail
  have hz7 := blk_lt HG7.out.b7
  have hR9 := Kd.R_step (w1 := v20.setCell ⟨z7, 6, none⟩ (.slice A9 body.length c9)) HR20.out (fun q hq hlt => Below.heap_setCell _ _ _ _ (fun e => by have h1 := hq.2.1; have h2 := blk_lt HG7.out.b7; have h3 : q = z7 := e; rw [h3] at h1; exact absurd h2 (Nat.not_lt.2 h1)))
  have HG9 : Aside0 (GetS w z2 g z7 A2 (c - 2) cs cs.length #[.int .u8 kd, .int .u8 ver, .int .u32 ep, .int .u32 id, .int .u16 ix, .int .u16 cnt, .slice A9 body.length c9] (v20.setCell ⟨z7, 6, none⟩ (.slice A9 body.length c9))) := ⟨HQ20.out.set 6 (.slice A9 body.length c9)⟩
  obtain ⟨x9, hx9⟩ : ∃ x, v20.setCell ⟨z7, 6, none⟩ (.slice A9 body.length c9) = x := ⟨_, rfl⟩
  rw [hx9] at HG9 hR9 ⊢
  have HR9 := Aside0.mk hR9
  clear hx9 hfz hzc hR9 hz7
  obtain ⟨b0, b1, b2, b3, b4, b5, b6⟩ := box7c HG9.out.b7
  have HRT := Aside0.mk (annuletref18_Right.calls 3 kd ver ep id ix cnt A9 c9 body 0 x9 (Kd.R_reads' HR9.out).2.2 HC9.out.1 (right_ok kd ver ep id ix cnt body wk.1 wk.2 wx.1 wx.2 HBD.out.2.2.2))
  go_wp2_with fail
  refine HRT.out.mono ?_
  rintro e21 v21 ⟨rfl, hb21⟩
  have HG21 := Aside0.mk (HG9.out.below hb21)
  have HR21 := Aside0.mk (Kd.R_below HR9.out hb21)
  clear hb21 b0 b1 b2 b3 b4 b5 b6
  obtain ⟨b0, b1, b2, b3, b4, b5, b6⟩ := box7c HG21.out.b7
  go_wp2_with (refine store_box (.store 38 (.tmp 2) (.tmp 84)) 38 _ _ z2 0 _ #[.int .u8 kd, .int .u8 ver, .int .u32 ep, .int .u32 id, .int .u16 ix, .int .u16 cnt, .slice A9 body.length c9] 38 (.agg #[.int .u8 kd, .int .u8 ver, .int .u32 ep, .int .u32 id, .int .u16 ix, .int .u16 cnt, .slice A9 body.length c9]) [.int .u8 kd, .int .u8 ver, .int .u32 ep, .int .u32 id, .int .u16 ix, .int .u16 cnt, .slice A9 body.length c9] rfl rfl rfl rfl rfl rfl HG21.out.b2 rfl (by kernel_rfl) (by simp) (by simp [Value.oneCell']) (by simp) ?_; intro w22 e22 hs22; have HE22 := Aside0.mk e22; have HS22 := Aside0.mk hs22; clear e22 hs22)
  obtain ⟨r0, r1, r2, r3, r4, r5, r6⟩ := box7c HE22.out
  refine bodyPost_ret (v := .tuple #[.agg #[.int .u8 kd, .int .u8 ver, .int .u32 ep, .int .u32 id, .int .u16 ix, .int .u16 cnt, .slice A9 body.length c9], .int .i64 0]) ?hres rfl ?_
  case hres =>
    simp only [results, Try.f21]
    go_simp
  refine ⟨?_, A9, c9, rfl, HC9.out.1, ?_⟩
  · rw [HZ20.out]
    exact HS22.out.on (Nat.le_refl _) (by have h := HG21.out.bl; rw [HZ20.out] at h; exact h)
  · exact Kd.R_lower (Kd.R_mono (Kd.R_step (w1 := w22) HR21.out (fun q hq hlt => HS22.out.far q (fun e => by have h1 := hq.2.1; have h2 := blk_lt HG7.out.b2; rw [e] at h1; exact absurd h2 (Nat.not_lt.2 h1)))) (fun _ _ => trivial)) HG7.out.bl.size
#print axioms get_ok
end Go.Proofs.Ytaeelmkpjgmdlaa.H
