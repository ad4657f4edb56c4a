/- Mine. Chapters 19 and 23, by hand: the reference's Split. -/
import Derived.Test.YtaeelmkpjgmdlaaHWB
import Derived.Deep.DeepCutAuto
namespace Go.Proofs.Ytaeelmkpjgmdlaa.H
open Go Go.Proofs Go.RowKit Go.Lib Go.Proofs.Ytaeelmkpjgmdlaa.P Go.Proofs.YtaeelmkpjgmdlaaW.PrintWords Go.Proofs.YtaeelmkpjgmdlaaW.PrintLast Go.Proofs.YtaeelmkpjgmdlaaW.PrintMore Go.Proofs.YtaeelmkpjgmdlaaW.PrintFlat
set_option linter.unusedVariables false
set_option linter.unusedSimpArgs false
section
variable {P : Program} {ops : Array Oper} {rest : List Oper} {o : Oper} {a : Act} {Q : Exit → Act → World → Prop} {W : World} {Kc : Act → World → Prop}
theorem store_step (t : TypeId) (p x : Operand) (g o' : Nat) (cur cur' : Array Value) (e : TypeId) (u : Value) (seg : List Value) (hw : Region.wanted o (yielded ops a.tmps) = true) (hop : o.op = .store t p x) (haddr : a.eval p = .pointer (some ⟨g, o', none⟩)) (hx : a.eval x = u)
    (hb : W.heap[g]? = some (.cells cur e (0, 0))) (hu : u.cells.toList = seg) (ht : (P.info? t).map (·.size) = some seg.length) (hfit : o' + seg.length ≤ cur.size) (h1 : ∀ q ∈ seg, q.oneCell' = true)
    (hc : (cur.toList.take o' ++ seg ++ cur.toList.drop (o' + seg.length)).toArray = cur')
    (h : ∀ w1, w1.heap[g]? = some (.cells cur' e (0, 0)) → Sto W w1 g → Kc (a.put o.dst undef) w1) : if Region.wanted o (yielded ops a.tmps) = true then Oper.wp P o a W Kc Q else Kc (a.put o.dst undef) W := by
  obtain ⟨w1, hr, h2, h3⟩ := store_run (P := P) hb hu ht hfit h1 hc
  rw [if_pos hw]
  unfold Oper.wp
  rw [show (execOp a.eval o).run P W = .ok .skip w1 from by simp [execOp, hop, haddr, hx, hr, Result.andThen]]
  exact h w1 h2 h3
end
theorem i36 : (Try.prog.info? 36).map (fun i => (i.zero, i.size, i.bytes)) = some (some (.slice none 0 0), 1, 24) := by kernel_rfl
abbrev kB : Kd (List Int) := Kd.slice 5 (Kd.int .u8)
def chunk (body : List Int) (room k : Nat) : List Int := (body.take (min (k * room + room) body.length)).drop (k * room)
theorem split_wF {k room F : Nat} (hF : k * room = F) (h : F ≤ 1500) : wrap64 ((k : Int) * (room : Int)) = (F : Int) := by
  have h1 : ((k : Int) * (room : Int)) = (F : Int) := by rw [← hF]; simp
  rw [h1]; unfold wrap64; omega
theorem split_wG {F room G : Nat} (hG : F + room = G) (h : F ≤ 1500) (h2 : room ≤ 65487) : wrap64 ((F : Int) + (room : Int)) = (G : Int) := by
  unfold wrap64; omega
theorem split_w16 {k : Nat} (h : k ≤ 200) : IntKind.u16.wrap (k : Int) = (k : Int) := by
  have h1 := IntKind.wrap_u16 (k : Int)
  rw [h1]; omega
theorem split_mid {w : World} {A A' : Option Addr} {c F T m : Nat} {body : List Int} (hr : Kd.C (Kd.int .u8) w A body.length body) (hc : body.length ≤ c) (h1 : F ≤ T) (h2 : T ≤ body.length) (hm : T - F = m) (hA' : (if c = F then A else Option.map (fun x => x.add F) A) = A') : Kd.C (Kd.int .u8) w A' m ((body.take T).drop F) ∧ ((body.take T).drop F).length = m ∧ m ≤ c - F := by
  have hl : ((body.take T).drop F).length = m := by rw [List.length_drop, List.length_take]; omega
  have h := Kd.C_mid hr h1 h2 hc
  rw [hl, show (Kd.int .u8).sz = 1 from rfl, Nat.mul_one, hA'] at h
  exact ⟨h, hl, by omega⟩
theorem split_w1 {k : Nat} (h : k ≤ 200) : wrap64 ((k : Int) + 1) = ((k + 1 : Nat) : Int) := by unfold wrap64; omega
theorem split_T {F room G T n : Nat} (hG : F + room = G) (hT : min G n = T) (hF : F ≤ n) : F ≤ T ∧ T ≤ n ∧ (n < G → T = n) ∧ (¬ n < G → T = G) := by omega
set_option maxHeartbeats 8000000 in
set_option maxRecDepth 100000 in
theorem split_ok {A : Option Addr} {c : Nat} {body : List Int} {W : World} (hr : Kd.C (Kd.int .u8) W A body.length body) (hc : body.length ≤ c) (h15 : body.length ≤ 1500) (mtu kd ver ep id ix0 cnt0 : Int) (hk1 : 1 ≤ kd) (hk2 : kd ≤ 2) (room many : Nat) (hroom : annuletref19_Room.f mtu = some (room : Int)) (hrm : room ≤ 65487) {kC : Nat} (hcount : annuletref19_Count.f kC mtu (body.length : Int) = some ((many : Int), 0)) (hmany : many ≤ 200) (hmr : ∀ k, k < many → k * room ≤ body.length)
    {kS : Nat} (dg : Nat → List Int) (hdg : ∀ k, k < many → annuletref18_Bytes.f kS kd ver ep id (k : Int) (many : Int) (chunk body room k) = some (dg k)) :
    Calls Try.prog 19 #[.int .i64 mtu, .agg #[.int .u8 kd, .int .u8 ver, .int .u32 ep, .int .u32 id, .int .u16 ix0, .int .u16 cnt0, .slice A body.length c]] W fun e w' => Below W.heap.size W w' ∧ ∃ v, e = .returned (.tuple #[v, .int .i64 0]) ∧ Kd.R kB 36 w' W.heap.size (fun _ => True) v ((List.range many).map dg) := by
  obtain ⟨V, hV⟩ : ∃ V, (W.alloc (.cells #[.int .u8 kd, .int .u8 ver, .int .u32 ep, .int .u32 id, .int .u16 ix0, .int .u16 cnt0, .slice A body.length c] 38)) = V := ⟨_, rfl⟩
  have hbV : Below W.heap.size W V := by rw [← hV]; exact below_alloc (Below.refl _ _) _
  have hsV : V.heap.size = W.heap.size + 1 := by rw [← hV]; simp
  have hx3 : V.heap[W.heap.size]? = some (.cells #[.int .u8 kd, .int .u8 ver, .int .u32 ep, .int .u32 id, .int .u16 ix0, .int .u16 cnt0, .slice A body.length c] 38 (0, 0)) := by rw [← hV]; exact heap_alloc_new W _
  obtain ⟨v0, v1, v2, v3, v4, v5, v6⟩ := box7c hx3
  have HCO : Aside0 (Calls Try.prog 45 #[.int .i64 mtu, .int .i64 (body.length : Int)] V fun e w' => e = .returned (.tuple #[.int .i64 (many : Int), .int .i64 0]) ∧ Below V.heap.size V w') := ⟨(annuletref19_Count.calls kC mtu (body.length : Int) (many : Int) 0 V hcount).mono (fun e w' h => ⟨h.1, by obtain ⟨m, hm⟩ := h.2; rw [hm]; exact pw_below_drewN (Below.refl _ _) _⟩)⟩
  have HRO : Aside0 (∀ U, Calls Try.prog 46 #[.int .i64 mtu] U fun e w' => e = .returned (.int .i64 (room : Int)) ∧ Below U.heap.size U w') := ⟨fun U => (annuletref19_Room.calls mtu (room : Int) U hroom).mono (fun e w' h => ⟨h.1, by obtain ⟨m, hm⟩ := h.2; rw [hm]; exact pw_below_drewN (Below.refl _ _) _⟩)⟩
  have HR := Aside0.mk hr
  have HC := Aside0.mk hc
  have HX3 := Aside0.mk hx3
  have HBV := Aside0.mk hbV
  have HSV := Aside0.mk hsV
  have HDG := Aside0.mk hdg
  have HMR := Aside0.mk hmr
  have HH := Aside0.mk (And.intro h15 (And.intro hmany hrm))
  have p1 : ¬ (kd < 1) := by omega
  have p2 : ¬ (kd > 2) := by omega
  clear hr hc hx3 hbV hsV hdg hmr h15 hmany hrm hcount hroom hk1 hk2
  go_enter Try.func19, Try.ntmps19
  go_wp2_with fail
  refine HCO.out.mono ?_
  rintro e1 w1 ⟨rfl, hb1⟩
  have HB1 := Aside0.mk hb1
  clear hb1 v0 v1 v2 v3 v4 v5 v6
  have hx := (HB1.out.block _ (blk_lt HX3.out)).trans HX3.out
  obtain ⟨v0, v1, v2, v3, v4, v5, v6⟩ := box7c hx
  clear hx
  go_wp2_with fail
  go_loopg [8, 9] many (fun gg s8 s9 wr => ∃ k : Nat, k ≤ many ∧ many - k ≤ gg ∧ s9 = .int .i64 k ∧ Aside0 (Below V.heap.size V wr) ∧ Aside0 (Kd.R kB 36 wr V.heap.size (fun _ => True) s8 ((List.range k).map dg)))
  case atStart => exact ⟨0, Nat.zero_le _, by omega, rfl, HB1, ⟨Kd.R_nil _ _ _ _ _⟩⟩
  case round =>
    obtain ⟨k, hk, hgg, rfl, HBk, HRk⟩ := hrel
    by_cases hlt : k < many
    · obtain ⟨F, hF⟩ : ∃ F, k * room = F := ⟨_, rfl⟩
      have hFl : F ≤ body.length := by rw [← hF]; exact HMR.out k hlt
      have HFH : Aside0 (F ≤ 1500 ∧ room ≤ 65487 ∧ k ≤ 200) := ⟨by have := HH.out; exact ⟨by omega, by omega, by omega⟩⟩
      have HDK := Aside0.mk (HDG.out k hlt)
      have hwF : wrap64 ((k : Int) * (room : Int)) = (F : Int) := split_wF hF HFH.out.1
      obtain ⟨G, hG⟩ : ∃ G, F + room = G := ⟨_, rfl⟩
      have hwG : wrap64 ((F : Int) + (room : Int)) = (G : Int) := split_wG hG HFH.out.1 HFH.out.2.1
      obtain ⟨T, hT⟩ : ∃ T, min G body.length = T := ⟨_, rfl⟩
      have HCH : Aside0 (chunk body room k = (body.take T).drop F) := ⟨by unfold chunk; rw [hF, hG, hT]⟩
      have HFT : Aside0 (F ≤ T ∧ T ≤ body.length ∧ (body.length < G → T = body.length) ∧ (¬ body.length < G → T = G)) := ⟨split_T hG hT hFl⟩
      have HFF := Aside0.mk (And.intro hF (And.intro hG hT))
      have p3 : ((k : Int) < (many : Int)) = True := eq_true (by omega)
      have HRO1 := HRO.out wr
      clear hF hG hT hFl v0 v1 v2 v3 v4 v5 v6
      go_wp2_with fail
      refine HRO1.mono ?_
      rintro e2 w2 ⟨rfl, hb2⟩
      have HB2 := Aside0.mk (below_then HBk.out HBk.out.size hb2)
      have HR2 := Aside0.mk (Kd.R_below HRk.out hb2)
      have HRO2 := HRO.out w2
      clear hb2 HRO1
      go_wp2_with fail
      refine HRO2.mono ?_
      rintro e3 w3 ⟨rfl, hb3⟩
      have HB3 := Aside0.mk (below_then HB2.out HB2.out.size hb3)
      have HR3 := Aside0.mk (Kd.R_below HR2.out hb3)
      clear hb3 HRO2
      have HX := Aside0.mk ((HB3.out.block _ (blk_lt HX3.out)).trans HX3.out)
      obtain ⟨v0, v1, v2, v3, v4, v5, v6⟩ := box7c HX.out
      go_upto_if 49 with fail
      rw [hwG]
      go_cut [11] (fun s11 wc => s11 = .int .i64 (T : Int) ∧ Aside0 (wc = w3))
      case first =>
        by_cases hlG : body.length < G
        · have p4 : ((body.length : Int) < (G : Int)) = True := eq_true (by omega)
          have p5 := eq_true hlG
          have hTe := HFT.out.2.2.1 hlG
          go_wp2_with fail
          go_meet
          exact ⟨by rw [hTe], ⟨rfl⟩⟩
        · have p4 : ((body.length : Int) < (G : Int)) = False := eq_false (by omega)
          have p5 := eq_false hlG
          have hTe := HFT.out.2.2.2 hlG
          go_wp2_with fail
          go_meet
          exact ⟨by rw [hTe], ⟨rfl⟩⟩
      case rest =>
        obtain ⟨rfl, HWC⟩ := hcut
        obtain rfl := HWC.out
        have hFT := HFT.out.1
        have hTc := Nat.le_trans HFT.out.2.1 HC.out
        obtain ⟨m, hm⟩ : ∃ m, T - F = m := ⟨_, rfl⟩
        obtain ⟨A', hA'⟩ : ∃ A', (if c = F then A else Option.map (fun x => x.add F) A) = A' := ⟨_, rfl⟩
        have HMID := Aside0.mk (split_mid HR.out HC.out hFT HFT.out.2.1 hm hA')
        obtain ⟨X, hX⟩ : ∃ X, wc.drew = X := ⟨_, rfl⟩
        have hbX : Below wc.heap.size wc X := by rw [← hX]; exact (Below.refl _ _).drew
        have hs0 : wc.drew.heap[W.heap.size]? = some (.cells #[.int .u8 kd, .int .u8 ver, .int .u32 ep, .int .u32 id, .int .u16 ix0, .int .u16 cnt0, .slice A body.length c] 38 (0, 0)) := HX.out
        have HBX := Aside0.mk (below_then HB3.out HB3.out.size hbX)
        have HRX := Aside0.mk (Kd.R_below HR3.out hbX)
        have hwk : IntKind.u16.wrap (k : Int) = (k : Int) := split_w16 HFH.out.2.2
        have hwm : IntKind.u16.wrap (many : Int) = (many : Int) := split_w16 HH.out.2.1
        clear hbX hwF hwG v0 v1 v2 v3 v4 v5 v6 HB3 HR3 HB2 HR2 HWC p3
        go_wp2_with fail
        refine start_ (n := 20) (S := fun V => V.heap[W.heap.size]? = some (.cells #[.int .u8 kd, .int .u8 ver, .int .u32 ep, .int .u32 id, .int .u16 ix0, .int .u16 cnt0, .slice A body.length c] 38 (0, 0))) (ds := [19]) #[false, false, false, false, false, false, false, false, false, false, false, false, false, false, false, false, false, false, false, false] (by kernel_rfl) rfl rfl hs0 (fun hH => ?_)
        rw [hX] at hH ⊢
        clear hX hs0
        refine pure_ (i := 0) (N := some 53) (v := ?_) (a' := ?_) #[true, false, false, false, false, false, false, false, false, false, false, false, false, false, false, false, false, false, false, false] rfl rfl (by kernel_rfl) (fun _ _ _ h => h) (Or.inl ⟨by rfl, ?_⟩) ?_ ?_
        rotate_left
        · intro w'
          go_simp
          with_reducible rfl
        rotate_left
        · simp only [Act.put, List.setIfInBounds_toArray, List.set_cons_zero, List.set_cons_succ, i64_w, i32_w]
          rfl
        refine take_ (i := 1) (N := some 54) (v := ?_) (a' := ?_) #[true, true, false, false, false, false, false, false, false, false, false, false, false, false, false, false, false, false, false, false] rfl rfl (by kernel_rfl) (fun _ _ _ h => h) (Or.inl ⟨by rfl, ?_⟩) hH ?_ ?_
        rotate_left
        · rintro w' hs_
          obtain ⟨t0, t1, t2, t3, t4, t5, t6⟩ := box7c hs_
          go_simp
          with_reducible rfl
        rotate_left
        · simp only [Act.put, List.setIfInBounds_toArray, List.set_cons_zero, List.set_cons_succ, i64_w, i32_w]
          rfl
        refine pure_ (i := 2) (N := some 55) (v := ?_) (a' := ?_) #[true, true, true, false, false, false, false, false, false, false, false, false, false, false, false, false, false, false, false, false] rfl rfl (by kernel_rfl) (fun _ _ _ h => h) (Or.inl ⟨by rfl, ?_⟩) ?_ ?_
        rotate_left
        · intro w'
          go_simp
          with_reducible rfl
        rotate_left
        · simp only [Act.put, List.setIfInBounds_toArray, List.set_cons_zero, List.set_cons_succ, i64_w, i32_w]
          rfl
        refine take_ (i := 3) (N := some 56) (v := ?_) (a' := ?_) #[true, true, true, true, false, false, false, false, false, false, false, false, false, false, false, false, false, false, false, false] rfl rfl (by kernel_rfl) (fun _ _ _ h => h) (Or.inl ⟨by rfl, ?_⟩) hH ?_ ?_
        rotate_left
        · rintro w' hs_
          obtain ⟨t0, t1, t2, t3, t4, t5, t6⟩ := box7c hs_
          go_simp
          with_reducible rfl
        rotate_left
        · simp only [Act.put, List.setIfInBounds_toArray, List.set_cons_zero, List.set_cons_succ, i64_w, i32_w]
          rfl
        refine pure_ (i := 4) (N := some 57) (v := ?_) (a' := ?_) #[true, true, true, true, true, false, false, false, false, false, false, false, false, false, false, false, false, false, false, false] rfl rfl (by kernel_rfl) (fun _ _ _ h => h) (Or.inl ⟨by rfl, ?_⟩) ?_ ?_
        rotate_left
        · intro w'
          go_simp
          with_reducible rfl
        rotate_left
        · simp only [Act.put, List.setIfInBounds_toArray, List.set_cons_zero, List.set_cons_succ, i64_w, i32_w]
          rfl
        refine take_ (i := 5) (N := some 58) (v := ?_) (a' := ?_) #[true, true, true, true, true, true, false, false, false, false, false, false, false, false, false, false, false, false, false, false] rfl rfl (by kernel_rfl) (fun _ _ _ h => h) (Or.inl ⟨by rfl, ?_⟩) hH ?_ ?_
        rotate_left
        · rintro w' hs_
          obtain ⟨t0, t1, t2, t3, t4, t5, t6⟩ := box7c hs_
          go_simp
          with_reducible rfl
        rotate_left
        · simp only [Act.put, List.setIfInBounds_toArray, List.set_cons_zero, List.set_cons_succ, i64_w, i32_w]
          rfl
        refine pure_ (i := 6) (N := some 59) (v := ?_) (a' := ?_) #[true, true, true, true, true, true, true, false, false, false, false, false, false, false, false, false, false, false, false, false] rfl rfl (by kernel_rfl) (fun _ _ _ h => h) (Or.inl ⟨by rfl, ?_⟩) ?_ ?_
        rotate_left
        · intro w'
          go_simp
          with_reducible rfl
        rotate_left
        · simp only [Act.put, List.setIfInBounds_toArray, List.set_cons_zero, List.set_cons_succ, i64_w, i32_w]
          rfl
        refine take_ (i := 7) (N := some 60) (v := ?_) (a' := ?_) #[true, true, true, true, true, true, true, true, false, false, false, false, false, false, false, false, false, false, false, false] rfl rfl (by kernel_rfl) (fun _ _ _ h => h) (Or.inl ⟨by rfl, ?_⟩) hH ?_ ?_
        rotate_left
        · rintro w' hs_
          obtain ⟨t0, t1, t2, t3, t4, t5, t6⟩ := box7c hs_
          go_simp
          with_reducible rfl
        rotate_left
        · simp only [Act.put, List.setIfInBounds_toArray, List.set_cons_zero, List.set_cons_succ, i64_w, i32_w]
          rfl
        refine pure_ (i := 8) (N := some 61) (v := ?_) (a' := ?_) #[true, true, true, true, true, true, true, true, true, false, false, false, false, false, false, false, false, false, false, false] rfl rfl (by kernel_rfl) (fun _ _ _ h => h) (Or.inl ⟨by rfl, ?_⟩) ?_ ?_
        rotate_left
        · intro w'
          go_simp
          with_reducible rfl
        rotate_left
        · simp only [Act.put, List.setIfInBounds_toArray, List.set_cons_zero, List.set_cons_succ, i64_w, i32_w]
          rfl
        refine take_ (i := 9) (N := some 62) (v := ?_) (a' := ?_) #[true, true, true, true, true, true, true, true, true, true, false, false, false, false, false, false, false, false, false, false] rfl rfl (by kernel_rfl) (fun _ _ _ h => h) (Or.inl ⟨by rfl, ?_⟩) hH ?_ ?_
        rotate_left
        · rintro w' hs_
          go_simp
          with_reducible rfl
        rotate_left
        · simp only [Act.put, List.setIfInBounds_toArray, List.set_cons_zero, List.set_cons_succ, i64_w, i32_w]
          rfl
        refine pure_ (i := 10) (N := some 63) (v := ?_) (a' := ?_) #[true, true, true, true, true, true, true, true, true, true, true, false, false, false, false, false, false, false, false, false] rfl rfl (by kernel_rfl) (fun _ _ _ h => h) (Or.inl ⟨by rfl, ?_⟩) ?_ ?_
        rotate_left
        · intro w'
          go_simp
          with_reducible rfl
        rotate_left
        · simp only [Act.put, List.setIfInBounds_toArray, List.set_cons_zero, List.set_cons_succ, i64_w, i32_w]
          rfl
        refine take_ (i := 11) (N := some 64) (v := ?_) (a' := ?_) #[true, true, true, true, true, true, true, true, true, true, true, true, false, false, false, false, false, false, false, false] rfl rfl (by kernel_rfl) (fun _ _ _ h => h) (Or.inl ⟨by rfl, ?_⟩) hH ?_ ?_
        rotate_left
        · rintro w' hs_
          go_simp
          with_reducible rfl
        rotate_left
        · simp only [Act.put, List.setIfInBounds_toArray, List.set_cons_zero, List.set_cons_succ, i64_w, i32_w]
          rfl
        refine pure_ (i := 12) (N := some 65) (v := ?_) (a' := ?_) #[true, true, true, true, true, true, true, true, true, true, true, true, true, false, false, false, false, false, false, false] rfl rfl (by kernel_rfl) (fun _ _ _ h => h) (Or.inl ⟨by rfl, ?_⟩) ?_ ?_
        rotate_left
        · intro w'
          go_simp
          with_reducible rfl
        rotate_left
        · simp only [Act.put, List.setIfInBounds_toArray, List.set_cons_zero, List.set_cons_succ, i64_w, i32_w]
          rfl
        refine take_ (i := 13) (N := some 66) (v := ?_) (a' := ?_) #[true, true, true, true, true, true, true, true, true, true, true, true, true, true, false, false, false, false, false, false] rfl rfl (by kernel_rfl) (fun _ _ _ h => h) (Or.inl ⟨by rfl, ?_⟩) hH ?_ ?_
        rotate_left
        · rintro w' hs_
          obtain ⟨t0, t1, t2, t3, t4, t5, t6⟩ := box7c hs_
          go_simp
          with_reducible rfl
        rotate_left
        · simp only [Act.put, List.setIfInBounds_toArray, List.set_cons_zero, List.set_cons_succ, i64_w, i32_w]
          rfl
        refine pure_ (i := 14) (N := some 67) (v := ?_) (a' := ?_) #[true, true, true, true, true, true, true, true, true, true, true, true, true, true, true, false, false, false, false, false] rfl rfl (by kernel_rfl) (fun _ _ _ h => h) (Or.inl ⟨by rfl, ?_⟩) ?_ ?_
        rotate_left
        · intro w'
          go_simp
          with_reducible rfl
        rotate_left
        · simp only [Act.put, List.setIfInBounds_toArray, List.set_cons_zero, List.set_cons_succ, i64_w, i32_w]
          rfl
        refine pure_ (i := 15) (N := some 68) (v := ?_) (a' := ?_) #[true, true, true, true, true, true, true, true, true, true, true, true, true, true, true, true, false, false, false, false] rfl rfl (by kernel_rfl) (fun _ _ _ h => h) (Or.inl ⟨by rfl, ?_⟩) ?_ ?_
        rotate_left
        · intro w'
          go_simp
          with_reducible rfl
        rotate_left
        · simp only [Act.put, List.setIfInBounds_toArray, List.set_cons_zero, List.set_cons_succ, i64_w, i32_w]
          rfl
        refine pure_ (i := 16) (N := some 69) (v := ?_) (a' := ?_) #[true, true, true, true, true, true, true, true, true, true, true, true, true, true, true, true, true, false, false, false] rfl rfl (by kernel_rfl) (fun _ _ _ h => h) (Or.inl ⟨by rfl, ?_⟩) ?_ ?_
        rotate_left
        · intro w'
          go_simp
          with_reducible rfl
        rotate_left
        · simp only [Act.put, List.setIfInBounds_toArray, List.set_cons_zero, List.set_cons_succ, i64_w, i32_w]
          rfl
        refine pure_ (i := 17) (N := some 70) (v := ?_) (a' := ?_) #[true, true, true, true, true, true, true, true, true, true, true, true, true, true, true, true, true, true, false, false] rfl rfl (by kernel_rfl) (fun _ _ _ h => h) (Or.inl ⟨by rfl, ?_⟩) ?_ ?_
        rotate_left
        · intro w'
          go_simp
          with_reducible rfl
        rotate_left
        · simp only [Act.put, List.setIfInBounds_toArray, List.set_cons_zero, List.set_cons_succ, i64_w, i32_w]
          rfl
        refine one_ (i := 18) (N := some 12) #[true, true, true, true, true, true, true, true, true, true, true, true, true, true, true, true, true, true, true, false] rfl rfl (by kernel_rfl) (by decide) (fun K hK => ?_)
        refine value_ (w1 := X.alloc (.cells #[.int .u8 0, .int .u8 0, .int .u32 0, .int .u32 0, .int .u16 0, .int .u16 0, .slice none 0 0] 38)) (v := .pointer (some ⟨X.heap.size, 0, none⟩)) (by rfl) rfl ?_ ?_
        · go_simp
          try rfl
        have hS_ : (X.alloc (.cells #[.int .u8 0, .int .u8 0, .int .u32 0, .int .u32 0, .int .u16 0, .int .u16 0, .slice none 0 0] 38)).heap[W.heap.size]? = some (.cells #[.int .u8 kd, .int .u8 ver, .int .u32 ep, .int .u32 id, .int .u16 ix0, .int .u16 cnt0, .slice A body.length c] 38 (0, 0)) := ((below_alloc (Below.refl X.heap.size X) _).block _ (blk_lt hH)).trans hH
        refine hK.out _ _ hS_ (fun hH1 => ?_)
        clear hS_
        clear hK K
        refine norm_ (a' := ?_) ?_ ?_
        rotate_left
        · show Act.put _ (some 12) _ = _
          simp only [Act.put, List.setIfInBounds_toArray, List.set_cons_zero, List.set_cons_succ, i64_w, i32_w]
          rfl
        refine last_ (i := 19) (N := none) #[true, true, true, true, true, true, true, true, true, true, true, true, true, true, true, true, true, true, true, true] rfl rfl (by kernel_rfl) (by decide) (fun K hK => ?_)
        refine store_step 38 _ _ X.heap.size 0 _ #[.int .u8 kd, .int .u8 ver, .int .u32 ep, .int .u32 id, .int .u16 (k : Int), .int .u16 (many : Int), .slice A' m (c - F)] 38 (.agg #[.int .u8 kd, .int .u8 ver, .int .u32 ep, .int .u32 id, .int .u16 (k : Int), .int .u16 (many : Int), .slice A' m (c - F)]) [.int .u8 kd, .int .u8 ver, .int .u32 ep, .int .u32 id, .int .u16 (k : Int), .int .u16 (many : Int), .slice A' m (c - F)] (by rfl) rfl rfl rfl (heap_alloc_new X _) rfl (by kernel_rfl) (by simp) (by simp [Value.oneCell']) (by simp) ?_
        intro w5 he5 hs5
        have HE5 := Aside0.mk he5
        have HS5 := Aside0.mk hs5
        clear he5 hs5
        refine hK.out _ _ ?_
        clear hK K
        refine norm_ (a' := ?_) ?_ ?_
        rotate_left
        · show Act.put _ (none) _ = _
          simp only [Act.put, List.setIfInBounds_toArray, List.set_cons_zero, List.set_cons_succ, i64_w, i32_w]
          rfl
        refine done_ (by kernel_rfl) ?_
        have HB5 : Aside0 (Below V.heap.size V w5) := ⟨HS5.out.on HBX.out.size (below_then HBX.out HBX.out.size (below_alloc (Below.refl _ _) _))⟩
        have HR5 : Aside0 (Kd.R kB 36 w5 V.heap.size (fun _ => True) u8 ((List.range k).map dg)) := ⟨Kd.R_mono (Kd.R_step (Kd.R_below (Kd.R_bound HRX.out) (below_alloc (Below.refl _ _) _)) (fun q hq hlt => HS5.out.far q (fun e => by
          have h1 := hq.2.2.1
          rw [e] at h1
          exact Nat.lt_irrefl _ h1))) (fun _ _ => trivial)⟩
        obtain ⟨t0, t1, t2, t3, t4, t5, t6⟩ := box7c HE5.out
        have hby := annuletref18_Bytes.calls kS kd ver ep id (k : Int) (many : Int) A' (c - F) (chunk body room k) (dg k) w5 (by rw [HCH.out, HMID.out.2.1]; exact Kd.C_below HMID.out.1 (HBV.out.trans (Below.mono HB5.out (by rw [HSV.out]; exact Nat.le_succ _)))) (by rw [HCH.out, HMID.out.2.1]; exact HMID.out.2.2) HDK.out
        rw [show (chunk body room k).length = m by rw [HCH.out, HMID.out.2.1]] at hby
        have HBY := Aside0.mk hby
        clear hby hFT hTc hA'
        go_wp2_with fail
        refine HBY.out.mono ?_
        rintro e6 w6 ⟨y6, rfl, hR6, hb6⟩
        obtain ⟨A6, c6, hy6, _, _⟩ := Kd.R_reads hR6
        subst hy6
        have HR6 : Aside0 (Kd.R kB 36 w6 V.heap.size (fun _ => True) u8 ((List.range k).map dg)) := ⟨Kd.R_below HR5.out hb6⟩
        have HB6 := Aside0.mk (below_then HB5.out HB5.out.size hb6)
        have HM6 : Aside0 (kB.M w6 V.heap.size (fun q => w5.heap.size ≤ q) (dg k) [.slice A6 (dg k).length c6]) := ⟨⟨_, rfl, Kd.R_lower (Kd.R_mono (Kd.R_bound hR6) (fun q hq => hq.2.1)) HB5.out.size⟩⟩
        have HOK6 : Aside0 (∀ q, w5.heap.size ≤ q → True ∧ some q ≠ u8.ownBlock) := ⟨fun q hq => ⟨trivial, fun e => absurd (Kd.R_lt HR5.out q e.symm) (Nat.not_lt.2 hq)⟩⟩
        have HLQ : Aside0 ((((List.range k).map dg).length + 1) * 24 ≤ 140737488355328) := ⟨by have h := HFH.out.2.2; rw [List.length_map, List.length_range]; omega⟩
        clear hR6 hb6 t0 t1 t2 t3 t4 t5 t6
        go_wp2_with (at_builtin; (with_reducible refine Kd.R_append kB (w0 := V) V.heap.size rfl _ _ 51 36 _ 24 rfl Try.underlying51 i36 rfl (by decide) (by decide) u8 ((List.range k).map dg) (dg k) [.slice A6 (dg k).length c6] (fun _ => True) (fun q => w5.heap.size ≤ q) rfl rfl HM6.out HOK6.out (fun _ _ => trivial) HR6.out HB6.out HB6.out.size HLQ.out ?_); intro v7 w7 hO7 hb7 hg7 hat7; have HO7 := Aside0.mk hO7; have HB7 := Aside0.mk hb7; clear hO7 hb7 hg7 hat7)
        clear hwk hwm
        have hk2 := HFH.out.2.2
        go_roundg (many - (k + 1))
        case measure => omega
        case rel => exact ⟨k + 1, hlt, Nat.le_refl _, congrArg (Value.int .i64) (split_w1 hk2), HB7, ⟨by rw [List.range_succ, List.map_append]; exact HO7.out⟩⟩
    · have hkk : k = many := by omega
      have p3 : ¬ ((k : Int) < (many : Int)) := by omega
      subst hkk
      go_wp2_with fail
      go_ret2
      exact ⟨HBV.out.trans (Below.mono HBk.out (by rw [HSV.out]; omega)), _, rfl, Kd.R_lower HRk.out (by rw [HSV.out]; omega)⟩
#print axioms split_ok
end Go.Proofs.Ytaeelmkpjgmdlaa.H
