/- Mine. Chapter 39, by hand: crc.Flip. (under way) -/
import Derived.Test.YtakbkpgbchdocaaHE
namespace Go.Proofs.Ytakbkpgbchdocaa.H
open Go Go.Proofs Go.RowKit Go.Lib Go.Proofs.Ytakbkpgbchdocaa.P Go.Proofs.YtakbkpgbchdocaaW.PrintWords Go.Proofs.YtakbkpgbchdocaaW.PrintLast Go.Proofs.YtakbkpgbchdocaaW.PrintMore Go.Proofs.YtakbkpgbchdocaaW.PrintFlat
set_option linter.unusedVariables false
set_option linter.unusedSimpArgs false
theorem wrapA {n : Nat} (h : n ≤ 140737488351232) : wrap64 (8 * (n : Int)) = 8 * (n : Int) := by unfold wrap64; omega
theorem wrapB {n k : Nat} (h : n ≤ 140737488351232) (hk : k ≤ 32) : wrap64 (8 * (n : Int) - (k : Int)) = 8 * (n : Int) - (k : Int) := by unfold wrap64; omega
theorem wrapE {m n : Nat} (h : n ≤ 140737488351232) (h1 : (m : Int) < 8 * (n : Int)) : wrap64 ((m : Int).tdiv 8) = (m : Int) / 8 := by rw [Int.tdiv_eq_ediv_of_nonneg (by omega)]; unfold wrap64; omega
theorem wrapQ {q n : Nat} (h : n ≤ 140737488351232) (h1 : q < n) : wrap64 (q : Int) = (q : Int) := by unfold wrap64; omega
theorem wrapD {a : Int} {m k n : Nat} (h : n ≤ 140737488351232) (hk : k ≤ 32) (h1 : a < 8 * (n : Int) - k) (hm : a + (k : Int) = m) : wrap64 (a + (k : Int)) = (m : Int) := by unfold wrap64; omega
theorem val_step {P : Program} {o : Oper} {ops : Array Oper} {a : Act} {W w1 : World} {v : Value} {Kc : Act → World → Prop} {Q : Exit → Act → World → Prop} (hw : Region.wanted o (yielded ops a.tmps) = true) (hrun : (execOp a.eval o).run P W = .ok (.value v) w1) (h : Kc (a.put o.dst v) w1) : if Region.wanted o (yielded ops a.tmps) = true then Oper.wp P o a W Kc Q else Kc (a.put o.dst undef) W := by
  rw [if_pos hw]
  unfold Oper.wp
  rw [hrun]
  exact h
/-- What crc.Flip does at one bit. -/
def crcF (n : Nat) (at_ mask : Int) (k : Nat) (ys : List Int) : List Int :=
  if bits .and .u32 (mask / 2 ^ k) 1 = 0 ∨ at_ < -(k : Int) ∨ 8 * (n : Int) - k ≤ at_ then ys
  else ys.set ((at_ + k) / 8).toNat (bits .xor .u8 (rd ys ((at_ + k) / 8)) (IntKind.u8.wrap (2 ^ ((at_ + k) % 8).toNat)))
def crcL (n : Nat) (at_ mask : Int) (l : List Int) : Nat → List Int
  | 0 => l
  | k + 1 => crcF n at_ mask k (crcL n at_ mask l k)
theorem crcA {at_ : Int} {n k : Nat} (h : n ≤ 140737488351232) (hk : k ≤ 32) (h2 : ¬ at_ < -(k : Int)) (h3 : ¬ 8 * (n : Int) - k ≤ at_) : ∃ m q s : Nat, at_ + (k : Int) = m ∧ wrap64 (at_ + (k : Int)) = (m : Int) ∧ (m : Int) / 8 = q ∧ (m : Int) % 8 = s ∧ (m : Int).tdiv 8 = q ∧ (m : Int).tmod 8 = s ∧ q < n ∧ wrap64 (q : Int) = (q : Int) ∧ wrap64 (s : Int) = (s : Int) ∧ s < 8 := by
  obtain ⟨m, hm⟩ : ∃ m : Nat, at_ + (k : Int) = m := ⟨(at_ + k).toNat, by omega⟩
  obtain ⟨q, hq⟩ : ∃ q : Nat, (m : Int) / 8 = q := ⟨m / 8, by omega⟩
  obtain ⟨s, hs⟩ : ∃ s : Nat, (m : Int) % 8 = s := ⟨m % 8, by omega⟩
  have hql : q < n := by omega
  exact ⟨m, q, s, hm, wrapD h hk (by omega) hm, hq, hs, by rw [Int.tdiv_eq_ediv_of_nonneg (by omega)]; exact hq, by rw [Int.tmod_eq_emod_of_nonneg (by omega)]; exact hs, hql, wrapQ h hql, wrapQ (n := 8) (by omega) (by omega), by omega⟩
theorem R_some {α : Type} {d : Kd α} {e : Nat} {w : World} {base : Nat} {ok : Nat → Prop} {A : Option Addr} {n c : Nat} {xs : List α} (h : d.R e w base ok (.slice A n c) xs) (hn : 0 < xs.length) : ∃ g, A = some ⟨g, 0, none⟩ := by
  obtain ⟨_, inner, hown, _⟩ := h
  rcases hown.2 with ⟨_, h0⟩ | ⟨g, cap, cur, hv, _⟩
  · omega
  · injection hv with ha; exact ⟨g, ha⟩
theorem addr_z (g q : Nat) : Addr.add ⟨g, 0, none⟩ q = ⟨g, q, none⟩ := by
  unfold Addr.add
  split <;> simp_all
theorem R_byte {k : IntKind} {e : Nat} {w : World} {base : Nat} {ok : Nat → Prop} {g n c q : Nat} {xs : List Int} (h : (Kd.int k).R e w base ok (.slice (some ⟨g, 0, none⟩) n c) xs) (hq : q < xs.length) : w.cell? ⟨g, q, none⟩ = some (.int k (rd xs (q : Int))) := by
  obtain ⟨rfl, _, hC⟩ := Kd.R_reads' h
  obtain ⟨ad, e, hcc⟩ := (Kd.reads_of_C (d := (0 : Int)) hC).at_ (q : Int) (by omega) (by omega)
  injection e with e
  subst e
  rw [Int.toNat_natCast, addr_z] at hcc
  exact hcc
theorem R_byte_store {e : Nat} {w : World} {base : Nat} {ok : Nat → Prop} {g n c q : Nat} {xs : List Int} {nv : Int} (h : (Kd.int .u8).R e w base ok (.slice (some ⟨g, 0, none⟩) n c) xs) (hq : q < xs.length) : (Instr.storeAt 5 (.pointer (some ⟨g, q, none⟩)) (.int .u8 nv)).run Try.prog w = .ok () (w.setCell ⟨g, q, none⟩ (.int .u8 nv)) := by
  obtain ⟨_, inner, hown, hr⟩ := h
  have hlen := hown.1
  rcases hown.2 with ⟨hv, h0⟩ | ⟨g', cap, cur, hv, hg, hh, h3, h4, h5, h6⟩
  · cases hv
  injection hv with ha hn hc
  injection ha with ha
  injection ha with hg'
  subst hg'
  have hs : q + 1 ≤ cur.size := by
    have h5' : cur.size = cap * 1 := h5
    omega
  exact run_store_run (o := q) 5 (.int .u8 nv) [.int .u8 nv] hh rfl (by kernel_rfl) (by simpa using hs) (by simp [Value.oneCell'])
theorem crcF_len (n : Nat) (at_ mask : Int) (k : Nat) (ys : List Int) : (crcF n at_ mask k ys).length = ys.length := by unfold crcF; split <;> simp
theorem crcF_skip {n : Nat} {at_ mask : Int} {k : Nat} {ys : List Int} (h : bits .and .u32 (mask / 2 ^ k) 1 = 0 ∨ at_ < -(k : Int) ∨ 8 * (n : Int) - k ≤ at_) : crcF n at_ mask k ys = ys := if_pos h
theorem crcF_go {n : Nat} {at_ mask : Int} {k m : Nat} {ys : List Int} (h1 : ¬ bits .and .u32 (mask / 2 ^ k) 1 = 0) (h2 : ¬ at_ < -(k : Int)) (h3 : ¬ 8 * (n : Int) - k ≤ at_) (hm : at_ + (k : Int) = m) : crcF n at_ mask k ys = ys.set ((m : Int) / 8).toNat (bits .xor .u8 (rd ys ((m : Int) / 8)) (IntKind.u8.wrap (2 ^ ((m : Int) % 8).toNat))) := by
  unfold crcF
  rw [if_neg (by rintro (h | h | h) <;> contradiction), hm]
set_option maxRecDepth 100000 in
set_option maxHeartbeats 4000000 in
theorem crcflip_calls (A0 : Option Addr) (n0 c0 : Nat) (l0 : List Int) (at_ mask : Int) (w : World) (hr0 : Kd.C (Kd.int .u8) w A0 n0 l0) (hc0 : n0 ≤ c0) (hl : l0.length ≤ 140737488351232) :
    Calls Try.prog 23 #[.slice A0 n0 c0, .int .i64 at_, .int .u32 mask] w fun e w' => ∃ v, e = .returned v ∧ Kd.R (Kd.int .u8) 5 w' w.heap.size (fun _ => True) v (crcL l0.length at_ mask l0 32) ∧ Below w.heap.size w w' := by
  obtain rfl : l0.length = n0 := hr0.1
  have HR0 := Aside0.mk hr0
  have HL := Aside0.mk (And.intro hc0 hl)
  clear hr0 hc0 hl
  have hw1 : wrap64 (8 * (l0.length : Int)) = 8 * (l0.length : Int) := wrapA HL.out.2
  go_enter Try.func23, Try.ntmps23
  go_wp2_with (first
    | (refine Kd.R_make (Kd.int .u8) (w0 := w) w.heap.size 5 rfl (N := 12) rfl 24 _ _ rfl (l0.length : Int) rfl rfl Try.underlying24 (.int .u8 0) 1 i5 rfl (by decide) (by decide) 0 (ok := fun _ => True) (okp := fun _ => True) rfl (fun _ hk => hk) trivial ?h0 ?hb (Below.refl _ _) (Nat.le_refl _) ?_; (case h0 => omega); (case hb => have := HL.out.2; omega); intro v1 w1 hO1 hb1 _ _; rw [Int.toNat_natCast] at hO1; obtain ⟨A1, c1, rfl, _, _⟩ := Kd.R_reads hO1; rw [List.length_replicate] at hO1 ⊢; have HO1 := Aside0.mk hO1; have HB1 := Aside0.mk hb1; clear hO1 hb1)
    | (refine Kd.R_copy (0 : Int) (w0 := w) w.heap.size rfl _ _ 24 24 5 rfl Try.underlying24 (by kernel_rfl) _ (List.replicate l0.length (0 : Int)) l0 _ _ _ (fun _ => True) rfl rfl HO1.out (Kd.C_below HR0.out HB1.out) HB1.out HB1.out.size ?_; intro w2 hO2 hb2 hg2; have HO2 := Aside0.mk hO2; have HB2 := Aside0.mk hb2; clear hO2 hb2 hg2)
    | fail)
  have hO2 : (Kd.int .u8).R 5 w2 w.heap.size (fun _ => True) (.slice A1 l0.length c1) l0 := by
    have h1 := HO2.out
    rw [List.length_replicate, Nat.min_self, List.take_length, List.drop_of_length_le (by simp), List.append_nil] at h1
    exact h1
  have HO3 := Aside0.mk hO2
  clear hO2 HO2
  rw [hw1]
  go_loopg [9, 19] 32 (fun gg s9 s19 wr => ∃ (k : Nat) (ys : List Int), ys = crcL l0.length at_ mask l0 k ∧ k ≤ 32 ∧ 32 - k ≤ gg ∧ s19 = .int .i64 k ∧ ys.length = l0.length ∧ Aside0 (Below w.heap.size w wr) ∧ Aside0 ((Kd.int .u8).R 5 wr w.heap.size (fun _ => True) (.slice A1 l0.length c1) ys))
  case atStart => exact ⟨0, l0, rfl, by omega, by omega, rfl, rfl, HB2, HO3⟩
  case round =>
    obtain ⟨k, ys, hys, hk, hgg, rfl, hyl, HBk, HRk⟩ := hrel
    have HYS := Aside0.mk hys
    have HYL := Aside0.mk hyl
    clear hys hyl
    have hw2 : wrap64 (8 * (l0.length : Int) - (k : Int)) = 8 * (l0.length : Int) - (k : Int) := wrapB HL.out.2 hk
    by_cases hlt : k < 32
    · have hlt' : ((k : Int) < 32) = True := eq_true (by omega)
      by_cases hs1 : bits .and .u32 (mask / 2 ^ k) 1 = 0
      · have HS := Aside0.mk hs1
        replace hs1 := eq_true hs1
        go_wp2_with fail
        go_roundg (32 - (k + 1))
        case measure => omega
        case rel => exact ⟨k + 1, ys, by show _ = crcF _ _ _ k _; rw [← HYS.out]; exact (crcF_skip (.inl HS.out)).symm, by omega, by omega, by go_num, HYL.out, HBk, HRk⟩
      · by_cases hs2 : at_ < -(k : Int)
        · have HS := Aside0.mk hs2
          replace hs1 := eq_false hs1
          replace hs2 := eq_true hs2
          go_wp2_with fail
          go_roundg (32 - (k + 1))
          case measure => omega
          case rel => exact ⟨k + 1, ys, by show _ = crcF _ _ _ k _; rw [← HYS.out]; exact (crcF_skip (.inr (.inl HS.out))).symm, by omega, by omega, by go_num, HYL.out, HBk, HRk⟩
        · by_cases hs3 : 8 * (l0.length : Int) - (k : Int) ≤ at_
          · have HS := Aside0.mk hs3
            replace hs1 := eq_false hs1
            replace hs2 := eq_false hs2
            replace hs3 := eq_true hs3
            go_wp2_with fail
            go_roundg (32 - (k + 1))
            case measure => omega
            case rel => exact ⟨k + 1, ys, by show _ = crcF _ _ _ k _; rw [← HYS.out]; exact (crcF_skip (.inr (.inr HS.out))).symm, by omega, by omega, by go_num, HYL.out, HBk, HRk⟩
          · have hn1 := hs1
            have hn2 := hs2
            have hn3 := hs3
            obtain ⟨m, q, s, hm, hwm, hq, hs, hq2, hs2', hql, hq3, hs3', hs8⟩ := crcA HL.out.2 hk hs2 hs3
            have hgo := crcF_go (ys := ys) hs1 hs2 hs3 hm
            rw [hq, hs] at hgo
            have HGO := Aside0.mk hgo
            have p1 : ((q : Int) < (l0.length : Int)) = True := eq_true (Int.ofNat_lt.2 hql)
            have p2 : (q < l0.length) = True := eq_true hql
            have HQL := Aside0.mk hql
            have hb1 : (bits .and .u32 (mask / 2 ^ k) 1 == 0) = false := by simp [hs1]
            replace hs1 := eq_false hs1
            replace hs2 := eq_false hs2
            replace hs3 := eq_false hs3
            clear hgo hn1 hn2 hn3 hm hql
            obtain ⟨g, hA⟩ := R_some HRk.out (by rw [HYL.out]; exact Nat.lt_of_le_of_lt (Nat.zero_le _) HQL.out)
            subst hA
            obtain ⟨x0, hx0⟩ : ∃ x0, rd ys (q : Int) = x0 := ⟨_, rfl⟩
            have hc0 : wr.drew.cell? ⟨g, q, none⟩ = some (.int .u8 x0) := by rw [← hx0]; exact R_byte HRk.out (by rw [HYL.out]; exact HQL.out)
            rw [hx0] at HGO
            clear hx0
            obtain ⟨nv, hnv⟩ : ∃ nv, bits .xor .u8 x0 (IntKind.u8.wrap (2 ^ s)) = nv := ⟨_, rfl⟩
            rw [Int.toNat_natCast, Int.toNat_natCast, hnv] at HGO
            have HRD : Aside0 ((Kd.int .u8).R 5 wr.drew w.heap.size (fun _ => True) (.slice (some ⟨g, 0, none⟩) l0.length c1) ys) := ⟨Kd.R_move HRk.out (fun _ _ => rfl)⟩
            have HST := Aside0.mk (show (Instr.storeAt 5 (.pointer (some ⟨g, q, none⟩)) (.int .u8 nv)).run Try.prog wr.drew = .ok () (wr.drew.setCell ⟨g, q, none⟩ (.int .u8 nv)) from R_byte_store HRD.out (by rw [HYL.out]; exact HQL.out))
            go_wp2_with fail
            refine start_ (n := 15) (S := fun V' : World => True) (ds := []) #[false, false, false, false, false, false, false, false, false, false, false, false, false, false, false] (by kernel_rfl) rfl rfl trivial (fun _ => ?_)
            refine pure_ (i := 0) (N := some 40) (v := ?_) (a' := ?_) #[true, false, false, false, false, false, false, false, false, false, false, false, false, false, false] rfl rfl (by kernel_rfl) (fun _ _ _ h => h) (Or.inl ⟨by rfl, ?_⟩) ?_ ?_
            rotate_left
            · intro w'
              go_simp
              with_reducible rfl
            rotate_left
            · simp only [Act.put, List.setIfInBounds_toArray, List.set_cons_zero, List.set_cons_succ, i64_w, i32_w]
              rfl
            refine pure_ (i := 1) (N := some 41) (v := ?_) (a' := ?_) #[true, true, false, false, false, false, false, false, false, false, false, false, false, false, false] rfl rfl (by kernel_rfl) (fun _ _ _ h => h) (Or.inl ⟨by rfl, ?_⟩) ?_ ?_
            rotate_left
            · intro w'
              go_simp
              with_reducible rfl
            rotate_left
            · simp only [Act.put, List.setIfInBounds_toArray, List.set_cons_zero, List.set_cons_succ, i64_w, i32_w]
              rfl
            refine pure_ (i := 2) (N := some 42) (v := ?_) (a' := ?_) #[true, true, true, false, false, false, false, false, false, false, false, false, false, false, false] rfl rfl (by kernel_rfl) (fun _ _ _ h => h) (Or.inl ⟨by rfl, ?_⟩) ?_ ?_
            rotate_left
            · intro w'
              go_simp
              with_reducible rfl
            rotate_left
            · simp only [Act.put, List.setIfInBounds_toArray, List.set_cons_zero, List.set_cons_succ, i64_w, i32_w]
              rfl
            refine pure_ (i := 3) (N := some 43) (v := ?_) (a' := ?_) #[true, true, true, true, false, false, false, false, false, false, false, false, false, false, false] rfl rfl (by kernel_rfl) (fun _ _ _ h => h) (Or.inl ⟨by rfl, ?_⟩) ?_ ?_
            rotate_left
            · intro w'
              go_simp
              with_reducible rfl
            rotate_left
            · simp only [Act.put, List.setIfInBounds_toArray, List.set_cons_zero, List.set_cons_succ, i64_w, i32_w]
              rfl
            refine pure_ (i := 4) (N := some 44) (v := ?_) (a' := ?_) #[true, true, true, true, true, false, false, false, false, false, false, false, false, false, false] rfl rfl (by kernel_rfl) (fun _ _ _ h => h) (Or.inl ⟨by rfl, ?_⟩) ?_ ?_
            rotate_left
            · intro w'
              go_simp
              with_reducible rfl
            rotate_left
            · simp only [Act.put, List.setIfInBounds_toArray, List.set_cons_zero, List.set_cons_succ, i64_w, i32_w]
              rfl
            refine pure_ (i := 5) (N := some 45) (v := ?_) (a' := ?_) #[true, true, true, true, true, true, false, false, false, false, false, false, false, false, false] rfl rfl (by kernel_rfl) (fun _ _ _ h => h) (Or.inl ⟨by rfl, ?_⟩) ?_ ?_
            rotate_left
            · intro w'
              go_simp
              with_reducible rfl
            rotate_left
            · simp only [Act.put, List.setIfInBounds_toArray, List.set_cons_zero, List.set_cons_succ, i64_w, i32_w]
              rfl
            refine pure_ (i := 7) (N := some 47) (v := ?_) (a' := ?_) #[true, true, true, true, true, true, false, true, false, false, false, false, false, false, false] rfl rfl (by kernel_rfl) (fun _ _ _ h => h) (Or.inl ⟨by rfl, ?_⟩) ?_ ?_
            rotate_left
            · intro w'
              go_simp
              with_reducible rfl
            rotate_left
            · simp only [Act.put, List.setIfInBounds_toArray, List.set_cons_zero, List.set_cons_succ, i64_w, i32_w]
              rfl
            refine pure_ (i := 8) (N := some 48) (v := ?_) (a' := ?_) #[true, true, true, true, true, true, false, true, true, false, false, false, false, false, false] rfl rfl (by kernel_rfl) (fun _ _ _ h => h) (Or.inl ⟨by rfl, ?_⟩) ?_ ?_
            rotate_left
            · intro w'
              go_simp
              with_reducible rfl
            rotate_left
            · simp only [Act.put, List.setIfInBounds_toArray, List.set_cons_zero, List.set_cons_succ, i64_w, i32_w]
              rfl
            refine pure_ (i := 9) (N := some 49) (v := ?_) (a' := ?_) #[true, true, true, true, true, true, false, true, true, true, false, false, false, false, false] rfl rfl (by kernel_rfl) (fun _ _ _ h => h) (Or.inl ⟨by rfl, ?_⟩) ?_ ?_
            rotate_left
            · intro w'
              go_simp
              with_reducible rfl
            rotate_left
            · simp only [Act.put, List.setIfInBounds_toArray, List.set_cons_zero, List.set_cons_succ, i64_w, i32_w]
              rfl
            refine pure_ (i := 10) (N := some 50) (v := ?_) (a' := ?_) #[true, true, true, true, true, true, false, true, true, true, true, false, false, false, false] rfl rfl (by kernel_rfl) (fun _ _ _ h => h) (Or.inl ⟨by rfl, ?_⟩) ?_ ?_
            rotate_left
            · intro w'
              go_simp
              with_reducible rfl
            rotate_left
            · simp only [Act.put, List.setIfInBounds_toArray, List.set_cons_zero, List.set_cons_succ, i64_w, i32_w]
              rfl
            refine pure_ (i := 11) (N := some 51) (v := .int .u8 (IntKind.u8.wrap (2 ^ s))) (a' := ?_) #[true, true, true, true, true, true, false, true, true, true, true, true, false, false, false] rfl rfl (by kernel_rfl) (fun _ _ _ h => h) (Or.inl ⟨by rfl, ?_⟩) ?_ ?_
            · intro w'
              clear hw1 hw2 hwm hq hs hq2 hs2' hq3 hs3' hs1 hs2 hs3 hb1 p1 p2 hgg hk hlt hlt'
              go_simp
            rotate_left
            · simp only [Act.put, List.setIfInBounds_toArray, List.set_cons_zero, List.set_cons_succ, i64_w, i32_w]
              rfl
            refine one_ (i := 6) (N := some 46) #[true, true, true, true, true, true, true, true, true, true, true, true, false, false, false] rfl rfl (by kernel_rfl) (by decide) (fun K hK => ?_)
            refine val_step (by rfl) (v := .int .u8 x0) (w1 := wr.drew) (by go_simp) ?_
            refine hK.out _ _ trivial (fun _ => ?_)
            clear hK K
            refine norm_ (a' := ?_) ?_ ?_
            rotate_left
            · show Act.put _ (some 46) _ = _
              simp only [Act.put, List.setIfInBounds_toArray, List.set_cons_zero, List.set_cons_succ, i64_w, i32_w]
              rfl
            refine pure_ (i := 12) (N := some 52) (v := ?_) (a' := ?_) #[true, true, true, true, true, true, true, true, true, true, true, true, true, false, false] rfl rfl (by kernel_rfl) (fun _ _ _ h => h) (Or.inl ⟨by rfl, ?_⟩) ?_ ?_
            rotate_left
            · intro w'
              go_simp
              with_reducible rfl
            rotate_left
            · simp only [Act.put, List.setIfInBounds_toArray, List.set_cons_zero, List.set_cons_succ, i64_w, i32_w]
              rfl
            refine pure_ (i := 13) (N := some 53) (v := ?_) (a' := ?_) #[true, true, true, true, true, true, true, true, true, true, true, true, true, true, false] rfl rfl (by kernel_rfl) (fun _ _ _ h => h) (Or.inl ⟨by rfl, ?_⟩) ?_ ?_
            rotate_left
            · intro w'
              go_simp
              with_reducible rfl
            rotate_left
            · simp only [Act.put, List.setIfInBounds_toArray, List.set_cons_zero, List.set_cons_succ, i64_w, i32_w]
              rfl
            refine one_ (i := 14) (N := none) #[true, true, true, true, true, true, true, true, true, true, true, true, true, true, true] rfl rfl (by kernel_rfl) (by decide) (fun K hK => ?_)
            refine skip_step (by rfl) (w1 := wr.drew.setCell ⟨g, q, none⟩ (.int .u8 nv)) (by simp [execOp, Act.eval, HST.out, Result.andThen]) ?_
            refine hK.out _ _ trivial (fun _ => ?_)
            clear hK K
            refine norm_ (a' := ?_) ?_ ?_
            rotate_left
            · show Act.put _ (none) _ = _
              simp only [Act.put, List.setIfInBounds_toArray, List.set_cons_zero, List.set_cons_succ, i64_w, i32_w]
              rfl
            refine done_ (by kernel_rfl) ?_
            obtain ⟨hR3, hg3⟩ := Kd.R_putg HRD.out (q : Int) nv
            have HR3 : Aside0 ((Kd.int .u8).R 5 (wr.drew.setCell ⟨g, q, none⟩ (.int .u8 nv)) w.heap.size (fun _ => True) (.slice (some ⟨g, 0, none⟩) l0.length c1) (crcF l0.length at_ mask k ys)) := ⟨by rw [HGO.out]; exact hR3⟩
            have HB3 : Aside0 (Below w.heap.size w (wr.drew.setCell ⟨g, q, none⟩ (.int .u8 nv))) := ⟨(HBk.out.drew).setCell (Kd.R_base HRk.out g rfl) _⟩
            clear hR3 hg3
            go_wp2_with fail
            go_roundg (32 - (k + 1))
            case measure => omega
            case rel => exact ⟨k + 1, _, by show _ = crcF _ _ _ k _; rw [← HYS.out], by omega, by omega, by go_num, (crcF_len _ _ _ _ _).trans HYL.out, HB3, HR3⟩
    · have hk32 : k = 32 := by omega
      subst hk32
      go_wp2_with fail
      go_ret
      exact ⟨_, rfl, by have h := HRk.out; rw [HYS.out] at h; exact h, HBk.out⟩
#print axioms crcflip_calls
end Go.Proofs.Ytakbkpgbchdocaa.H
