/- Mine. Chapter 23, by hand: the law AsmOnce, walked. -/
import Derived.Test.YtaeelmkpjgmdlaaHAv
namespace Go.Proofs.Ytaeelmkpjgmdlaa.H
open Go Go.Proofs Go.RowKit Go.Lib Go.Proofs.Ytaeelmkpjgmdlaa.P Go.Proofs.YtaeelmkpjgmdlaaW.PrintWords Go.Proofs.YtaeelmkpjgmdlaaW.PrintLast Go.Proofs.YtaeelmkpjgmdlaaW.PrintMore Go.Proofs.YtaeelmkpjgmdlaaW.PrintFlat Go.Proofs.Ytaeelmkpjgmdlaa.Seen
set_option linter.unusedVariables false
set_option linter.unusedSimpArgs false
section
variable {P : Program} {ops : Array Oper} {rest : List Oper} {o : Oper} {a : Act} {Q : Exit → Act → World → Prop} {W : World} {Kc : Act → World → Prop}
theorem store_step (t : TypeId) (p x : Operand) (g o' : Nat) (cur cur' : Array Value) (e : TypeId) (u : Value) (seg : List Value) (hw : Region.wanted o (yielded ops a.tmps) = true) (hop : o.op = .store t p x) (haddr : a.eval p = .pointer (some ⟨g, o', none⟩)) (hx : a.eval x = u)
    (hb : W.heap[g]? = some (.cells cur e (0, 0))) (hu : u.cells.toList = seg) (ht : (P.info? t).map (·.size) = some seg.length) (hfit : o' + seg.length ≤ cur.size) (h1 : ∀ q ∈ seg, q.oneCell' = true)
    (hc : (cur.toList.take o' ++ seg ++ cur.toList.drop (o' + seg.length)).toArray = cur')
    (h : ∀ w1, w1.heap[g]? = some (.cells cur' e (0, 0)) → Sto W w1 g → Kc (a.put o.dst undef) w1) : if Region.wanted o (yielded ops a.tmps) = true then Oper.wp P o a W Kc Q else Kc (a.put o.dst undef) W := by
  obtain ⟨w1, hr, h2, h3⟩ := store_run (P := P) hb hu ht hfit h1 hc
  rw [if_pos hw]
  unfold Oper.wp
  rw [show (execOp a.eval o).run P W = .ok .skip w1 from by simp [execOp, hop, haddr, hx, hr, Result.andThen]]
  exact h w1 h2 h3
end
theorem alloc1 {w W : World} {a : Obj} (h : w.alloc a = W) : Below w.heap.size w W ∧ W.heap.size = w.heap.size + 1 ∧ W.heap[w.heap.size]? = some a := by
  subst h
  exact ⟨below_alloc (Below.refl _ _) _, by show (w.heap.push a).size = _; simp, heap_alloc_new w a⟩
/-- What is known of those that were told: none of them is fresh. -/
def Told (l : List S40) (mem : Int → SS) (j : Nat) (tl : List Int) : Prop := ∀ x ∈ tl, 0 ≤ x ∧ x < j ∧ frs (mem (rd_T40 l x).f1) (rd_T40 l x).f2.f2.toNat (rd_T40 l x).f2.f3.toNat ≠ 0
theorem Told.mono {l : List S40} {mem : Int → SS} {j j' : Nat} {tl : List Int} (h : Told l mem j tl) (hj : j ≤ j') : Told l mem j' tl := fun x hx => ⟨(h x hx).1, by have := (h x hx).2.1; omega, (h x hx).2.2⟩
theorem upM_stale {mem : Int → SS} {f f' : Int} {e i e' i' : Nat} (h : frs (mem f) e i ≠ 0) : frs (upM mem f' (mks (mem f') e' i') f) e i ≠ 0 := by
  unfold upM
  by_cases hf : f = f'
  · rw [if_pos hf, ← hf]; exact stays _ _ _ _ _ h
  · rw [if_neg hf]; exact h
theorem okD_wf {l : List S40} (h : okD l = true) {x : S40} (hx : x ∈ l) : (Lit.int .u16 x.f1).wf = true ∧ (Lit.int .u32 x.f2.f2).wf = true ∧ (Lit.int .u32 x.f2.f3).wf = true := by
  unfold okD at h
  have h1 := List.all_eq_true.1 h x hx
  simp only [Bool.and_eq_true] at h1
  exact ⟨h1.1.1.1.1.1, h1.1.1.1.2, h1.1.1.2⟩
theorem takeR_told {L : Room.Lim} {os : List Room.OA} {mem : Int → SS} {l : List S40} {j : Nat} {tl : List Int} (h : Told l mem j tl) (f kd : Int) (g : Room.GA) : Told l (takeR L os mem f kd g).1.2 j tl := by
  intro x hx
  refine ⟨(h x hx).1, (h x hx).2.1, ?_⟩
  unfold takeR
  split
  · exact (h x hx).2.2
  · split
    · exact (h x hx).2.2
    · show frs ((if _ then _ else mem) _) _ _ ≠ 0
      split
      · exact upM_stale (h x hx).2.2
      · exact (h x hx).2.2
theorem takeR_bd {L : Room.Lim} {os : List Room.OA} {mem : Int → SS} (h : ∀ i, SBd (mem i)) (f kd : Int) (g : Room.GA) (he : g.ep.toNat < 4294967296) (hi : g.id.toNat < 4294967296) : ∀ i, SBd ((takeR L os mem f kd g).1.2 i) := by
  intro i
  unfold takeR
  split
  · exact h i
  · split
    · exact h i
    · show SBd ((if _ then _ else mem) i)
      split
      · unfold upM
        split
        · exact mks_bd (h f) he hi
        · exact h i
      · exact h i
theorem takeR_inv {L : Room.Lim} (hl : LimOk L) {os : List Room.OA} {mem : Int → SS} (h : RInv L os) (f kd : Int) (g : Room.GA) (hg : Gm g) : RInv L (takeR L os mem f kd g).1.1 := by
  unfold takeR
  split
  · exact h
  · split
    · exact h
    · exact put_inv hl h f g hg
theorem takeR_age {L : Room.Lim} (hl : LimOk L) {os : List Room.OA} {mem : Int → SS} (h : AgeIn L 0 os) (f kd : Int) (g : Room.GA) : AgeIn L 0 (takeR L os mem f kd g).1.1 := by
  unfold takeR
  split
  · exact h
  · split
    · exact h
    · exact put_age hl h f g
/-- Who is told anew was none of those that were told, and is one of them then. -/
theorem takeR_ok {L : Room.Lim} {os : List Room.OA} {mem : Int → SS} {f kd : Int} {g : Room.GA} (h : (takeR L os mem f kd g).2.2.1 = true) : frs (mem f) g.ep.toNat g.id.toNat = 0 ∧ frs ((takeR L os mem f kd g).1.2 f) g.ep.toNat g.id.toNat ≠ 0 := by
  unfold takeR at h ⊢
  split at h
  · cases h
  · split at h
    · cases h
    · rename_i h1 h2
      have h3 : frs (mem f) g.ep.toNat g.id.toNat = 0 := Classical.byContradiction h2
      refine ⟨h3, ?_⟩
      rw [if_neg h1, if_neg h2]
      show frs ((if _ then _ else mem) f) _ _ ≠ 0
      rw [if_pos h]
      unfold upM
      rw [if_pos rfl]
      exact marked _ _ _
set_option maxHeartbeats 8000000 in
set_option maxRecDepth 100000 in
theorem once_calls (kk : Nat) (L : Room.Lim) (A1 : Option Addr) (c1 : Nat) (l1 : List S40) (lg : Bool) (w : World) (hr1 : Kd.C k40 w A1 l1.length l1) (hc1 : l1.length ≤ c1) (hlg : annuletlaw22_Large.f kk l1 = some lg) (hok : okD l1 = true) :
    Calls Try.prog 6 #[.agg #[.int .i64 L.op, .int .i64 L.by_, .int .i64 L.ex], .slice A1 l1.length c1] w fun e w' => e = .returned (.bool true) ∧ Below w.heap.size w w' := by
  obtain ⟨V, hV⟩ : ∃ V, (w.alloc (.cells #[.int .i64 L.op, .int .i64 L.by_, .int .i64 L.ex] 23)) = V := ⟨_, rfl⟩
  have hbV : Below w.heap.size w V := by rw [← hV]; exact below_alloc (Below.refl _ _) _
  have hx2 : V.heap[w.heap.size]? = some (.cells #[.int .i64 L.op, .int .i64 L.by_, .int .i64 L.ex] 23 (0, 0)) := by rw [← hV]; exact heap_alloc_new w _
  have HLG := Aside0.mk (annuletlaw22_Large.calls kk A1 c1 l1 lg V (Kd.C_below hr1 hbV) hc1 hlg)
  have HR1 := Aside0.mk hr1
  have HLF := Aside0.mk hlg
  have HOK := Aside0.mk hok
  have HBV := Aside0.mk hbV
  have HX2 := Aside0.mk hx2
  have HAW : Aside0 (∀ V, Below w.heap.size w V → Calls Try.prog 18 #[] V fun e w' => e = .returned (.bool true) ∧ Below w.heap.size w w') := ⟨fun V hV => (aawake_calls V).mono (fun e w' h => ⟨h.1, below_then hV hV.size h.2⟩)⟩
  clear hr1 hc1 hlg hok hbV hx2
  cases lg with
  | true =>
    go_enter Try.func6, Try.ntmps6
    go_wp2_with fail
    refine HLG.out.mono ?_
    rintro e1 w1 ⟨rfl, hb1⟩
    have HB1 := Aside0.mk (below_then HBV.out HBV.out.size hb1)
    clear hb1
    go_wp2_with fail
    refine (HAW.out _ HB1.out).mono ?_
    rintro e2 w2 ⟨rfl, hb2⟩
    have HB2 := Aside0.mk hb2
    clear hb2
    go_wp2_with fail
    go_ret
    exact ⟨rfl, HB2.out⟩
  | false =>
    have HLL := Aside0.mk (large_false l1 kk 0 0 (by decide) (by decide) (by decide) (by decide) HLF.out)
    go_enter Try.func6, Try.ntmps6
    go_wp2_with fail
    refine HLG.out.mono ?_
    rintro e1 w1 ⟨rfl, hb1⟩
    have HB1 := Aside0.mk (below_then HBV.out HBV.out.size hb1)
    have HX2a := Aside0.mk ((hb1.block _ (blk_lt HX2.out)).trans HX2.out)
    obtain ⟨x0, x1, x2⟩ := box3c HX2a.out
    have HTN := Aside0.mk (anew_calls L w1)
    clear hb1
    go_wp2_with fail
    refine HTN.out.mono ?_
    rintro e2 w2 ⟨hb2, (⟨hlim, a, rfl, hA2⟩ | ⟨hlim, rfl⟩)⟩
    · have HLO := Aside0.mk (limB_ok hlim)
      have HB2 := Aside0.mk (below_then HB1.out HB1.out.size hb2)
      have HA2 := Aside0.mk hA2
      have HOW2 : Aside0 (∀ q, (w1.heap.size ≤ q ∧ q < w2.heap.size) → w.heap.size ≤ q) := ⟨fun q h => by have h1 := HB1.out.size; omega⟩
      have HI2 := Aside0.mk (RInv.nil (L := L) HLO.out)
      have HG2 : Aside0 (AgeIn L 0 []) := ⟨fun o ho => by simp at ho⟩
      have HBD2 : Aside0 (∀ i, SBd ((fun _ => s0 : Int → SS) i)) := ⟨fun _ => s0_bd⟩
      have HTO2 : Aside0 (Told l1 (fun _ => s0) 0 []) := ⟨fun x hx => by simp at hx⟩
      have HRT2 : Aside0 (Kd.R (Kd.int .i64) 3 w2 0 (fun _ => False) (.slice none 0 0) []) := ⟨Kd.R_nil _ _ _ _ _⟩
      have HOT2 : Aside0 (∀ q, (fun _ => False : Nat → Prop) q → w.heap.size ≤ q ∧ q < w2.heap.size ∧ ¬ (w1.heap.size ≤ q ∧ q < w2.heap.size)) := ⟨fun q h => h.elim⟩
      clear hb2 hA2 hlim x0 x1 x2
      go_wp2_with fail
      go_loopg [7, 8] l1.length (fun gg s7 s8 wr => ∃ (j : Nat) (own' : Nat → Prop) (os : List OB) (mem : Int → SS) (n : Nat) (tl : List Int) (okT : Nat → Prop), j ≤ l1.length ∧ l1.length - j ≤ gg ∧ s8 = .int .i64 j ∧ Aside0 (AS own' a L os mem n wr) ∧ Aside0 (RInv L (aOf os)) ∧ Aside0 (AgeIn L 0 (aOf os)) ∧ Aside0 (∀ i, SBd (mem i)) ∧ Aside0 (n ≤ j ∧ tl.length ≤ j) ∧ Aside0 (Told l1 mem j tl) ∧ Aside0 (Kd.R (Kd.int .i64) 3 wr 0 okT s7 tl) ∧ Aside0 (∀ q, okT q → w.heap.size ≤ q ∧ q < wr.heap.size ∧ ¬ own' q) ∧ Aside0 (∀ q, own' q → w.heap.size ≤ q) ∧ Aside0 (Below w.heap.size w wr))
      case atStart => exact ⟨0, _, [], _, 0, [], _, Nat.zero_le _, by omega, rfl, HA2, HI2, HG2, HBD2, ⟨Nat.le_refl _, Nat.le_refl _⟩, HTO2, HRT2, HOT2, HOW2, HB2⟩
      case round =>
        obtain ⟨j, own', os, mem, n, tl, okT, hj, hgg, rfl, HA, HI, HG, HBD, HN, HTO, HRT, HOT, HO, HB⟩ := hrel
        have hl200 := HLL.out.1
        by_cases hlt : j < l1.length
        · obtain ⟨ad, A8, c8, rfl, hx0, hx1, hx2, hx3, hx4, hx5, hx6, hx7, hx8, hl8, hC8⟩ := at_T40 HR1.out (j : Int) (by omega) (by omega)
          rw [Int.toNat_natCast] at hx0 hx1 hx2 hx3 hx4 hx5 hx6 hx7 hx8
          have hmem : rd_T40 l1 (j : Int) ∈ l1 := rd_mem40 hlt
          have hgm := okD_gm HOK.out hmem (HLL.out.2.2 j (by omega) hlt)
          have hwf := okD_wf HOK.out hmem
          obtain ⟨y, hy⟩ : ∃ y, rd_T40 l1 (j : Int) = y := ⟨_, rfl⟩
          rw [hy] at hx0 hx1 hx2 hx3 hx4 hx5 hx6 hx7 hx8 hl8 hC8 hgm hwf
          have q0 := pw_cell_below HB.out hx0
          have p0 : (0 ≤ (j : Int)) = True := eq_true (by omega)
          have p1 : ((j : Int) < (l1.length : Int)) = True := eq_true (by omega)
          have HGM := Aside0.mk (And.intro hgm hwf)
          have HC8 := Aside0.mk (And.intro hl8 hC8)
          have HY := Aside0.mk hy
          have HCELLS := Aside0.mk (And.intro hx0 (And.intro hx1 (And.intro hx2 (And.intro hx3 (And.intro hx4 (And.intro hx5 (And.intro hx6 (And.intro hx7 hx8))))))))
          clear hgm hwf hC8 hl8 hx0 hx1 hx2 hx3 hx4 hx5 hx6 hx7 hx8 hmem hy
          obtain ⟨tk, htk⟩ : ∃ tk, y.f0 = tk := ⟨_, rfl⟩
          rw [htk] at q0
          have HTKE := Aside0.mk htk
          clear htk
          cases tk with
          | true =>
            have HTK := Aside0.mk (atick_calls HA.out (by have h1 := HI.out.ln; have h2 := HLO.out.o2; rw [aOf_len] at h1; omega) (fun o ho => by have h1 := HG.out o.a (List.mem_map.2 ⟨o, ho, rfl⟩); have h2 := HLO.out.e2; exact ⟨h1.1, by omega⟩))
            go_wp2_with fail
            refine HTK.out.mono ?_
            rintro e3 w3 ⟨rfl, hf3, os4, ha3, hA3⟩
            have HA4 := Aside0.mk hA3
            have HI4 : Aside0 (RInv L (aOf os4)) := ⟨by rw [ha3]; exact tick_inv HI.out⟩
            have HG4 : Aside0 (AgeIn L 0 (aOf os4)) := ⟨by rw [ha3]; intro o ho; have := tick_age HG.out o ho; exact ⟨by omega, this.2⟩⟩
            have HB4 : Aside0 (Below w.heap.size w w3) := ⟨HB.out.trans (hf3.below HB.out.size HO.out)⟩
            have HRT4 := Aside0.mk (Kd.R_step HRT.out (fun q hq hlt => hf3.block q hlt (HOT.out q hq).2.2))
            have HOT4 : Aside0 (∀ q, okT q → w.heap.size ≤ q ∧ q < w3.heap.size ∧ ¬ own' q) := ⟨fun q hq => ⟨(HOT.out q hq).1, Nat.lt_of_lt_of_le (HOT.out q hq).2.1 hf3.size, (HOT.out q hq).2.2⟩⟩
            clear hf3 ha3 hA3 q0
            go_wp2
            go_roundg (l1.length - (j + 1))
            case measure => omega
            case rel => exact ⟨j + 1, own', os4, mem, n, tl, okT, by omega, by omega, by go_num, HA4, HI4, HG4, HBD, ⟨by have := HN.out; omega⟩, ⟨HTO.out.mono (by omega)⟩, HRT4, HOT4, HO, HB4⟩
          | false =>
            obtain ⟨X, hX⟩ : ∃ X, wr.drew = X := ⟨_, rfl⟩
            have hbX : Below wr.heap.size wr X := by rw [← hX]; exact (Below.refl _ _).drew
            have HBX := Aside0.mk (below_then HB.out HB.out.size hbX)
            have htake := take_calls (HA.out.below hbX) HLO.out HI.out HBD.out (by have := HN.out; omega) y.f1 y.f2.f0 HGM.out.2.1 ⟨y.f2.f1, y.f2.f2, y.f2.f3, y.f2.f4, y.f2.f5, y.f2.f6⟩ HGM.out.1 HGM.out.2.2.1 HGM.out.2.2.2 A8 c8 HC8.out.1 (fun U hU => Kd.C_below HC8.out.2 (HBX.out.trans (hU.below HBX.out.size HO.out)))
            obtain ⟨r, hr⟩ : ∃ r, takeR L (aOf os) mem y.f1 y.f2.f0 ⟨y.f2.f1, y.f2.f2, y.f2.f3, y.f2.f4, y.f2.f5, y.f2.f6⟩ = r := ⟨_, rfl⟩
            rw [hr] at htake
            have HTAKE := Aside0.mk htake
            have HRR := Aside0.mk hr
            have hTo := takeR_told HTO.out (L := L) (os := aOf os) y.f1 y.f2.f0 ⟨y.f2.f1, y.f2.f2, y.f2.f3, y.f2.f4, y.f2.f5, y.f2.f6⟩
            have hBd := takeR_bd HBD.out (L := L) (os := aOf os) y.f1 y.f2.f0 ⟨y.f2.f1, y.f2.f2, y.f2.f3, y.f2.f4, y.f2.f5, y.f2.f6⟩ (i_nat HGM.out.2.2.1).2 (i_nat HGM.out.2.2.2).2
            have hIv := takeR_inv HLO.out (mem := mem) HI.out y.f1 y.f2.f0 ⟨y.f2.f1, y.f2.f2, y.f2.f3, y.f2.f4, y.f2.f5, y.f2.f6⟩ HGM.out.1
            have hAg := takeR_age HLO.out (mem := mem) HG.out y.f1 y.f2.f0 ⟨y.f2.f1, y.f2.f2, y.f2.f3, y.f2.f4, y.f2.f5, y.f2.f6⟩
            have hOk := @takeR_ok L (aOf os) mem y.f1 y.f2.f0 ⟨y.f2.f1, y.f2.f2, y.f2.f3, y.f2.f4, y.f2.f5, y.f2.f6⟩
            rw [hr] at hTo hBd hIv hAg hOk
            have HPL := Aside0.mk (And.intro hTo (And.intro hBd (And.intro hIv (And.intro hAg hOk))))
            obtain ⟨hx0, hx1, hx2, hx3, hx4, hx5, hx6, hx7, hx8⟩ := HCELLS.out
            replace hx1 := pw_cell_below HBX.out hx1
            replace hx2 := pw_cell_below HBX.out hx2
            replace hx3 := pw_cell_below HBX.out hx3
            replace hx4 := pw_cell_below HBX.out hx4
            replace hx5 := pw_cell_below HBX.out hx5
            replace hx6 := pw_cell_below HBX.out hx6
            replace hx7 := pw_cell_below HBX.out hx7
            replace hx8 := pw_cell_below HBX.out hx8
            have HXB := Aside0.mk hbX
            clear htake hbX hr hTo hBd hIv hAg hOk hx0
            go_wp2_with fail
            refine start_ (n := 19) (S := fun V => V = X) (ds := [11]) #[false, false, false, false, false, false, false, false, false, false, false, false, false, false, false, false, false, false, false] (by kernel_rfl) rfl rfl hX (fun hH => ?_)
            rw [hX] at hH ⊢
            clear hX q0
            refine pure_ (i := 0) (N := some 44) (v := ?_) (a' := ?_) #[true, false, false, false, false, false, false, false, false, false, false, false, false, false, false, false, false, false, false] rfl rfl (by kernel_rfl) (fun _ _ _ h => h) (Or.inl ⟨by rfl, ?_⟩) ?_ ?_
            rotate_left
            · intro w'
              go_simp
              with_reducible rfl
            rotate_left
            · simp only [Act.put, List.setIfInBounds_toArray, List.set_cons_zero, List.set_cons_succ, i64_w, i32_w]
              rfl
            refine pure_ (i := 1) (N := some 45) (v := ?_) (a' := ?_) #[true, true, false, false, false, false, false, false, false, false, false, false, false, false, false, false, false, false, false] rfl rfl (by kernel_rfl) (fun _ _ _ h => h) (Or.inl ⟨by rfl, ?_⟩) ?_ ?_
            rotate_left
            · intro w'
              go_simp
              with_reducible rfl
            rotate_left
            · simp only [Act.put, List.setIfInBounds_toArray, List.set_cons_zero, List.set_cons_succ, i64_w, i32_w]
              rfl
            refine pure_ (i := 2) (N := some 46) (v := ?_) (a' := ?_) #[true, true, true, false, false, false, false, false, false, false, false, false, false, false, false, false, false, false, false] rfl rfl (by kernel_rfl) (fun _ _ _ h => h) (Or.inl ⟨by rfl, ?_⟩) ?_ ?_
            rotate_left
            · intro w'
              go_simp
              with_reducible rfl
            rotate_left
            · simp only [Act.put, List.setIfInBounds_toArray, List.set_cons_zero, List.set_cons_succ, i64_w, i32_w]
              rfl
            refine pure_ (i := 3) (N := some 47) (v := ?_) (a' := ?_) #[true, true, true, true, false, false, false, false, false, false, false, false, false, false, false, false, false, false, false] rfl rfl (by kernel_rfl) (fun _ _ _ h => h) (Or.inl ⟨by rfl, ?_⟩) ?_ ?_
            rotate_left
            · intro w'
              go_simp
              with_reducible rfl
            rotate_left
            · simp only [Act.put, List.setIfInBounds_toArray, List.set_cons_zero, List.set_cons_succ, i64_w, i32_w]
              rfl
            refine pure_ (i := 4) (N := some 48) (v := ?_) (a' := ?_) #[true, true, true, true, true, false, false, false, false, false, false, false, false, false, false, false, false, false, false] rfl rfl (by kernel_rfl) (fun _ _ _ h => h) (Or.inl ⟨by rfl, ?_⟩) ?_ ?_
            rotate_left
            · intro w'
              go_simp
              with_reducible rfl
            rotate_left
            · simp only [Act.put, List.setIfInBounds_toArray, List.set_cons_zero, List.set_cons_succ, i64_w, i32_w]
              rfl
            refine take_ (i := 5) (N := some 49) (v := ?_) (a' := ?_) #[true, true, true, true, true, true, false, false, false, false, false, false, false, false, false, false, false, false, false] rfl rfl (by kernel_rfl) (fun _ _ _ h => h) (Or.inl ⟨by rfl, ?_⟩) hH ?_ ?_
            rotate_left
            · rintro w' rfl
              go_simp
              with_reducible rfl
            rotate_left
            · simp only [Act.put, List.setIfInBounds_toArray, List.set_cons_zero, List.set_cons_succ, i64_w, i32_w]
              rfl
            refine pure_ (i := 6) (N := some 50) (v := ?_) (a' := ?_) #[true, true, true, true, true, true, true, false, false, false, false, false, false, false, false, false, false, false, false] rfl rfl (by kernel_rfl) (fun _ _ _ h => h) (Or.inl ⟨by rfl, ?_⟩) ?_ ?_
            rotate_left
            · intro w'
              go_simp
              with_reducible rfl
            rotate_left
            · simp only [Act.put, List.setIfInBounds_toArray, List.set_cons_zero, List.set_cons_succ, i64_w, i32_w]
              rfl
            refine pure_ (i := 7) (N := some 51) (v := ?_) (a' := ?_) #[true, true, true, true, true, true, true, true, false, false, false, false, false, false, false, false, false, false, false] rfl rfl (by kernel_rfl) (fun _ _ _ h => h) (Or.inl ⟨by rfl, ?_⟩) ?_ ?_
            rotate_left
            · intro w'
              go_simp
              with_reducible rfl
            rotate_left
            · simp only [Act.put, List.setIfInBounds_toArray, List.set_cons_zero, List.set_cons_succ, i64_w, i32_w]
              rfl
            refine pure_ (i := 8) (N := some 52) (v := ?_) (a' := ?_) #[true, true, true, true, true, true, true, true, true, false, false, false, false, false, false, false, false, false, false] rfl rfl (by kernel_rfl) (fun _ _ _ h => h) (Or.inl ⟨by rfl, ?_⟩) ?_ ?_
            rotate_left
            · intro w'
              go_simp
              with_reducible rfl
            rotate_left
            · simp only [Act.put, List.setIfInBounds_toArray, List.set_cons_zero, List.set_cons_succ, i64_w, i32_w]
              rfl
            refine pure_ (i := 9) (N := some 53) (v := ?_) (a' := ?_) #[true, true, true, true, true, true, true, true, true, true, false, false, false, false, false, false, false, false, false] rfl rfl (by kernel_rfl) (fun _ _ _ h => h) (Or.inl ⟨by rfl, ?_⟩) ?_ ?_
            rotate_left
            · intro w'
              go_simp
              with_reducible rfl
            rotate_left
            · simp only [Act.put, List.setIfInBounds_toArray, List.set_cons_zero, List.set_cons_succ, i64_w, i32_w]
              rfl
            refine take_ (i := 10) (N := some 54) (v := ?_) (a' := ?_) #[true, true, true, true, true, true, true, true, true, true, true, false, false, false, false, false, false, false, false] rfl rfl (by kernel_rfl) (fun _ _ _ h => h) (Or.inl ⟨by rfl, ?_⟩) hH ?_ ?_
            rotate_left
            · rintro w' rfl
              go_simp
              with_reducible rfl
            rotate_left
            · simp only [Act.put, List.setIfInBounds_toArray, List.set_cons_zero, List.set_cons_succ, i64_w, i32_w]
              rfl
            refine last_ (i := 11) (N := some 55) #[true, true, true, true, true, true, true, true, true, true, true, true, false, false, false, false, false, false, false] rfl rfl (by kernel_rfl) (by decide) (fun K hK => ?_)
            refine goes_ Try.func22 (by kernel_rfl) rfl #[.pointer (some ⟨a, 0, none⟩), .int .u16 y.f1, .agg #[.int .u8 y.f2.f0, .int .u8 y.f2.f1, .int .u32 y.f2.f2, .int .u32 y.f2.f3, .int .u16 y.f2.f4, .int .u16 y.f2.f5, .slice A8 y.f2.f6.length c8]] (by rfl) rfl rfl (by (try simp only [List.map_toArray, List.map_cons, List.map_nil]); first | done | rfl) ?_
            refine HTAKE.out.mono ?_
            rintro e3 w3 ⟨hf3, own4, os4, n4, v3, hA3, hn3, ho3, ha3, rfl, A3, c3, rfl, _, _⟩
            refine ⟨_, rfl, ?_⟩
            refine hK.out _ _ ?_
            clear hK K
            refine norm_ (a' := ?_) ?_ ?_
            rotate_left
            · show Act.put _ (some 55) _ = _
              simp only [Act.put, List.setIfInBounds_toArray, List.set_cons_zero, List.set_cons_succ, i64_w, i32_w]
              rfl
            refine pure_ (i := 12) (N := some 43) (v := ?_) (a' := ?_) #[true, true, true, true, true, true, true, true, true, true, true, true, true, false, false, false, false, false, false] rfl rfl (by kernel_rfl) (fun _ _ _ h => h) (Or.inl ⟨by rfl, ?_⟩) ?_ ?_
            rotate_left
            · intro w'
              go_simp
              with_reducible rfl
            rotate_left
            · simp only [Act.put, List.setIfInBounds_toArray, List.set_cons_zero, List.set_cons_succ, i64_w, i32_w]
              rfl
            refine pure_ (i := 13) (N := some 56) (v := ?_) (a' := ?_) #[true, true, true, true, true, true, true, true, true, true, true, true, true, true, false, false, false, false, false] rfl rfl (by kernel_rfl) (fun _ _ _ h => h) (Or.inl ⟨by rfl, ?_⟩) ?_ ?_
            rotate_left
            · intro w'
              go_simp
              with_reducible rfl
            rotate_left
            · simp only [Act.put, List.setIfInBounds_toArray, List.set_cons_zero, List.set_cons_succ, i64_w, i32_w]
              rfl
            refine pure_ (i := 14) (N := some 57) (v := ?_) (a' := ?_) #[true, true, true, true, true, true, true, true, true, true, true, true, true, true, true, false, false, false, false] rfl rfl (by kernel_rfl) (fun _ _ _ h => h) (Or.inl ⟨by rfl, ?_⟩) ?_ ?_
            rotate_left
            · intro w'
              go_simp
              with_reducible rfl
            rotate_left
            · simp only [Act.put, List.setIfInBounds_toArray, List.set_cons_zero, List.set_cons_succ, i64_w, i32_w]
              rfl
            refine pure_ (i := 15) (N := some 58) (v := ?_) (a' := ?_) #[true, true, true, true, true, true, true, true, true, true, true, true, true, true, true, true, false, false, false] rfl rfl (by kernel_rfl) (fun _ _ _ h => h) (Or.inl ⟨by rfl, ?_⟩) ?_ ?_
            rotate_left
            · intro w'
              go_simp
              with_reducible rfl
            rotate_left
            · simp only [Act.put, List.setIfInBounds_toArray, List.set_cons_zero, List.set_cons_succ, i64_w, i32_w]
              rfl
            refine pure_ (i := 16) (N := some 9) (v := ?_) (a' := ?_) #[true, true, true, true, true, true, true, true, true, true, true, true, true, true, true, true, true, false, false] rfl rfl (by kernel_rfl) (fun _ _ _ h => h) (Or.inl ⟨by rfl, ?_⟩) ?_ ?_
            rotate_left
            · intro w'
              go_simp
              with_reducible rfl
            rotate_left
            · simp only [Act.put, List.setIfInBounds_toArray, List.set_cons_zero, List.set_cons_succ, i64_w, i32_w]
              rfl
            refine pure_ (i := 17) (N := some 10) (v := ?_) (a' := ?_) #[true, true, true, true, true, true, true, true, true, true, true, true, true, true, true, true, true, true, false] rfl rfl (by kernel_rfl) (fun _ _ _ h => h) (Or.inl ⟨by rfl, ?_⟩) ?_ ?_
            rotate_left
            · intro w'
              go_simp
              with_reducible rfl
            rotate_left
            · simp only [Act.put, List.setIfInBounds_toArray, List.set_cons_zero, List.set_cons_succ, i64_w, i32_w]
              rfl
            refine pure_ (i := 18) (N := some 11) (v := ?_) (a' := ?_) #[true, true, true, true, true, true, true, true, true, true, true, true, true, true, true, true, true, true, true] rfl rfl (by kernel_rfl) (fun _ _ _ h => h) (Or.inl ⟨by rfl, ?_⟩) ?_ ?_
            rotate_left
            · intro w'
              go_simp
              with_reducible rfl
            rotate_left
            · simp only [Act.put, List.setIfInBounds_toArray, List.set_cons_zero, List.set_cons_succ, i64_w, i32_w]
              rfl
            refine done_ (by kernel_rfl) ?_
            clear hH hx1 hx2 hx3 hx4 hx5 hx6 hx7 hx8
            have HA4 := Aside0.mk hA3
            have HI4 : Aside0 (RInv L (aOf os4)) := ⟨by rw [ha3]; exact HPL.out.2.2.1⟩
            have HG4 : Aside0 (AgeIn L 0 (aOf os4)) := ⟨by rw [ha3]; exact HPL.out.2.2.2.1⟩
            have HN4 : Aside0 (n4 ≤ j + 1 ∧ tl.length ≤ j + 1) := ⟨by have := HN.out; omega⟩
            have HB4 : Aside0 (Below w.heap.size w w3) := ⟨HBX.out.trans (hf3.below HBX.out.size HO.out)⟩
            have HO4 : Aside0 (∀ q, own4 q → w.heap.size ≤ q) := ⟨fun q hq => (ho3 q hq).elim (HO.out q) (fun h => Nat.le_trans HBX.out.size h)⟩
            have HRT4 := Aside0.mk (Kd.R_step (Kd.R_below HRT.out HXB.out) (fun q hq hlt => hf3.block q hlt (HOT.out q hq).2.2))
            have HOT4 : Aside0 (∀ q, okT q → w.heap.size ≤ q ∧ q < w3.heap.size ∧ ¬ own4 q) := ⟨fun q hq => ⟨(HOT.out q hq).1, Nat.lt_of_lt_of_le (Nat.lt_of_lt_of_le (HOT.out q hq).2.1 HXB.out.size) hf3.size, fun e => (ho3 q e).elim (HOT.out q hq).2.2 (fun h => by have h1 := (HOT.out q hq).2.1; have h2 := HXB.out.size; omega)⟩⟩
            have HTO4 : Aside0 (Told l1 r.1.2 (j + 1) tl) := ⟨HPL.out.1.mono (by omega)⟩
            clear hf3 ha3 hA3 hn3 ho3 HTAKE HXB HBX
            obtain ⟨At, ct, rfl, hlt2, _⟩ := Kd.R_reads HRT4.out
            obtain ⟨ok, hokk⟩ : ∃ ok, r.2.2.1 = ok := ⟨_, rfl⟩
            rw [hokk]
            have HOKK := Aside0.mk hokk
            have HB30 := Aside0.mk (Below.refl w3.heap.size w3)
            clear hokk
            cases ok with
            | false =>
              go_wp2_with fail
              go_loopg [12] 1 (fun gg s12 wz => s12 = .int .i64 0 ∧ Aside0 (Below w3.heap.size w3 wz))
              case atStart => exact ⟨rfl, HB30⟩
              case round =>
                obtain ⟨rfl, HBz⟩ := hrel
                have HAz := Aside0.mk (HA4.out.below HBz.out)
                have HRTz := Aside0.mk (Kd.R_below HRT4.out HBz.out)
                have HOTz : Aside0 (∀ q, okT q → w.heap.size ≤ q ∧ q < wr.heap.size ∧ ¬ own4 q) := ⟨fun q hq => ⟨(HOT4.out q hq).1, Nat.lt_of_lt_of_le (HOT4.out q hq).2.1 HBz.out.size, (HOT4.out q hq).2.2⟩⟩
                have HBq := Aside0.mk (below_then HB4.out HB4.out.size HBz.out)
                by_cases hz : (0 : Int) < (tl.length : Int)
                all_goals
                  go_wp2
                  go_roundg (l1.length - (j + 1))
                  case measure => omega
                  case rel => exact ⟨j + 1, own4, os4, r.1.2, n4, tl, okT, by omega, by omega, by go_num, HAz, HI4, HG4, ⟨HPL.out.2.1⟩, HN4, HTO4, HRTz, HOTz, HO4, HBq⟩
            | true =>
              have HFR := Aside0.mk (HPL.out.2.2.2.2 HOKK.out)
              go_wp2_with fail
              go_loopg [12] tl.length (fun gg s12 wz => ∃ k : Nat, k ≤ tl.length ∧ tl.length - k ≤ gg ∧ s12 = .int .i64 k ∧ Aside0 (Below w3.heap.size w3 wz))
              case atStart => exact ⟨0, Nat.zero_le _, by omega, rfl, HB30⟩
              case round =>
                obtain ⟨k, hkl, hgk, rfl, HBz⟩ := hrel
                have htl := HN4.out
                have HAz := Aside0.mk (HA4.out.below HBz.out)
                have HRTz := Aside0.mk (Kd.R_below HRT4.out HBz.out)
                have HBq := Aside0.mk (below_then HB4.out HB4.out.size HBz.out)
                by_cases hk : k < tl.length
                · obtain ⟨adt, hadt, hxt⟩ := Kd.at_int (Kd.R_reads' HRTz.out).2.2 (k : Int) (by omega) (by omega)
                  cases hadt
                  rw [Int.toNat_natCast] at hxt
                  obtain ⟨xi, hxi⟩ : ∃ xi, rd tl (k : Int) = xi := ⟨_, rfl⟩
                  have hmx : xi ∈ tl := by
                    rw [← hxi]
                    unfold rd
                    rw [Int.toNat_natCast, List.getD_eq_getElem?_getD, List.getElem?_eq_getElem hk]
                    exact List.getElem_mem _
                  rw [hxi] at hxt
                  obtain ⟨hx1, hx2, hx3⟩ := HTO.out xi hmx
                  obtain ⟨adx, Ax, cx, hadx, ix0, ix1, ix2, ix3, ix4, ix5, ix6, ix7, ix8, _, _⟩ := at_T40 HR1.out xi hx1 (by omega)
                  cases hadx
                  obtain ⟨x, hx⟩ : ∃ x, rd_T40 l1 xi = x := ⟨_, rfl⟩
                  rw [hx] at ix0 ix1 ix2 ix3 ix4 ix5 ix6 ix7 ix8 hx3
                  have hcase : (x.f1 == y.f1) = false ∨ ((x.f1 == y.f1) = true ∧ (x.f2.f2 == y.f2.f2) = false) ∨ ((x.f1 == y.f1) = true ∧ (x.f2.f2 == y.f2.f2) = true ∧ (x.f2.f3 == y.f2.f3) = false) := by
                    by_cases e1 : x.f1 = y.f1
                    · by_cases e2 : x.f2.f2 = y.f2.f2
                      · by_cases e3 : x.f2.f3 = y.f2.f3
                        · exact absurd (by rw [e1, e2, e3]; exact HFR.out.1) hx3
                        · exact .inr (.inr ⟨by simpa using e1, by simpa using e2, by simpa using e3⟩)
                      · exact .inr (.inl ⟨by simpa using e1, by simpa using e2⟩)
                    · exact .inl (by simpa using e1)
                  obtain ⟨X, hX⟩ : ∃ X, wr.drew = X := ⟨_, rfl⟩
                  have hbX : Below wr.heap.size wr X := by rw [← hX]; exact (Below.refl _ _).drew
                  have hBwX := below_then HBq.out HBq.out.size hbX
                  have HBX := Aside0.mk (below_then HBz.out HBz.out.size hbX)
                  have HBWX := Aside0.mk hBwX
                  have HCASE := Aside0.mk hcase
                  have HTC : Aside0 (X.cell? (adt.add k) = some (.int .i64 xi)) := ⟨pw_cell_below hbX hxt⟩
                  have HXC : Aside0 (∀ V, Below X.heap.size X V → V.cell? (ad.add (xi.toNat * 9)) = some (.bool x.f0) ∧ V.cell? ⟨(ad.add (xi.toNat * 9)).block, (ad.add (xi.toNat * 9)).off + 1, none⟩ = some (.int .u16 x.f1) ∧ V.cell? ⟨(ad.add (xi.toNat * 9)).block, (ad.add (xi.toNat * 9)).off + 2, none⟩ = some (.int .u8 x.f2.f0) ∧ V.cell? ⟨(ad.add (xi.toNat * 9)).block, (ad.add (xi.toNat * 9)).off + 3, none⟩ = some (.int .u8 x.f2.f1) ∧ V.cell? ⟨(ad.add (xi.toNat * 9)).block, (ad.add (xi.toNat * 9)).off + 4, none⟩ = some (.int .u32 x.f2.f2) ∧ V.cell? ⟨(ad.add (xi.toNat * 9)).block, (ad.add (xi.toNat * 9)).off + 5, none⟩ = some (.int .u32 x.f2.f3) ∧ V.cell? ⟨(ad.add (xi.toNat * 9)).block, (ad.add (xi.toNat * 9)).off + 6, none⟩ = some (.int .u16 x.f2.f4) ∧ V.cell? ⟨(ad.add (xi.toNat * 9)).block, (ad.add (xi.toNat * 9)).off + 7, none⟩ = some (.int .u16 x.f2.f5) ∧ V.cell? ⟨(ad.add (xi.toNat * 9)).block, (ad.add (xi.toNat * 9)).off + 8, none⟩ = some (.slice Ax x.f2.f6.length cx)) := ⟨fun V hV => ⟨pw_cell_below hV (pw_cell_below HBWX.out ix0), pw_cell_below hV (pw_cell_below HBWX.out ix1), pw_cell_below hV (pw_cell_below HBWX.out ix2), pw_cell_below hV (pw_cell_below HBWX.out ix3), pw_cell_below hV (pw_cell_below HBWX.out ix4), pw_cell_below hV (pw_cell_below HBWX.out ix5), pw_cell_below hV (pw_cell_below HBWX.out ix6), pw_cell_below hV (pw_cell_below HBWX.out ix7), pw_cell_below hV (pw_cell_below HBWX.out ix8)⟩⟩
                  have HYC : Aside0 (∀ V, Below X.heap.size X V → V.cell? (ad.add (j * 9)) = some (.bool y.f0) ∧ V.cell? ⟨(ad.add (j * 9)).block, (ad.add (j * 9)).off + 1, none⟩ = some (.int .u16 y.f1) ∧ V.cell? ⟨(ad.add (j * 9)).block, (ad.add (j * 9)).off + 2, none⟩ = some (.int .u8 y.f2.f0) ∧ V.cell? ⟨(ad.add (j * 9)).block, (ad.add (j * 9)).off + 3, none⟩ = some (.int .u8 y.f2.f1) ∧ V.cell? ⟨(ad.add (j * 9)).block, (ad.add (j * 9)).off + 4, none⟩ = some (.int .u32 y.f2.f2) ∧ V.cell? ⟨(ad.add (j * 9)).block, (ad.add (j * 9)).off + 5, none⟩ = some (.int .u32 y.f2.f3) ∧ V.cell? ⟨(ad.add (j * 9)).block, (ad.add (j * 9)).off + 6, none⟩ = some (.int .u16 y.f2.f4) ∧ V.cell? ⟨(ad.add (j * 9)).block, (ad.add (j * 9)).off + 7, none⟩ = some (.int .u16 y.f2.f5) ∧ V.cell? ⟨(ad.add (j * 9)).block, (ad.add (j * 9)).off + 8, none⟩ = some (.slice A8 y.f2.f6.length c8)) := ⟨fun V hV => by
                    obtain ⟨iy0, iy1, iy2, iy3, iy4, iy5, iy6, iy7, iy8⟩ := HCELLS.out
                    exact ⟨pw_cell_below hV (pw_cell_below HBWX.out iy0), pw_cell_below hV (pw_cell_below HBWX.out iy1), pw_cell_below hV (pw_cell_below HBWX.out iy2), pw_cell_below hV (pw_cell_below HBWX.out iy3), pw_cell_below hV (pw_cell_below HBWX.out iy4), pw_cell_below hV (pw_cell_below HBWX.out iy5), pw_cell_below hV (pw_cell_below HBWX.out iy6), pw_cell_below hV (pw_cell_below HBWX.out iy7), pw_cell_below hV (pw_cell_below HBWX.out iy8)⟩⟩
                  have r0 : (0 ≤ (k : Int)) = True := eq_true (by omega)
                  have r1 : ((k : Int) < (tl.length : Int)) = True := eq_true (by omega)
                  have r2 : (0 ≤ xi) = True := eq_true hx1
                  have r3 : (xi < (l1.length : Int)) = True := eq_true (by omega)
                  have hs0 : Below X.heap.size X wr.drew := by rw [hX]; exact Below.refl _ _
                  clear hcase hx hx3 hx1 hx2 hmx hxi hxt ix0 ix1 ix2 ix3 ix4 ix5 ix6 ix7 ix8 hbX hBwX
                  go_wp2_with fail
                  refine start_ (n := 15) (S := fun V => Below X.heap.size X V) (ds := [14]) #[false, false, false, false, false, false, false, false, false, false, false, false, false, false, false] (by kernel_rfl) rfl rfl hs0 (fun hJ => ?_)
                  rw [hX] at hJ ⊢
                  clear hs0 hX
                  refine pure_ (i := 0) (N := some 68) (v := ?_) (a' := ?_) #[true, false, false, false, false, false, false, false, false, false, false, false, false, false, false] rfl rfl (by kernel_rfl) (fun _ _ _ h => h) (Or.inl ⟨by rfl, ?_⟩) ?_ ?_
                  rotate_left
                  · intro w'
                    go_simp
                    with_reducible rfl
                  rotate_left
                  · simp only [Act.put, List.setIfInBounds_toArray, List.set_cons_zero, List.set_cons_succ, i64_w, i32_w]
                    rfl
                  refine pure_ (i := 1) (N := some 69) (v := ?_) (a' := ?_) #[true, true, false, false, false, false, false, false, false, false, false, false, false, false, false] rfl rfl (by kernel_rfl) (fun _ _ _ h => h) (Or.inl ⟨by rfl, ?_⟩) ?_ ?_
                  rotate_left
                  · intro w'
                    go_simp
                    with_reducible rfl
                  rotate_left
                  · simp only [Act.put, List.setIfInBounds_toArray, List.set_cons_zero, List.set_cons_succ, i64_w, i32_w]
                    rfl
                  refine pure_ (i := 2) (N := some 70) (v := ?_) (a' := ?_) #[true, true, true, false, false, false, false, false, false, false, false, false, false, false, false] rfl rfl (by kernel_rfl) (fun _ _ _ h => h) (Or.inl ⟨by rfl, ?_⟩) ?_ ?_
                  rotate_left
                  · intro w'
                    go_simp
                    with_reducible rfl
                  rotate_left
                  · simp only [Act.put, List.setIfInBounds_toArray, List.set_cons_zero, List.set_cons_succ, i64_w, i32_w]
                    rfl
                  refine pure_ (i := 3) (N := some 71) (v := ?_) (a' := ?_) #[true, true, true, true, false, false, false, false, false, false, false, false, false, false, false] rfl rfl (by kernel_rfl) (fun _ _ _ h => h) (Or.inl ⟨by rfl, ?_⟩) ?_ ?_
                  rotate_left
                  · intro w'
                    go_simp
                    with_reducible rfl
                  rotate_left
                  · simp only [Act.put, List.setIfInBounds_toArray, List.set_cons_zero, List.set_cons_succ, i64_w, i32_w]
                    rfl
                  refine take_ (i := 4) (N := some 72) (v := ?_) (a' := ?_) #[true, true, true, true, true, false, false, false, false, false, false, false, false, false, false] rfl rfl (by kernel_rfl) (fun _ _ _ h => h) (Or.inl ⟨by rfl, ?_⟩) hJ ?_ ?_
                  rotate_left
                  · rintro w' hs_
                    have t0 := pw_cell_below hs_ HTC.out
                    go_simp
                    with_reducible rfl
                  rotate_left
                  · simp only [Act.put, List.setIfInBounds_toArray, List.set_cons_zero, List.set_cons_succ, i64_w, i32_w]
                    rfl
                  refine pure_ (i := 5) (N := some 73) (v := ?_) (a' := ?_) #[true, true, true, true, true, true, false, false, false, false, false, false, false, false, false] rfl rfl (by kernel_rfl) (fun _ _ _ h => h) (Or.inl ⟨by rfl, ?_⟩) ?_ ?_
                  rotate_left
                  · intro w'
                    go_simp
                    with_reducible rfl
                  rotate_left
                  · simp only [Act.put, List.setIfInBounds_toArray, List.set_cons_zero, List.set_cons_succ, i64_w, i32_w]
                    rfl
                  refine take_ (i := 6) (N := some 74) (v := ?_) (a' := ?_) #[true, true, true, true, true, true, true, false, false, false, false, false, false, false, false] rfl rfl (by kernel_rfl) (fun _ _ _ h => h) (Or.inl ⟨by rfl, ?_⟩) hJ ?_ ?_
                  rotate_left
                  · rintro w' hs_
                    obtain ⟨i0, i1, i2, i3, i4, i5, i6, i7, i8⟩ := HXC.out _ hs_
                    go_simp
                    with_reducible rfl
                  rotate_left
                  · simp only [Act.put, List.setIfInBounds_toArray, List.set_cons_zero, List.set_cons_succ, i64_w, i32_w]
                    rfl
                  refine pure_ (i := 7) (N := some 75) (v := ?_) (a' := ?_) #[true, true, true, true, true, true, true, true, false, false, false, false, false, false, false] rfl rfl (by kernel_rfl) (fun _ _ _ h => h) (Or.inl ⟨by rfl, ?_⟩) ?_ ?_
                  rotate_left
                  · intro w'
                    go_simp
                    with_reducible rfl
                  rotate_left
                  · simp only [Act.put, List.setIfInBounds_toArray, List.set_cons_zero, List.set_cons_succ, i64_w, i32_w]
                    rfl
                  refine pure_ (i := 8) (N := some 76) (v := ?_) (a' := ?_) #[true, true, true, true, true, true, true, true, true, false, false, false, false, false, false] rfl rfl (by kernel_rfl) (fun _ _ _ h => h) (Or.inl ⟨by rfl, ?_⟩) ?_ ?_
                  rotate_left
                  · intro w'
                    go_simp
                    with_reducible rfl
                  rotate_left
                  · simp only [Act.put, List.setIfInBounds_toArray, List.set_cons_zero, List.set_cons_succ, i64_w, i32_w]
                    rfl
                  refine pure_ (i := 9) (N := some 77) (v := ?_) (a' := ?_) #[true, true, true, true, true, true, true, true, true, true, false, false, false, false, false] rfl rfl (by kernel_rfl) (fun _ _ _ h => h) (Or.inl ⟨by rfl, ?_⟩) ?_ ?_
                  rotate_left
                  · intro w'
                    go_simp
                    with_reducible rfl
                  rotate_left
                  · simp only [Act.put, List.setIfInBounds_toArray, List.set_cons_zero, List.set_cons_succ, i64_w, i32_w]
                    rfl
                  refine take_ (i := 10) (N := some 78) (v := ?_) (a' := ?_) #[true, true, true, true, true, true, true, true, true, true, true, false, false, false, false] rfl rfl (by kernel_rfl) (fun _ _ _ h => h) (Or.inl ⟨by rfl, ?_⟩) hJ ?_ ?_
                  rotate_left
                  · rintro w' hs_
                    obtain ⟨i0, i1, i2, i3, i4, i5, i6, i7, i8⟩ := HYC.out _ hs_
                    go_simp
                    with_reducible rfl
                  rotate_left
                  · simp only [Act.put, List.setIfInBounds_toArray, List.set_cons_zero, List.set_cons_succ, i64_w, i32_w]
                    rfl
                  refine two_ (i := 11) (j := 12) (Ni := some 13) (Nj := some 14) #[true, true, true, true, true, true, true, true, true, true, true, true, false, false, false] #[true, true, true, true, true, true, true, true, true, true, true, false, true, false, false] rfl rfl rfl rfl (by kernel_rfl) (by decide) (by decide) (fun K hK => ?_) (fun K hK => ?_)
                  · refine value_ (w1 := X.alloc (.cells #[.bool false, .int .u16 0, .int .u8 0, .int .u8 0, .int .u32 0, .int .u32 0, .int .u16 0, .int .u16 0, .slice none 0 0] 40)) (v := .pointer (some ⟨X.heap.size, 0, none⟩)) (by rfl) rfl ?_ ?_
                    · go_simp
                      try rfl
                    obtain ⟨Y1, hY1⟩ : ∃ Y1, X.alloc (.cells #[.bool false, .int .u16 0, .int .u8 0, .int .u8 0, .int .u32 0, .int .u32 0, .int .u16 0, .int .u16 0, .slice none 0 0] 40) = Y1 := ⟨_, rfl⟩
                    have HY1 := Aside0.mk (alloc1 hY1)
                    rw [hY1]
                    have hS_ : Below X.heap.size X Y1 := below_then hJ hJ.size HY1.out.1
                    clear hY1
                    refine hK.out _ _ hS_ (fun hJ_11 => ?_)
                    clear hS_
                    clear hK K
                    refine norm_ (a' := ?_) ?_ ?_
                    rotate_left
                    · show Act.put _ (some 13) _ = _
                      simp only [Act.put, List.setIfInBounds_toArray, List.set_cons_zero, List.set_cons_succ, i64_w, i32_w]
                      rfl
                    refine one_ (i := 12) (N := some 14) #[true, true, true, true, true, true, true, true, true, true, true, true, true, false, false] rfl rfl (by kernel_rfl) (by decide) (fun K hK => ?_)
                    refine value_ (w1 := Y1.alloc (.cells #[.bool false, .int .u16 0, .int .u8 0, .int .u8 0, .int .u32 0, .int .u32 0, .int .u16 0, .int .u16 0, .slice none 0 0] 40)) (v := .pointer (some ⟨Y1.heap.size, 0, none⟩)) (by rfl) rfl ?_ ?_
                    · go_simp
                      try rfl
                    obtain ⟨Y2, hY2⟩ : ∃ Y2, Y1.alloc (.cells #[.bool false, .int .u16 0, .int .u8 0, .int .u8 0, .int .u32 0, .int .u32 0, .int .u16 0, .int .u16 0, .slice none 0 0] 40) = Y2 := ⟨_, rfl⟩
                    have HY2 := Aside0.mk (alloc1 hY2)
                    rw [hY2]
                    have hS_ : Below X.heap.size X Y2 := below_then hJ_11 hJ_11.size HY2.out.1
                    clear hY2
                    refine hK.out _ _ hS_ (fun hJ_11_12 => ?_)
                    clear hS_
                    clear hK K
                    refine norm_ (a' := ?_) ?_ ?_
                    rotate_left
                    · show Act.put _ (some 14) _ = _
                      simp only [Act.put, List.setIfInBounds_toArray, List.set_cons_zero, List.set_cons_succ, i64_w, i32_w]
                      rfl
                    refine one_ (i := 13) (N := none) #[true, true, true, true, true, true, true, true, true, true, true, true, true, true, false] rfl rfl (by kernel_rfl) (by decide) (fun K hK => ?_)
                    have hb13 : Y2.heap[X.heap.size]? = some (.cells #[.bool false, .int .u16 0, .int .u8 0, .int .u8 0, .int .u32 0, .int .u32 0, .int .u16 0, .int .u16 0, .slice none 0 0] 40 (0, 0)) := (HY2.out.1.block _ (blk_lt HY1.out.2.2)).trans HY1.out.2.2
                    have hb14 : Y2.heap[Y1.heap.size]? = some (.cells #[.bool false, .int .u16 0, .int .u8 0, .int .u8 0, .int .u32 0, .int .u32 0, .int .u16 0, .int .u16 0, .slice none 0 0] 40 (0, 0)) := HY2.out.2.2
                    have HB13 := Aside0.mk hb13
                    clear hb13
                    refine store_step 40 _ _ X.heap.size 0 _ #[.bool x.f0, .int .u16 x.f1, .int .u8 x.f2.f0, .int .u8 x.f2.f1, .int .u32 x.f2.f2, .int .u32 x.f2.f3, .int .u16 x.f2.f4, .int .u16 x.f2.f5, .slice Ax x.f2.f6.length cx] 40 (.agg #[.bool x.f0, .int .u16 x.f1, .int .u8 x.f2.f0, .int .u8 x.f2.f1, .int .u32 x.f2.f2, .int .u32 x.f2.f3, .int .u16 x.f2.f4, .int .u16 x.f2.f5, .slice Ax x.f2.f6.length cx]) [.bool x.f0, .int .u16 x.f1, .int .u8 x.f2.f0, .int .u8 x.f2.f1, .int .u32 x.f2.f2, .int .u32 x.f2.f3, .int .u16 x.f2.f4, .int .u16 x.f2.f5, .slice Ax x.f2.f6.length cx] (by rfl) rfl rfl rfl HB13.out rfl (by kernel_rfl) (by simp) (by simp [Value.oneCell']) (by simp) ?_
                    intro w5 ew5 hsw5
                    have HEw5 := Aside0.mk ew5; have HSw5 := Aside0.mk hsw5
                    clear ew5 hsw5
                    have hS_ : Below X.heap.size X w5 := HSw5.out.on (by have := HY1.out.2.1; omega) hJ_11_12
                    refine hK.out _ _ hS_ (fun hJ_11_12_13 => ?_)
                    clear hS_
                    clear hK K
                    refine norm_ (a' := ?_) ?_ ?_
                    rotate_left
                    · show Act.put _ (none) _ = _
                      simp only [Act.put, List.setIfInBounds_toArray, List.set_cons_zero, List.set_cons_succ, i64_w, i32_w]
                      rfl
                    refine last_ (i := 14) (N := none) #[true, true, true, true, true, true, true, true, true, true, true, true, true, true, true] rfl rfl (by kernel_rfl) (by decide) (fun K hK => ?_)
                    have HB14 := Aside0.mk (HSw5.out.blk (by have := HY1.out.2.1; omega) hb14)
                    refine store_step 40 _ _ Y1.heap.size 0 _ #[.bool y.f0, .int .u16 y.f1, .int .u8 y.f2.f0, .int .u8 y.f2.f1, .int .u32 y.f2.f2, .int .u32 y.f2.f3, .int .u16 y.f2.f4, .int .u16 y.f2.f5, .slice A8 y.f2.f6.length c8] 40 (.agg #[.bool y.f0, .int .u16 y.f1, .int .u8 y.f2.f0, .int .u8 y.f2.f1, .int .u32 y.f2.f2, .int .u32 y.f2.f3, .int .u16 y.f2.f4, .int .u16 y.f2.f5, .slice A8 y.f2.f6.length c8]) [.bool y.f0, .int .u16 y.f1, .int .u8 y.f2.f0, .int .u8 y.f2.f1, .int .u32 y.f2.f2, .int .u32 y.f2.f3, .int .u16 y.f2.f4, .int .u16 y.f2.f5, .slice A8 y.f2.f6.length c8] (by rfl) rfl rfl rfl HB14.out rfl (by kernel_rfl) (by simp) (by simp [Value.oneCell']) (by simp) ?_
                    intro w6 ew6 hsw6
                    have HEw6 := Aside0.mk ew6; have HSw6 := Aside0.mk hsw6
                    clear ew6 hsw6
                    refine hK.out _ _ ?_
                    clear hK K
                    refine norm_ (a' := ?_) ?_ ?_
                    rotate_left
                    · show Act.put _ (none) _ = _
                      simp only [Act.put, List.setIfInBounds_toArray, List.set_cons_zero, List.set_cons_succ, i64_w, i32_w]
                      rfl
                    refine done_ (by kernel_rfl) ?_
                    clear hb14
                    have hx13 : w6.heap[X.heap.size]? = some (.cells #[.bool x.f0, .int .u16 x.f1, .int .u8 x.f2.f0, .int .u8 x.f2.f1, .int .u32 x.f2.f2, .int .u32 x.f2.f3, .int .u16 x.f2.f4, .int .u16 x.f2.f5, .slice Ax x.f2.f6.length cx] 40 (0, 0)) := (HSw6.out.far _ (by have := HY1.out.2.1; omega)).trans HEw5.out
                    have hy14 := HEw6.out
                    have HBI : Aside0 (Below w3.heap.size w3 w6) := ⟨(HSw6.out.on (by have h1 := HY1.out.2.1; have h2 := HBX.out.size; omega) (HSw5.out.on (by have h1 := HY1.out.2.1; have h2 := HBX.out.size; omega) (below_then (below_then HBX.out HBX.out.size HY1.out.1) (Nat.le_trans HBX.out.size HY1.out.1.size) HY2.out.1)))⟩
                    have j1 : w6.cell? ⟨X.heap.size, 1, none⟩ = some (.int .u16 x.f1) := (blk_cell hx13 1).trans rfl
                    have j4 : w6.cell? ⟨X.heap.size, 4, none⟩ = some (.int .u32 x.f2.f2) := (blk_cell hx13 4).trans rfl
                    have j5 : w6.cell? ⟨X.heap.size, 5, none⟩ = some (.int .u32 x.f2.f3) := (blk_cell hx13 5).trans rfl
                    have m1 : w6.cell? ⟨Y1.heap.size, 1, none⟩ = some (.int .u16 y.f1) := (blk_cell hy14 1).trans rfl
                    have m4 : w6.cell? ⟨Y1.heap.size, 4, none⟩ = some (.int .u32 y.f2.f2) := (blk_cell hy14 4).trans rfl
                    have m5 : w6.cell? ⟨Y1.heap.size, 5, none⟩ = some (.int .u32 y.f2.f3) := (blk_cell hy14 5).trans rfl
                    clear hx13 hy14
                    rcases HCASE.out with hq | ⟨hq1, hq⟩ | ⟨hq1, hq2, hq⟩
                    all_goals
                      go_wp2
                      go_roundg (tl.length - (k + 1))
                      case measure => omega
                      case rel => exact ⟨k + 1, by omega, by omega, by go_num, HBI⟩
                  · refine value_ (w1 := X.alloc (.cells #[.bool false, .int .u16 0, .int .u8 0, .int .u8 0, .int .u32 0, .int .u32 0, .int .u16 0, .int .u16 0, .slice none 0 0] 40)) (v := .pointer (some ⟨X.heap.size, 0, none⟩)) (by rfl) rfl ?_ ?_
                    · go_simp
                      try rfl
                    obtain ⟨Y1, hY1⟩ : ∃ Y1, X.alloc (.cells #[.bool false, .int .u16 0, .int .u8 0, .int .u8 0, .int .u32 0, .int .u32 0, .int .u16 0, .int .u16 0, .slice none 0 0] 40) = Y1 := ⟨_, rfl⟩
                    have HY1 := Aside0.mk (alloc1 hY1)
                    rw [hY1]
                    have hS_ : Below X.heap.size X Y1 := below_then hJ hJ.size HY1.out.1
                    clear hY1
                    refine hK.out _ _ hS_ (fun hJ_12 => ?_)
                    clear hS_
                    clear hK K
                    refine norm_ (a' := ?_) ?_ ?_
                    rotate_left
                    · show Act.put _ (some 14) _ = _
                      simp only [Act.put, List.setIfInBounds_toArray, List.set_cons_zero, List.set_cons_succ, i64_w, i32_w]
                      rfl
                    refine one_ (i := 11) (N := some 13) #[true, true, true, true, true, true, true, true, true, true, true, true, true, false, false] rfl rfl (by kernel_rfl) (by decide) (fun K hK => ?_)
                    refine value_ (w1 := Y1.alloc (.cells #[.bool false, .int .u16 0, .int .u8 0, .int .u8 0, .int .u32 0, .int .u32 0, .int .u16 0, .int .u16 0, .slice none 0 0] 40)) (v := .pointer (some ⟨Y1.heap.size, 0, none⟩)) (by rfl) rfl ?_ ?_
                    · go_simp
                      try rfl
                    obtain ⟨Y2, hY2⟩ : ∃ Y2, Y1.alloc (.cells #[.bool false, .int .u16 0, .int .u8 0, .int .u8 0, .int .u32 0, .int .u32 0, .int .u16 0, .int .u16 0, .slice none 0 0] 40) = Y2 := ⟨_, rfl⟩
                    have HY2 := Aside0.mk (alloc1 hY2)
                    rw [hY2]
                    have hS_ : Below X.heap.size X Y2 := below_then hJ_12 hJ_12.size HY2.out.1
                    clear hY2
                    refine hK.out _ _ hS_ (fun hJ_12_11 => ?_)
                    clear hS_
                    clear hK K
                    refine norm_ (a' := ?_) ?_ ?_
                    rotate_left
                    · show Act.put _ (some 13) _ = _
                      simp only [Act.put, List.setIfInBounds_toArray, List.set_cons_zero, List.set_cons_succ, i64_w, i32_w]
                      rfl
                    refine one_ (i := 13) (N := none) #[true, true, true, true, true, true, true, true, true, true, true, true, true, true, false] rfl rfl (by kernel_rfl) (by decide) (fun K hK => ?_)
                    have hb13 : Y2.heap[Y1.heap.size]? = some (.cells #[.bool false, .int .u16 0, .int .u8 0, .int .u8 0, .int .u32 0, .int .u32 0, .int .u16 0, .int .u16 0, .slice none 0 0] 40 (0, 0)) := HY2.out.2.2
                    have hb14 : Y2.heap[X.heap.size]? = some (.cells #[.bool false, .int .u16 0, .int .u8 0, .int .u8 0, .int .u32 0, .int .u32 0, .int .u16 0, .int .u16 0, .slice none 0 0] 40 (0, 0)) := (HY2.out.1.block _ (blk_lt HY1.out.2.2)).trans HY1.out.2.2
                    have HB13 := Aside0.mk hb13
                    clear hb13
                    refine store_step 40 _ _ Y1.heap.size 0 _ #[.bool x.f0, .int .u16 x.f1, .int .u8 x.f2.f0, .int .u8 x.f2.f1, .int .u32 x.f2.f2, .int .u32 x.f2.f3, .int .u16 x.f2.f4, .int .u16 x.f2.f5, .slice Ax x.f2.f6.length cx] 40 (.agg #[.bool x.f0, .int .u16 x.f1, .int .u8 x.f2.f0, .int .u8 x.f2.f1, .int .u32 x.f2.f2, .int .u32 x.f2.f3, .int .u16 x.f2.f4, .int .u16 x.f2.f5, .slice Ax x.f2.f6.length cx]) [.bool x.f0, .int .u16 x.f1, .int .u8 x.f2.f0, .int .u8 x.f2.f1, .int .u32 x.f2.f2, .int .u32 x.f2.f3, .int .u16 x.f2.f4, .int .u16 x.f2.f5, .slice Ax x.f2.f6.length cx] (by rfl) rfl rfl rfl HB13.out rfl (by kernel_rfl) (by simp) (by simp [Value.oneCell']) (by simp) ?_
                    intro w5 ew5 hsw5
                    have HEw5 := Aside0.mk ew5; have HSw5 := Aside0.mk hsw5
                    clear ew5 hsw5
                    have hS_ : Below X.heap.size X w5 := HSw5.out.on (by have := HY1.out.2.1; omega) hJ_12_11
                    refine hK.out _ _ hS_ (fun hJ_12_11_13 => ?_)
                    clear hS_
                    clear hK K
                    refine norm_ (a' := ?_) ?_ ?_
                    rotate_left
                    · show Act.put _ (none) _ = _
                      simp only [Act.put, List.setIfInBounds_toArray, List.set_cons_zero, List.set_cons_succ, i64_w, i32_w]
                      rfl
                    refine last_ (i := 14) (N := none) #[true, true, true, true, true, true, true, true, true, true, true, true, true, true, true] rfl rfl (by kernel_rfl) (by decide) (fun K hK => ?_)
                    have HB14 := Aside0.mk (HSw5.out.blk (by have := HY1.out.2.1; omega) hb14)
                    refine store_step 40 _ _ X.heap.size 0 _ #[.bool y.f0, .int .u16 y.f1, .int .u8 y.f2.f0, .int .u8 y.f2.f1, .int .u32 y.f2.f2, .int .u32 y.f2.f3, .int .u16 y.f2.f4, .int .u16 y.f2.f5, .slice A8 y.f2.f6.length c8] 40 (.agg #[.bool y.f0, .int .u16 y.f1, .int .u8 y.f2.f0, .int .u8 y.f2.f1, .int .u32 y.f2.f2, .int .u32 y.f2.f3, .int .u16 y.f2.f4, .int .u16 y.f2.f5, .slice A8 y.f2.f6.length c8]) [.bool y.f0, .int .u16 y.f1, .int .u8 y.f2.f0, .int .u8 y.f2.f1, .int .u32 y.f2.f2, .int .u32 y.f2.f3, .int .u16 y.f2.f4, .int .u16 y.f2.f5, .slice A8 y.f2.f6.length c8] (by rfl) rfl rfl rfl HB14.out rfl (by kernel_rfl) (by simp) (by simp [Value.oneCell']) (by simp) ?_
                    intro w6 ew6 hsw6
                    have HEw6 := Aside0.mk ew6; have HSw6 := Aside0.mk hsw6
                    clear ew6 hsw6
                    refine hK.out _ _ ?_
                    clear hK K
                    refine norm_ (a' := ?_) ?_ ?_
                    rotate_left
                    · show Act.put _ (none) _ = _
                      simp only [Act.put, List.setIfInBounds_toArray, List.set_cons_zero, List.set_cons_succ, i64_w, i32_w]
                      rfl
                    refine done_ (by kernel_rfl) ?_
                    clear hb14
                    have hx13 : w6.heap[Y1.heap.size]? = some (.cells #[.bool x.f0, .int .u16 x.f1, .int .u8 x.f2.f0, .int .u8 x.f2.f1, .int .u32 x.f2.f2, .int .u32 x.f2.f3, .int .u16 x.f2.f4, .int .u16 x.f2.f5, .slice Ax x.f2.f6.length cx] 40 (0, 0)) := (HSw6.out.far _ (by have := HY1.out.2.1; omega)).trans HEw5.out
                    have hy14 := HEw6.out
                    have HBI : Aside0 (Below w3.heap.size w3 w6) := ⟨(HSw6.out.on (by have h1 := HY1.out.2.1; have h2 := HBX.out.size; omega) (HSw5.out.on (by have h1 := HY1.out.2.1; have h2 := HBX.out.size; omega) (below_then (below_then HBX.out HBX.out.size HY1.out.1) (Nat.le_trans HBX.out.size HY1.out.1.size) HY2.out.1)))⟩
                    have j1 : w6.cell? ⟨Y1.heap.size, 1, none⟩ = some (.int .u16 x.f1) := (blk_cell hx13 1).trans rfl
                    have j4 : w6.cell? ⟨Y1.heap.size, 4, none⟩ = some (.int .u32 x.f2.f2) := (blk_cell hx13 4).trans rfl
                    have j5 : w6.cell? ⟨Y1.heap.size, 5, none⟩ = some (.int .u32 x.f2.f3) := (blk_cell hx13 5).trans rfl
                    have m1 : w6.cell? ⟨X.heap.size, 1, none⟩ = some (.int .u16 y.f1) := (blk_cell hy14 1).trans rfl
                    have m4 : w6.cell? ⟨X.heap.size, 4, none⟩ = some (.int .u32 y.f2.f2) := (blk_cell hy14 4).trans rfl
                    have m5 : w6.cell? ⟨X.heap.size, 5, none⟩ = some (.int .u32 y.f2.f3) := (blk_cell hy14 5).trans rfl
                    clear hx13 hy14
                    rcases HCASE.out with hq | ⟨hq1, hq⟩ | ⟨hq1, hq2, hq⟩
                    all_goals
                      go_wp2
                      go_roundg (tl.length - (k + 1))
                      case measure => omega
                      case rel => exact ⟨k + 1, by omega, by omega, by go_num, HBI⟩
                · have hkk : k = tl.length := by omega
                  have r1 : ¬ ((k : Int) < (tl.length : Int)) := by omega
                  have HLQ : Aside0 ((tl.length + 1) * 8 ≤ 140737488355328) := ⟨by omega⟩
                  go_wp2_with (at_builtin; (with_reducible refine Kd.R_append (Kd.int .i64) (w0 := wr) 0 rfl _ _ 50 3 _ 8 rfl Try.underlying50 i3 rfl (by decide) (by decide) (.slice At tl.length ct) tl (j : Int) [.int .i64 j] (fun q => okT q ∨ wr.heap.size ≤ q) (fun _ => False) rfl rfl ?hp ?hokp ?hfresh ?hO ?hB (Nat.zero_le _) ?hl ?_); (case hp => rfl); (case hokp => exact fun _ h => h.elim); (case hfresh => exact fun _ h => .inr h); (case hO => exact Kd.R_mono HRTz.out (fun _ h => .inl h)); (case hB => exact Below.refl _ _); (case hl => exact HLQ.out); intro v7 w8 hO8 hb8 hg8 hat8; have HO8 := Aside0.mk hO8; have HB8 := Aside0.mk hb8; have HG8 := Aside0.mk hg8; clear hO8 hb8 hg8 hat8)
                  go_roundg (l1.length - (j + 1))
                  case measure => omega
                  case rel =>
                    have hF8 : Fr (fun q => some q = (Value.slice At tl.length ct).ownBlock) wr w8 := ⟨HG8.out.os, HG8.out.tape, HG8.out.output, HG8.out.size, fun q hq hn => HG8.out.block q hq hn⟩
                    have hown : ∀ q, some q = (Value.slice At tl.length ct).ownBlock → okT q := fun q hq => HRTz.out.1 q hq.symm
                    refine ⟨j + 1, own4, os4, r.1.2, n4, tl ++ [(j : Int)], fun q => (okT q ∨ wr.heap.size ≤ q) ∧ q < w8.heap.size, by omega, by omega, by go_num, ⟨?_⟩, HI4, HG4, ⟨HPL.out.2.1⟩, ⟨by rw [List.length_append, List.length_singleton]; have := HN.out; have := HN4.out; omega⟩, ⟨?_⟩, ⟨Kd.R_mono (Kd.R_bound HO8.out) (fun q hq => ⟨hq.1, hq.2.2.1⟩)⟩, ⟨fun q hq => ?_⟩, HO4, ⟨HBq.out.trans ⟨HG8.out.os, HG8.out.tape, HG8.out.output, by have := HBq.out.size; have := HG8.out.size; omega, fun q hq => HG8.out.block q (Nat.lt_of_lt_of_le hq HBq.out.size) (fun e => by have := (HOT4.out q (hown q e)).1; omega)⟩⟩⟩
                    · obtain ⟨t9, b9, oT9, h9⟩ := HAz.out
                      exact ⟨t9, b9, oT9, h9.frame hF8 (fun q hq e => (HOT4.out q (hown q e)).2.2 hq)⟩
                    · intro z hz
                      rcases List.mem_append.1 hz with hz | hz
                      · exact HTO4.out z hz
                      · obtain rfl := List.mem_singleton.1 hz
                        refine ⟨by omega, by omega, ?_⟩
                        rw [HY.out]
                        exact HFR.out.2
                    · rcases hq.1 with h | h
                      · exact ⟨(HOT4.out q h).1, hq.2, (HOT4.out q h).2.2⟩
                      · refine ⟨Nat.le_trans HBq.out.size h, hq.2, fun e => ?_⟩
                        have := HAz.out.lt q e
                        omega
        · have p1 : ¬ ((j : Int) < (l1.length : Int)) := by omega
          go_wp2_with fail
          refine (HAW.out _ HB.out).mono ?_
          rintro e9 w9 ⟨rfl, hb9⟩
          have HB9 := Aside0.mk hb9
          clear hb9
          go_wp2_with fail
          go_ret
          exact ⟨rfl, HB9.out⟩
    · have HB2 := Aside0.mk (below_then HB1.out HB1.out.size hb2)
      clear hb2 x0 x1 x2 hlim
      go_wp2_with fail
      refine (HAW.out _ HB2.out).mono ?_
      rintro e9 w9 ⟨rfl, hb9⟩
      have HB9 := Aside0.mk hb9
      clear hb9
      go_wp2_with fail
      go_ret
      exact ⟨rfl, HB9.out⟩
#print axioms once_calls
end Go.Proofs.Ytaeelmkpjgmdlaa.H
