/- Mine. Chapter 31, by hand: jobs.Late. -/
import Derived.Test.YtcnkmajengephaaHE
namespace Go.Proofs.Ytcnkmajengephaa.H
open Go Go.Proofs Go.RowKit Go.Lib Go.Proofs.Ytcnkmajengephaa.P Go.Proofs.YtcnkmajengephaaW.PrintWords Go.Proofs.YtcnkmajengephaaW.PrintLast Go.Proofs.YtcnkmajengephaaW.PrintMore
set_option linter.unusedVariables false
set_option linter.unusedSimpArgs false
def keepJ (clk : Int) (j : S36) : Bool := decide (j.f1 = 1) || decide (clk ≤ j.f11)
def toldL (r : List S51) (j : S36) (has : Bool) (val : ByteArray) (e : Int) : List S51 := if j.f1 = 2 ∨ j.f1 = 3 then last16 (r ++ [⟨j.f0, j.f1, j.f3, val, has, e⟩]) else r
def resStep (clk : Int) (r : List S51) (j : S36) : List S51 := if keepJ clk j = true then r else toldL r j false ⟨#[]⟩ 18
def resAll (clk : Int) (r : List S51) (l : List S36) : List S51 := l.foldl (resStep clk) r
def resK (n : ND) (k : Nat) : List S51 := resAll n.a2 n.l10 (n.l9.take k)
def restK (n : ND) (k : Nat) : List S36 := (n.l9.take k).filter (keepJ n.a2)
def lateN (n : ND) : ND := { n with l9 := n.l9.filter (keepJ n.a2), l10 := resAll n.a2 n.l10 n.l9 }
theorem rd36 (l : List S36) (k : Nat) (h : k < l.length) : rd_T36 l (k : Int) = l[k] := by
  unfold rd_T36
  simp [List.getD_eq_getElem?_getD, h]
theorem take36 (l : List S36) (k : Nat) (h : k < l.length) : l.take (k + 1) = l.take k ++ [rd_T36 l (k : Int)] := by
  rw [List.take_succ_eq_append_getElem h, rd36 l k h]
theorem restK_succ (n : ND) (k : Nat) (h : k < n.l9.length) : restK n (k + 1) = restK n k ++ (if keepJ n.a2 (rd_T36 n.l9 k) = true then [rd_T36 n.l9 k] else []) := by
  unfold restK
  rw [take36 n.l9 k h, List.filter_append]
  congr 1
  by_cases hk : keepJ n.a2 (rd_T36 n.l9 (k : Int)) = true
  · rw [if_pos hk]; simp [hk]
  · rw [if_neg hk]; simp [hk]
theorem resK_succ (n : ND) (k : Nat) (h : k < n.l9.length) : resK n (k + 1) = resStep n.a2 (resK n k) (rd_T36 n.l9 k) := by
  unfold resK resAll
  rw [take36 n.l9 k h, List.foldl_append]
  rfl
theorem resStep_len (clk : Int) (r : List S51) (j : S36) (m : Nat) (h : r.length ≤ m) (hm : 16 ≤ m) : (resStep clk r j).length ≤ m := by
  unfold resStep
  split
  · exact h
  · unfold toldL
    split
    · unfold last16; rw [List.length_drop]; omega
    · exact h
theorem resAll_len (clk : Int) (m : Nat) (hm : 16 ≤ m) : ∀ (l : List S36) (r : List S51), r.length ≤ m → (resAll clk r l).length ≤ m
  | [], r, h => h
  | j :: l, r, h => resAll_len clk m hm l _ (resStep_len clk r j m h hm)
theorem toldN_res (n : ND) (r : List S51) (j : S36) (has : Bool) (val : ByteArray) (e : Int) : toldN { n with l10 := r } j has val e = { n with l10 := toldL r j has val e } := rfl
theorem Tf.R' {α : Type} {d : Kd α} {e t base g b : Nat} {V V' : World} {ok : Nat → Prop} {v : Value} {xs : List α} (h : Tf t base g V V') (hR : d.R e V b ok v xs) (ht : t ∉ e :: d.E) (hg : g < b) : d.R e V' b ok v xs := by
  refine Kd.R_mono (Kd.R_step (Kd.R_bound hR) (fun k hk hlt => h.keep k hlt (by have := hk.2.1; omega) (.inr (fun c hc => ?_)))) (fun _ hk => hk.1)
  obtain ⟨_, _, _, q, hq, c', hc'⟩ := hk
  rw [hc] at hc'
  injection hc' with hc'
  injection hc' with _ hqq _
  exact ht (by rw [hqq]; exact hq)
/-- The loop's state. -/
structure LateI (w : World) (b1 b2 g : Nat) (n : ND) (s1 : NA) (k : Nat) (A3 : Option Addr) (c3 : Nat) (A10 : Option Addr) (c10 : Nat) (wr : World) : Prop where
  bel : Below w.heap.size w wr
  box : wr.heap[g]? = some (.cells #[.int .u64 n.a0, .int .u16 n.a1, .int .i64 n.a2, .bool n.a3, .slice s1.A4 n.l4.length s1.c4, .slice s1.A5 n.l5.length s1.c5, .slice s1.A6 n.l6.length s1.c6, .slice s1.A7 n.l7.length s1.c7, .slice s1.A8 n.l8.length s1.c8, .slice s1.A9 n.l9.length s1.c9, .slice A10 (resK n k).length c10, .int .u32 n.a11, .int .i64 n.a12, .int .i64 n.a13] 34 (0, 0))
  res : wr.heap[g + 1]? = some (.cells #[.int .u64 0, .int .u16 0, .int .i64 0, .bool false, .slice none 0 0, .slice none 0 0, .slice none 0 0, .slice none 0 0, .slice none 0 0, .slice none 0 0, .slice none 0 0, .int .u32 0, .int .i64 0, .int .i64 0] 34 (0, 0))
  nr : NR wr b1 { n with l10 := resK n k } { s1 with A10 := A10, c10 := c10 }
  jobs : Kd.R k36 36 wr b1 (fun q => q < b2) (.slice s1.A9 n.l9.length s1.c9) n.l9
  rest : Kd.R k36 36 wr b2 (fun _ => True) (.slice A3 (restK n k).length c3) (restK n k)
  size : b2 ≤ wr.heap.size
  lo : w.heap.size ≤ g
  g1 : g + 1 < b1
  g2 : b1 ≤ b2
theorem LateI.below {w : World} {b1 b2 g : Nat} {n : ND} {s1 : NA} {k : Nat} {A3 : Option Addr} {c3 : Nat} {A10 : Option Addr} {c10 : Nat} {V V' : World} (h : LateI w b1 b2 g n s1 k A3 c3 A10 c10 V) (hb : Below V.heap.size V V') : LateI w b1 b2 g n s1 k A3 c3 A10 c10 V' :=
  ⟨below_then h.bel h.bel.size hb, (hb.block _ (blk_lt h.box)).trans h.box, (hb.block _ (blk_lt h.res)).trans h.res, h.nr.below hb, Kd.R_below h.jobs hb, Kd.R_below h.rest hb, Nat.le_trans h.size hb.size, h.lo, h.g1, h.g2⟩
theorem LateI.append {w : World} {b1 b2 g : Nat} {n : ND} {s1 : NA} {k : Nat} {A3 : Option Addr} {c3 : Nat} {A10 : Option Addr} {c10 : Nat} {V V' : World} {A4 : Option Addr} {c4 : Nat} (h : LateI w b1 b2 g n s1 k A3 c3 A10 c10 V) (hg : V.grownBy V' (Value.slice A3 (restK n k).length c3).ownBlock)
    (hR : Kd.R k36 36 V' b2 (fun _ => True) (.slice A4 (restK n (k + 1)).length c4) (restK n (k + 1))) (hres : resK n (k + 1) = resK n k) : LateI w b1 b2 g n s1 (k + 1) A4 c4 A10 c10 V' := by
  have hrow : ∀ q, (Value.slice A3 (restK n k).length c3).ownBlock = some q → b2 ≤ q ∧ ∃ c, V.heap[q]? = some (.cells c 36 (0, 0)) := fun q hq => by
    obtain ⟨_, h2, _, q', hq', c', hc'⟩ := (Kd.R_bound h.rest).1 q hq
    have h36 : q' = 36 := by
      have : q' ∈ [36] := hq'
      simpa using this
    rw [h36] at hc'
    exact ⟨h2, c', hc'⟩
  have hgb := h.g1
  have hbb := h.g2
  have hT : Tf 36 b2 g V V' := Tf.grown hg hrow
  have hlow : ∀ q, q < b2 → q < V.heap.size → V'.heap[q]? = V.heap[q]? := fun q h1 h2 => hg.block q h2 (fun e => by have := (hrow q e.symm).1; omega)
  have hj : Kd.R k36 36 V' b1 (fun q => q < b2) (.slice s1.A9 n.l9.length s1.c9) n.l9 := Kd.R_step h.jobs (fun q hq hlt => hlow q hq hlt)
  refine ⟨⟨hg.os.trans h.bel.os, hg.tape.trans h.bel.tape, hg.output.trans h.bel.output, Nat.le_trans h.bel.size hg.size, fun q hq => (hlow q (by have := h.lo; omega) (Nat.lt_of_lt_of_le hq h.bel.size)).trans (h.bel.block q hq)⟩, ?_, (hlow _ (by omega) (blk_lt h.res)).trans h.res, ?_, hj, hR, Nat.le_trans h.size hg.size, h.lo, h.g1, h.g2⟩
  · rw [hres]; exact (hlow _ (by omega) (blk_lt h.box)).trans h.box
  · rw [hres]
    exact ⟨hT.R' h.nr.o4 (by decide) (by omega), hT.R' h.nr.o5 (by decide) (by omega), hT.R' h.nr.o6 (by decide) (by omega), hT.R' h.nr.o7 (by decide) (by omega), hT.R' h.nr.o8 (by decide) (by omega), Kd.R_mono hj (fun _ _ => trivial), hT.R' h.nr.o10 (by decide) (by omega)⟩
theorem LateI.told {w : World} {b1 b2 g : Nat} {n : ND} {s1 : NA} {k : Nat} {A3 : Option Addr} {c3 : Nat} {A10 : Option Addr} {c10 : Nat} {V V' : World} {A : Option Addr} {c : Nat} (h : LateI w b1 b2 g n s1 k A3 c3 A10 c10 V) (hT : Tf 51 b1 g V V')
    (hbx : V'.heap[g]? = some (.cells #[.int .u64 n.a0, .int .u16 n.a1, .int .i64 n.a2, .bool n.a3, .slice s1.A4 n.l4.length s1.c4, .slice s1.A5 n.l5.length s1.c5, .slice s1.A6 n.l6.length s1.c6, .slice s1.A7 n.l7.length s1.c7, .slice s1.A8 n.l8.length s1.c8, .slice s1.A9 n.l9.length s1.c9, .slice A (resK n (k + 1)).length c, .int .u32 n.a11, .int .i64 n.a12, .int .i64 n.a13] 34 (0, 0))) (hN : NR V' b1 { n with l10 := resK n (k + 1) } { s1 with A10 := A, c10 := c }) (hrest : restK n (k + 1) = restK n k) : LateI w b1 b2 g n s1 (k + 1) A3 c3 A c V' := by
  have hgb := h.g1
  have hbb := h.g2
  refine ⟨hT.on h.bel (by have := h.lo; omega) h.lo, hbx, (hT.keep _ (blk_lt h.res) (by omega) (.inl (by omega))).trans h.res, hN, hT.R' h.jobs (by decide) (by omega), ?_, Nat.le_trans h.size hT.size, h.lo, h.g1, h.g2⟩
  rw [hrest]
  exact hT.R' h.rest (by decide) (by omega)
set_option maxRecDepth 100000 in
set_option maxHeartbeats 8000000 in
theorem late_ok (n : ND) (s : NA) (w : World) (h : NC w n s) (hb : NB n) (hl10 : n.l10.length ≤ 100000) (hl9 : n.l9.length ≤ 100000) :
    Calls Try.prog 13 #[nv n s] w (NodeP (lateN n) w) := by
  obtain ⟨g, hg⟩ : ∃ g, w.heap.size = g := ⟨_, rfl⟩
  obtain ⟨W, hW⟩ : ∃ W, (w.alloc (.cells #[.int .u64 n.a0, .int .u16 n.a1, .int .i64 n.a2, .bool n.a3, .slice s.A4 n.l4.length s.c4, .slice s.A5 n.l5.length s.c5, .slice s.A6 n.l6.length s.c6, .slice s.A7 n.l7.length s.c7, .slice s.A8 n.l8.length s.c8, .slice s.A9 n.l9.length s.c9, .slice s.A10 n.l10.length s.c10, .int .u32 n.a11, .int .i64 n.a12, .int .i64 n.a13] 34)).alloc (.cells #[.int .u64 0, .int .u16 0, .int .i64 0, .bool false, .slice none 0 0, .slice none 0 0, .slice none 0 0, .slice none 0 0, .slice none 0 0, .slice none 0 0, .slice none 0 0, .int .u32 0, .int .i64 0, .int .i64 0] 34) = W := ⟨_, rfl⟩
  obtain ⟨hbW, hsW, e5, e10⟩ := alloc2 hW
  rw [hg] at hsW e5 e10
  have HCP := Aside0.mk (copy_ok n s W (h.below hbW) hb)
  have HBW := Aside0.mk hbW
  have HSW := Aside0.mk hsW
  have HE10 := Aside0.mk e10
  have HE5 := Aside0.mk e5
  have HGG := Aside0.mk hg
  have HL := Aside0.mk (And.intro hl10 hl9)
  clear h hb hbW hsW e10 hl10 hl9
  go_enter Try.func13, Try.ntmps13
  go_wp2_with (refine gate_ (.load 34 (.tmp 1)) rfl ?_; refine wpList_load_row rfl 34 _ rfl (g) rfl 34 _ (0, 0) _ e5 Try.underlying34 rfl (by kernel_rfl) ?_)
  refine HCP.out.mono ?_
  rintro e w1 ⟨s1, rfl, hR1, hb1⟩
  have HR1 := Aside0.mk hR1
  have HB1 := Aside0.mk hb1
  have f5 := (hb1.block g (blk_lt HE5.out)).trans HE5.out
  have F10 := Aside0.mk ((hb1.block _ (blk_lt HE10.out)).trans HE10.out)
  clear hR1 hb1 e5 hW
  go_wp2_with ((refine store_box (.store 34 (.tmp 1) (.tmp 7)) 34 _ _ (g) 0 _ #[.int .u64 n.a0, .int .u16 n.a1, .int .i64 n.a2, .bool n.a3, .slice s1.A4 n.l4.length s1.c4, .slice s1.A5 n.l5.length s1.c5, .slice s1.A6 n.l6.length s1.c6, .slice s1.A7 n.l7.length s1.c7, .slice s1.A8 n.l8.length s1.c8, .slice s1.A9 n.l9.length s1.c9, .slice s1.A10 n.l10.length s1.c10, .int .u32 n.a11, .int .i64 n.a12, .int .i64 n.a13] 34 _ [.int .u64 n.a0, .int .u16 n.a1, .int .i64 n.a2, .bool n.a3, .slice s1.A4 n.l4.length s1.c4, .slice s1.A5 n.l5.length s1.c5, .slice s1.A6 n.l6.length s1.c6, .slice s1.A7 n.l7.length s1.c7, .slice s1.A8 n.l8.length s1.c8, .slice s1.A9 n.l9.length s1.c9, .slice s1.A10 n.l10.length s1.c10, .int .u32 n.a11, .int .i64 n.a12, .int .i64 n.a13] rfl rfl rfl rfl rfl rfl f5 rfl (by kernel_rfl) (by simp) (by simp [Value.oneCell']) (by simp) ?_; intro w2 e5 hs2; have HS2 := Aside0.mk hs2; clear hs2 f5; refine hold_ ?_))
  intro _
  have c9 : w2.cell? ⟨g, 9, none⟩ = some (.slice s1.A9 n.l9.length s1.c9) := (blk_cell e5 9).trans rfl
  have HI0 : Aside0 (LateI w W.heap.size w2.heap.size g n s1 0 none 0 s1.A10 s1.c10 w2) := ⟨by
    have hr2 : NR w2 W.heap.size n s1 := HR1.out.step (fun k hk hlt => HS2.out.far k (by have := HSW.out; omega))
    have hz : W.heap.size ≤ w2.heap.size := by have := HS2.out.size; have := HB1.out.size; omega
    exact ⟨HS2.out.on (by have := HGG.out; omega) (below_then HBW.out HBW.out.size HB1.out), e5, HS2.out.blk (by omega) F10.out, hr2, Kd.R_mono (Kd.R_bound hr2.o9) (fun q hq => hq.2.2.1), Kd.R_nil _ _ _ _ _, Nat.le_refl _, by have := HGG.out; omega, by have := HSW.out; omega, hz⟩⟩
  have HLC := Aside0.mk HI0.out.nr.reads.q9
  clear e5
  go_wp2_with fail
  go_loopg [3, 11] n.l9.length (fun gg s3 s11 wr => ∃ (k : Nat) (A3 : Option Addr) (c3 : Nat) (A10 : Option Addr) (c10 : Nat), k ≤ n.l9.length ∧ n.l9.length - k ≤ gg ∧ s3 = .slice A3 (restK n k).length c3 ∧ s11 = .int .i64 k ∧ Aside0 (LateI w W.heap.size w2.heap.size g n s1 k A3 c3 A10 c10 wr))
  case atStart => exact ⟨0, none, 0, s1.A10, s1.c10, by omega, by omega, rfl, rfl, HI0⟩
  case round =>
    obtain ⟨k, A3, c3, A10, c10, hk, hgg, rfl, rfl, HI⟩ := hrel
    by_cases hlt : k < n.l9.length
    · have HLT := Aside0.mk hlt
      have hres1 := resK_succ n k hlt
      have hrest1 := restK_succ n k hlt
      obtain ⟨gr, hgr⟩ := own_form HI.out.jobs (by omega)
      obtain ⟨ad, had, x0, x1, x2, x3, x4, x5, x6, x7, x8, x9, x10, x11, x12, x13⟩ := at_T36 HI.out.nr.reads.r9 (k : Int) (Int.natCast_nonneg k) (by show (k : Int) < (n.l9.length : Int); omega)
      obtain rfl : ad = ⟨gr, 0, none⟩ := by
        have : s1.A9 = some ad := had
        rw [hgr] at this; injection this with this; exact this.symm
      obtain ⟨x, hx⟩ : ∃ x, rd_T36 n.l9 (k : Int) = x := ⟨_, rfl⟩
      rw [hx] at hres1 hrest1
      have hx0 : rd_T36 ({ n with l10 := resK n k } : ND).l9 (k : Int) = x := hx
      rw [hx0] at x0 x1 x2 x3 x4 x5 x6 x7 x8 x9 x10 x11 x12 x13
      simp only [add_at, Int.toNat_natCast] at x0 x1 x2 x3 x4 x5 x6 x7 x8 x9 x10 x11 x12 x13
      have p0 : (0 ≤ (k : Int)) = True := eq_true (by omega)
      have p1 : ((k : Int) < (n.l9.length : Int)) = True := eq_true (by omega)
      have hz := heap_alloc_new wr (.cells #[.int .i64 0, .int .i64 0, .int .i64 0, .string ⟨#[]⟩, .string ⟨#[]⟩, .int .u64 0, .int .u64 0, .int .u16 0, .int .u64 0, .int .u16 0, .bool false, .int .i64 0, .int .i64 0, .int .i64 0] 36)
      have HRES := Aside0.mk hres1
      have HREST := Aside0.mk hrest1
      have HGR := Aside0.mk hgr
      clear hres1 hrest1 had hx hx0
      rw [hgr]
      clear hgr
      go_wp2_with ((refine store_box (.store 36 (.tmp 5) (.tmp 14)) 36 _ _ (wr.heap.size) 0 _ #[.int .i64 x.f0, .int .i64 x.f1, .int .i64 x.f2, .string x.f3, .string x.f4, .int .u64 x.f5, .int .u64 x.f6.f0, .int .u16 x.f6.f1, .int .u64 x.f7.f0, .int .u16 x.f7.f1, .bool x.f8, .int .i64 x.f9, .int .i64 x.f10, .int .i64 x.f11] 36 _ [.int .i64 x.f0, .int .i64 x.f1, .int .i64 x.f2, .string x.f3, .string x.f4, .int .u64 x.f5, .int .u64 x.f6.f0, .int .u16 x.f6.f1, .int .u64 x.f7.f0, .int .u16 x.f7.f1, .bool x.f8, .int .i64 x.f9, .int .i64 x.f10, .int .i64 x.f11] rfl rfl rfl rfl rfl rfl hz rfl (by kernel_rfl) (by simp) (by simp [Value.oneCell']) (by simp) ?_; intro w3 e12 hs3; have HS3 := Aside0.mk hs3; clear hs3 hz; refine hold_ ?_))
      intro _
      have HB3 := Aside0.mk (sto_new HS3.out)
      have HI3 := Aside0.mk (HI.out.below HB3.out)
      have E12 := Aside0.mk e12
      clear x0 x1 x2 x3 x4 x5 x6 x7 x8 x9 x10 x11 x12 x13
      have t1 : w3.cell? ⟨wr.heap.size, 1, none⟩ = some (.int .i64 x.f1) := (blk_cell e12 1).trans rfl
      have t11 : w3.cell? ⟨wr.heap.size, 13, none⟩ = some (.int .i64 x.f11) := (blk_cell e12 13).trans rfl
      have t2 : w3.cell? ⟨g, 2, none⟩ = some (.int .i64 n.a2) := (blk_cell HI3.out.box 2).trans rfl
      have hkc : (keepJ n.a2 x = true ∧ ((x.f1 == 1) = true ∨ ((x.f1 == 1) = false ∧ n.a2 ≤ x.f11))) ∨ (keepJ n.a2 x = false ∧ (x.f1 == 1) = false ∧ ¬ n.a2 ≤ x.f11) := by
        unfold keepJ
        by_cases h1 : x.f1 = 1
        · exact .inl ⟨by simp [h1], .inl (by simp [h1])⟩
        · by_cases h2 : n.a2 ≤ x.f11
          · exact .inl ⟨by simp [h2], .inr ⟨by simp [h1], h2⟩⟩
          · exact .inr ⟨by simp [h1, h2], by simp [h1], h2⟩
      have HK1 : Aside0 (wrap64 ((k : Int) + 1) = ((k + 1 : Nat) : Int)) := ⟨by have := HL.out.2; unfold wrap64; omega⟩
      rcases hkc with ⟨hkp, hcc⟩ | ⟨hkp, h1, h2⟩
      · have hrest : restK n (k + 1) = restK n k ++ [x] := by rw [HREST.out, if_pos hkp]
        have hres : resK n (k + 1) = resK n k := by rw [HRES.out]; unfold resStep; rw [if_pos hkp]
        have HRS := Aside0.mk (And.intro hrest hres)
        have HLQ : Aside0 (((restK n k).length + 1) * 128 ≤ 140737488355328) := ⟨by
          have h1 : (restK n k).length ≤ (n.l9.take k).length := List.length_filter_le _ _
          rw [List.length_take] at h1
          have := HL.out.2; omega⟩
        clear hrest hres hkp
        rcases hcc with h1 | ⟨h1, h2⟩
        all_goals
          try replace h2 := eq_true h2
          go_wp2_with (first | (refine gate_ (.load 36 (.tmp 5)) rfl ?_; refine wpList_load_row rfl 36 _ rfl (wr.heap.size) rfl 36 _ (0, 0) _ e12 Try.underlying36 rfl (by kernel_rfl) ?_) | (at_builtin; refine Kd.R_append k36 (w0 := w3) w2.heap.size rfl _ _ 30 36 _ 128 rfl Try.underlying30 info36 rfl (by decide) (by decide) (.slice A3 (restK n k).length c3) (restK n k) x [.int .i64 x.f0, .int .i64 x.f1, .int .i64 x.f2, .string x.f3, .string x.f4, .int .u64 x.f5, .int .u64 x.f6.f0, .int .u16 x.f6.f1, .int .u64 x.f7.f0, .int .u16 x.f7.f1, .bool x.f8, .int .i64 x.f9, .int .i64 x.f10, .int .i64 x.f11] (fun _ => True) (fun _ => False) rfl rfl (k36_mkM _ _ _ _) (fun _ h => h.elim) (fun _ _ => trivial) HI3.out.rest (Below.refl _ _) HI3.out.size HLQ.out ?_; intro v4 w4 hO4 hb4 hg4 _; rw [← HRS.out.1] at hO4; obtain ⟨A4, c4, rfl, _, _⟩ := Kd.R_reads hO4; have HO4 := Aside0.mk hO4; have HG4 := Aside0.mk hg4; clear hO4 hb4 hg4 t1 t2 t11 e12))
          rw [← HGR.out]
          go_roundg (n.l9.length - (k + 1))
          case measure => have := HLT.out; omega
          case rel => exact ⟨k + 1, A4, c4, A10, c10, HLT.out, Nat.le_refl _, rfl, by rw [HK1.out], ⟨HI3.out.append HG4.out HO4.out HRS.out.2⟩⟩
      · have hrest : restK n (k + 1) = restK n k := by rw [HREST.out, if_neg (by simp [hkp])]; simp
        have hres : resK n (k + 1) = toldL (resK n k) x false ⟨#[]⟩ 18 := by rw [HRES.out]; unfold resStep; rw [if_neg (by simp [hkp])]
        have HRS := Aside0.mk (And.intro hrest hres)
        have htd := told_ok { n with l10 := resK n k } { s1 with A10 := A10, c10 := c10 } x false ⟨#[]⟩ 18 g W.heap.size w3 HI3.out.box HI3.out.nr (by have := HSW.out; omega) (Nat.le_trans HI3.out.g2 HI3.out.size) (by
          show (resK n k).length ≤ 100000
          exact resAll_len n.a2 100000 (by omega) (n.l9.take k) n.l10 HL.out.1)
        rw [toldN_res, ← hres] at htd
        have HTD := Aside0.mk htd
        have h2' := eq_false h2
        clear hrest hres hkp htd h2
        go_wp2_with (refine gate_ (.load 36 (.tmp 5)) rfl ?_; refine wpList_load_row rfl 36 _ rfl (wr.heap.size) rfl 36 _ (0, 0) _ e12 Try.underlying36 rfl (by kernel_rfl) ?_)
        refine HTD.out.mono ?_
        rintro e4 w4 ⟨rfl, A, c, hbx, hN, hT⟩
        have HI4 : Aside0 (LateI w W.heap.size w2.heap.size g n s1 (k + 1) A3 c3 A c w4) := ⟨HI3.out.told hT hbx hN HRS.out.1⟩
        have HRL := Aside0.mk (congrArg List.length HRS.out.1)
        clear hbx hN hT t1 t2 t11 e12 h2'
        go_wp2_with fail
        rw [← HGR.out]
        go_roundg (n.l9.length - (k + 1))
        case measure => have := HLT.out; omega
        case rel => exact ⟨k + 1, A3, c3, A, c, HLT.out, Nat.le_refl _, by rw [HRL.out], by rw [HK1.out], HI4⟩
    · obtain rfl : k = n.l9.length := by omega
      have p1 : ((n.l9.length : Int) < (n.l9.length : Int)) = False := eq_false (by omega)
      have hrest : restK n n.l9.length = n.l9.filter (keepJ n.a2) := by unfold restK; rw [List.take_length]
      have hres : resK n n.l9.length = resAll n.a2 n.l10 n.l9 := by unfold resK; rw [List.take_length]
      have HRS := Aside0.mk (And.intro hrest hres)
      have e5 := HI.out.box
      have f10 := HI.out.res
      clear hrest hres
      go_wp2_with ((refine store_box (.store 30 (.tmp 33) (.tmp 32)) 30 _ _ (g) 9 _ #[.int .u64 n.a0, .int .u16 n.a1, .int .i64 n.a2, .bool n.a3, .slice s1.A4 n.l4.length s1.c4, .slice s1.A5 n.l5.length s1.c5, .slice s1.A6 n.l6.length s1.c6, .slice s1.A7 n.l7.length s1.c7, .slice s1.A8 n.l8.length s1.c8, .slice A3 (restK n n.l9.length).length c3, .slice A10 (resK n n.l9.length).length c10, .int .u32 n.a11, .int .i64 n.a12, .int .i64 n.a13] 34 _ [.slice A3 (restK n n.l9.length).length c3] rfl rfl rfl rfl rfl rfl e5 rfl (by kernel_rfl) (by simp) (by simp [Value.oneCell']) (by simp) ?_; intro w3 e6 hs3; have HS3 := Aside0.mk hs3; clear hs3 e5; refine hold_ ?_))
      intro _
      have f10' := HS3.out.blk (by omega) f10
      clear f10
      go_wp2_with (first | (refine gate_ (.load 34 (.tmp 1)) rfl ?_; refine wpList_load_row rfl 34 _ rfl (g) rfl 34 _ (0, 0) _ e6 Try.underlying34 rfl (by kernel_rfl) ?_) | (refine store_box (.store 34 (.tmp 2) (.tmp 34)) 34 _ _ (g + 1) 0 _ #[.int .u64 n.a0, .int .u16 n.a1, .int .i64 n.a2, .bool n.a3, .slice s1.A4 n.l4.length s1.c4, .slice s1.A5 n.l5.length s1.c5, .slice s1.A6 n.l6.length s1.c6, .slice s1.A7 n.l7.length s1.c7, .slice s1.A8 n.l8.length s1.c8, .slice A3 (restK n n.l9.length).length c3, .slice A10 (resK n n.l9.length).length c10, .int .u32 n.a11, .int .i64 n.a12, .int .i64 n.a13] 34 _ [.int .u64 n.a0, .int .u16 n.a1, .int .i64 n.a2, .bool n.a3, .slice s1.A4 n.l4.length s1.c4, .slice s1.A5 n.l5.length s1.c5, .slice s1.A6 n.l6.length s1.c6, .slice s1.A7 n.l7.length s1.c7, .slice s1.A8 n.l8.length s1.c8, .slice A3 (restK n n.l9.length).length c3, .slice A10 (resK n n.l9.length).length c10, .int .u32 n.a11, .int .i64 n.a12, .int .i64 n.a13] rfl rfl rfl rfl rfl rfl f10' rfl (by kernel_rfl) (by simp) (by simp [Value.oneCell']) (by simp) ?_; intro w4 e7 hs4; have HS4 := Aside0.mk hs4; obtain ⟨y0, y1, y2, y3, y4, y5, y6, y7, y8, y9, y10, y11, y12, y13, _⟩ := box14f e7; clear hs4 f10' e6))
      refine bodyPost_ret (v := nv { n with l9 := restK n n.l9.length, l10 := resK n n.l9.length } { s1 with A9 := A3, c9 := c3, A10 := A10, c10 := c10 }) ?hres rfl ?_
      case hres =>
        simp only [results, Try.f13]
        go_simp
      have he : lateN n = { n with l9 := restK n n.l9.length, l10 := resK n n.l9.length } := by unfold lateN; rw [HRS.out.1, HRS.out.2]
      rw [he]
      have hgb := HI.out.g1
      have hgc := HI.out.g2
      have hfar : ∀ q, W.heap.size ≤ q → q < wr.heap.size → w4.heap[q]? = wr.heap[q]? := fun q hq _ => (HS4.out.far q (by omega)).trans (HS3.out.far q (by omega))
      have hn := HI.out.nr.step hfar
      have hr9 : Kd.R k36 36 w4 w2.heap.size (fun _ => True) (.slice A3 (restK n n.l9.length).length c3) (restK n n.l9.length) := Kd.R_mono (Kd.R_step (Kd.R_bound HI.out.rest) (fun q hq hlt => hfar q (by have := hq.2.1; omega) hlt)) (fun _ _ => trivial)
      have hle : w.heap.size ≤ W.heap.size := HBW.out.size
      exact ⟨_, rfl, ⟨Kd.R_lower hn.o4 hle, Kd.R_lower hn.o5 hle, Kd.R_lower hn.o6 hle, Kd.R_lower hn.o7 hle, Kd.R_lower hn.o8 hle, Kd.R_lower hr9 (Nat.le_trans hle hgc), Kd.R_lower hn.o10 hle⟩, HS4.out.on (by have := HGG.out; omega) (HS3.out.on (by have := HGG.out; omega) HI.out.bel)⟩
#print axioms late_ok
end Go.Proofs.Ytcnkmajengephaa.H
