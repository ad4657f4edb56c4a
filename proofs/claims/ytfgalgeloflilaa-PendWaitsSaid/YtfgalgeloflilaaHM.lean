/- Mine. Chapter 30, by hand: the law PendTakes. -/
import Derived.Test.YtfgalgeloflilaaHKL
namespace Go.Proofs.Ytfgalgeloflilaa.H
open Go Go.Proofs Go.RowKit Go.Lib Go.Proofs.Ytfgalgeloflilaa.P Go.Proofs.YtfgalgeloflilaaW.PrintWords Go.Proofs.YtfgalgeloflilaaW.PrintLast Go.Proofs.YtfgalgeloflilaaW.PrintMore
set_option linter.unusedVariables false
set_option linter.unusedSimpArgs false
attribute [local go_sem high] eqA51
/-- The box of the law's node, and what was before. -/
structure TkS (w : World) (g : Nat) (c : Array Value) (V : World) : Prop where
  bel : Below w.heap.size w V
  blk : V.heap[g]? = some (.cells c 34 (0, 0))
theorem TkS.go {w V V' : World} {g : Nat} {c : Array Value} (h : TkS w g c V) (hb : Below V.heap.size V V') : TkS w g c V' := ⟨below_then h.bel h.bel.size hb, (hb.block g (blk_lt h.blk)).trans h.blk⟩
theorem TkS.sto {w V V' : World} {g q : Nat} {c : Array Value} (h : TkS w g c V) (hs : Sto V V' q) (hq : w.heap.size ≤ q) (hne : g ≠ q) : TkS w g c V' := ⟨hs.on hq h.bel, hs.blk hne h.blk⟩
theorem two_new {w V V' : World} {a b c d : Obj} (hs : Sto ((w.alloc a).alloc b) V w.heap.size) (hs' : Sto V V' (w.heap.size + 1)) : Below w.heap.size w V' := by
  have h1 := alloc_size w a
  exact hs'.on (Nat.le_succ _) (hs.on (Nat.le_refl _) ((below_alloc (Below.refl _ _) _).alloc (by omega) _))
theorem two_at (w : World) (a b : Obj) : ((w.alloc a).alloc b).heap[w.heap.size]? = some a ∧ ((w.alloc a).alloc b).heap[w.heap.size + 1]? = some b := by
  have h1 := alloc_size w a
  exact ⟨(heap_alloc_old _ _ (by omega)).trans (heap_alloc_new w a), by rw [← h1]; exact heap_alloc_new _ _⟩
set_option maxRecDepth 100000 in
set_option maxHeartbeats 8000000 in
theorem takes_calls (n : ND) (s : NA) (rid i why job addr : Int) (w : World) (h : NC w n s) (hb : NB n) :
    Calls Try.prog 4 #[nv n s, .int .u32 rid, .int .i64 i, .int .i64 why, .int .i64 job, .int .u16 addr] w fun e w' => e = .returned (.bool true) ∧ Below w.heap.size w w' := by
  obtain ⟨lg, HLG, hlb⟩ := large_ok n s
  have HLG := Aside0.mk HLG
  obtain ⟨g, hg⟩ : ∃ g, w.heap.size = g := ⟨_, rfl⟩
  obtain ⟨W, hW⟩ : ∃ W, w.alloc (.cells #[.int .u64 n.a0, .int .u16 n.a1, .int .i64 n.a2, .bool n.a3, .slice s.A4 n.l4.length s.c4, .slice s.A5 n.l5.length s.c5, .slice s.A6 n.l6.length s.c6, .slice s.A7 n.l7.length s.c7, .slice s.A8 n.l8.length s.c8, .slice s.A9 n.l9.length s.c9, .slice s.A10 n.l10.length s.c10, .int .u32 n.a11, .int .i64 n.a12, .int .i64 n.a13] 34) = W := ⟨_, rfl⟩
  have e6 : W.heap[g]? = some (.cells #[.int .u64 n.a0, .int .u16 n.a1, .int .i64 n.a2, .bool n.a3, .slice s.A4 n.l4.length s.c4, .slice s.A5 n.l5.length s.c5, .slice s.A6 n.l6.length s.c6, .slice s.A7 n.l7.length s.c7, .slice s.A8 n.l8.length s.c8, .slice s.A9 n.l9.length s.c9, .slice s.A10 n.l10.length s.c10, .int .u32 n.a11, .int .i64 n.a12, .int .i64 n.a13] 34 (0, 0)) := by rw [← hW, ← hg]; exact heap_alloc_new w _
  have hbW : Below w.heap.size w W := by rw [← hW]; exact below_alloc (Below.refl _ _) _
  have HAW : Aside0 (∀ V, Calls Try.prog 8 #[] V fun e w' => e = .returned (.bool true) ∧ Below V.heap.size V w') := ⟨awake_ok⟩
  have HN := Aside0.mk h
  have HNB := Aside0.mk hb
  have HGG := Aside0.mk hg
  have HBW := Aside0.mk hbW
  have HSW : Aside0 (TkS w g #[.int .u64 n.a0, .int .u16 n.a1, .int .i64 n.a2, .bool n.a3, .slice s.A4 n.l4.length s.c4, .slice s.A5 n.l5.length s.c5, .slice s.A6 n.l6.length s.c6, .slice s.A7 n.l7.length s.c7, .slice s.A8 n.l8.length s.c8, .slice s.A9 n.l9.length s.c9, .slice s.A10 n.l10.length s.c10, .int .u32 n.a11, .int .i64 n.a12, .int .i64 n.a13] W) := ⟨⟨hbW, e6⟩⟩
  clear h hb hbW
  cases lg with
  | true =>
    clear hlb
    go_enter Try.func4, Try.ntmps4
    go_wp2_with (refine gate_ (.load 34 (.tmp 6)) rfl ?_; refine wpList_load_row rfl 34 _ rfl (g) rfl 34 _ (0, 0) _ e6 Try.underlying34 rfl (by kernel_rfl) ?_)
    refine (HLG.out W (HN.out.below HBW.out)).mono ?_
    rintro e w1 ⟨rfl, hb1⟩
    have HB1 := Aside0.mk (below_then HBW.out HBW.out.size hb1)
    clear hb1 e6 hW
    go_wp2_with fail
    refine (HAW.out w1).mono ?_
    rintro e w2 ⟨rfl, hb2⟩
    have HB2 := Aside0.mk hb2
    clear hb2
    go_wp2_with fail
    go_ret
    exact ⟨rfl, below_then HB1.out HB1.out.size HB2.out⟩
  | false =>
    obtain ⟨hnl, h100⟩ := hlb rfl
    have HNL := Aside0.mk hnl
    have H100 := Aside0.mk h100
    have HTK : Aside0 (∀ V, Below w.heap.size w V → Calls Try.prog 14 #[nv n s, .int .i64 i] V (TakeP (takeN n i) (takeX n i) V)) := ⟨fun V hV => take_ok n s i V (HN.out.below hV) HNB.out⟩
    have HRT : Aside0 (∀ V, Below w.heap.size w V → Calls Try.prog 15 #[nv n s, .int .i64 i] V (TakeP (takeN n i) (takeX n i) V)) := ⟨fun V hV => rtake_ok n s i V (HN.out.below hV) (by have := H100.out; omega)⟩
    have HLT : Aside0 (∀ V, Below w.heap.size w V → Calls Try.prog 16 #[nv n s] V (NodeLateP { n with l8 := restL n } (lateL n) V)) := ⟨fun V hV => late_ok n s V (HN.out.below hV) HNB.out (by have := H100.out; omega)⟩
    have HRL : Aside0 (∀ V, Below w.heap.size w V → Calls Try.prog 17 #[nv n s] V (NodeLateP { n with l8 := restL n } (lateL n) V)) := ⟨fun V hV => rlate_ok n s V (HN.out.below hV) (by have := H100.out; omega)⟩
    obtain ⟨tn, htn⟩ : ∃ tn, takeN n i = tn := ⟨_, rfl⟩
    obtain ⟨tx, htx⟩ : ∃ tx, takeX n i = tx := ⟨_, rfl⟩
    obtain ⟨ln, hln⟩ : ∃ ln : ND, { n with l8 := restL n } = ln := ⟨_, rfl⟩
    obtain ⟨ll, hll⟩ : ∃ ll, lateL n = ll := ⟨_, rfl⟩
    have HTN : Aside0 (NL tn) := ⟨by
      rw [← htn, (takeN_eq n i).1]
      have h1 := restT_len n.l8 i n.l8.length (Nat.le_refl _)
      exact ⟨hnl.m4, hnl.m5, hnl.m6, hnl.m7, Nat.le_trans h1 hnl.m8, hnl.m9, hnl.m10⟩⟩
    have HLN : Aside0 (NL ln) := ⟨by
      rw [← hln]
      exact ⟨hnl.m4, hnl.m5, hnl.m6, hnl.m7, Nat.le_trans (List.length_filter_le _ _) hnl.m8, hnl.m9, hnl.m10⟩⟩
    have HLL : Aside0 (ll.length ≤ 1000) := ⟨by rw [← hll]; exact Nat.le_trans (List.length_filter_le _ _) hnl.m8⟩
    rw [htn, htx] at HTK HRT
    rw [hln, hll] at HLT HRL
    clear hlb hnl h100 htn htx hln hll
    go_enter Try.func4, Try.ntmps4
    go_wp2_with (refine gate_ (.load 34 (.tmp 6)) rfl ?_; refine wpList_load_row rfl 34 _ rfl (g) rfl 34 _ (0, 0) _ e6 Try.underlying34 rfl (by kernel_rfl) ?_)
    refine (HLG.out W (HN.out.below HBW.out)).mono ?_
    rintro e w1 ⟨rfl, hb1⟩
    have HS1 := Aside0.mk (HSW.out.go hb1)
    have e6 := HS1.out.blk
    clear hb1 hW
    go_wp2_with (refine gate_ (.load 34 (.tmp 6)) rfl ?_; refine wpList_load_row rfl 34 _ rfl (g) rfl 34 _ (0, 0) _ e6 Try.underlying34 rfl (by kernel_rfl) ?_)
    refine (HTK.out w1 HS1.out.bel).mono ?_
    rintro e w2 ⟨s2, rfl, hN2, hb2⟩
    have HN2 := Aside0.mk hN2
    have HS2 := Aside0.mk (HS1.out.go hb2)
    obtain ⟨z1, z2⟩ := two_at w2 (.cells #[.int .u64 0, .int .u16 0, .int .i64 0, .bool false, .slice none 0 0, .slice none 0 0, .slice none 0 0, .slice none 0 0, .slice none 0 0, .slice none 0 0, .slice none 0 0, .int .u32 0, .int .i64 0, .int .i64 0] 34) (.cells #[.int .u32 0, .int .i64 0, .int .i64 0, .int .i64 0, .int .u64 0, .int .u16 0, .int .i64 0] 51)
    have Z2 := Aside0.mk z2
    clear hN2 hb2 e6 z2
    go_wp2_with (first
      | (refine store_box (.store 34 (.tmp 13) (.tmp 29)) 34 _ _ (w2.heap.size) 0 _ #[.int .u64 tn.a0, .int .u16 tn.a1, .int .i64 tn.a2, .bool tn.a3, .slice s2.A4 tn.l4.length s2.c4, .slice s2.A5 tn.l5.length s2.c5, .slice s2.A6 tn.l6.length s2.c6, .slice s2.A7 tn.l7.length s2.c7, .slice s2.A8 tn.l8.length s2.c8, .slice s2.A9 tn.l9.length s2.c9, .slice s2.A10 tn.l10.length s2.c10, .int .u32 tn.a11, .int .i64 tn.a12, .int .i64 tn.a13] 34 _ [.int .u64 tn.a0, .int .u16 tn.a1, .int .i64 tn.a2, .bool tn.a3, .slice s2.A4 tn.l4.length s2.c4, .slice s2.A5 tn.l5.length s2.c5, .slice s2.A6 tn.l6.length s2.c6, .slice s2.A7 tn.l7.length s2.c7, .slice s2.A8 tn.l8.length s2.c8, .slice s2.A9 tn.l9.length s2.c9, .slice s2.A10 tn.l10.length s2.c10, .int .u32 tn.a11, .int .i64 tn.a12, .int .i64 tn.a13] rfl rfl rfl rfl rfl rfl z1 rfl (by kernel_rfl) (by simp) (by simp [Value.oneCell']) (by simp) ?_; intro v2 j1 hs; have J1 := Aside0.mk j1; have HSa := Aside0.mk hs; have z2 := HSa.out.blk (Nat.succ_ne_self _) Z2.out; clear z1 hs j1)
      | (refine store_box (.store 51 (.tmp 14) (.tmp 30)) 51 _ _ (w2.heap.size + 1) 0 _ #[.int .u32 tx.f0, .int .i64 tx.f1, .int .i64 tx.f2, .int .i64 tx.f3, .int .u64 tx.f4.f0, .int .u16 tx.f4.f1, .int .i64 tx.f5] 51 _ [.int .u32 tx.f0, .int .i64 tx.f1, .int .i64 tx.f2, .int .i64 tx.f3, .int .u64 tx.f4.f0, .int .u16 tx.f4.f1, .int .i64 tx.f5] rfl rfl rfl rfl rfl rfl z2 rfl (by kernel_rfl) (by simp) (by simp [Value.oneCell']) (by simp) ?_; intro v3 j2 hs; have J2 := Aside0.mk j2; have J1' := Aside0.mk ((Aside0.mk hs).out.blk (Nat.succ_ne_self _).symm J1.out); have HB3 := Aside0.mk (two_new (a := .cells #[.int .u64 0, .int .u16 0, .int .i64 0, .bool false, .slice none 0 0, .slice none 0 0, .slice none 0 0, .slice none 0 0, .slice none 0 0, .slice none 0 0, .slice none 0 0, .int .u32 0, .int .i64 0, .int .i64 0] 34) (b := .cells #[.int .u32 0, .int .i64 0, .int .i64 0, .int .i64 0, .int .u64 0, .int .u16 0, .int .i64 0] 51) (c := .cells #[] 0) (d := .cells #[] 0) HSa.out hs); clear z2 hs j2; have HS3 := Aside0.mk (HS2.out.go HB3.out); have e6 := HS3.out.blk)
      | (refine gate_ (.load 34 (.tmp 6)) rfl ?_; refine wpList_load_row rfl 34 _ rfl (g) rfl 34 _ (0, 0) _ e6 Try.underlying34 rfl (by kernel_rfl) ?_))
    refine (HRT.out v3 HS3.out.bel).mono ?_
    rintro e w4 ⟨s4, rfl, hN4, hb4⟩
    have HN4 := Aside0.mk hN4
    have HS4 := Aside0.mk (HS3.out.go hb4)
    have HB4 := Aside0.mk hb4
    obtain ⟨z1, z2⟩ := two_at w4 (.cells #[.int .u64 0, .int .u16 0, .int .i64 0, .bool false, .slice none 0 0, .slice none 0 0, .slice none 0 0, .slice none 0 0, .slice none 0 0, .slice none 0 0, .slice none 0 0, .int .u32 0, .int .i64 0, .int .i64 0] 34) (.cells #[.int .u32 0, .int .i64 0, .int .i64 0, .int .i64 0, .int .u64 0, .int .u16 0, .int .i64 0] 51)
    have Z2 := Aside0.mk z2
    clear hN4 hb4 e6 z2
    go_wp2_with (first
      | (refine store_box (.store 34 (.tmp 15) (.tmp 35)) 34 _ _ (w4.heap.size) 0 _ #[.int .u64 tn.a0, .int .u16 tn.a1, .int .i64 tn.a2, .bool tn.a3, .slice s4.A4 tn.l4.length s4.c4, .slice s4.A5 tn.l5.length s4.c5, .slice s4.A6 tn.l6.length s4.c6, .slice s4.A7 tn.l7.length s4.c7, .slice s4.A8 tn.l8.length s4.c8, .slice s4.A9 tn.l9.length s4.c9, .slice s4.A10 tn.l10.length s4.c10, .int .u32 tn.a11, .int .i64 tn.a12, .int .i64 tn.a13] 34 _ [.int .u64 tn.a0, .int .u16 tn.a1, .int .i64 tn.a2, .bool tn.a3, .slice s4.A4 tn.l4.length s4.c4, .slice s4.A5 tn.l5.length s4.c5, .slice s4.A6 tn.l6.length s4.c6, .slice s4.A7 tn.l7.length s4.c7, .slice s4.A8 tn.l8.length s4.c8, .slice s4.A9 tn.l9.length s4.c9, .slice s4.A10 tn.l10.length s4.c10, .int .u32 tn.a11, .int .i64 tn.a12, .int .i64 tn.a13] rfl rfl rfl rfl rfl rfl z1 rfl (by kernel_rfl) (by simp) (by simp [Value.oneCell']) (by simp) ?_; intro v4 j1 hs; have K1 := Aside0.mk j1; have HSb := Aside0.mk hs; have z2 := HSb.out.blk (Nat.succ_ne_self _) Z2.out; clear z1 hs j1)
      | (refine store_box (.store 51 (.tmp 16) (.tmp 36)) 51 _ _ (w4.heap.size + 1) 0 _ #[.int .u32 tx.f0, .int .i64 tx.f1, .int .i64 tx.f2, .int .i64 tx.f3, .int .u64 tx.f4.f0, .int .u16 tx.f4.f1, .int .i64 tx.f5] 51 _ [.int .u32 tx.f0, .int .i64 tx.f1, .int .i64 tx.f2, .int .i64 tx.f3, .int .u64 tx.f4.f0, .int .u16 tx.f4.f1, .int .i64 tx.f5] rfl rfl rfl rfl rfl rfl z2 rfl (by kernel_rfl) (by simp) (by simp [Value.oneCell']) (by simp) ?_; intro v5 j2 hs; have K2 := Aside0.mk j2; have K1' := Aside0.mk ((Aside0.mk hs).out.blk (Nat.succ_ne_self _).symm K1.out); have HB5 := Aside0.mk (two_new (a := .cells #[.int .u64 0, .int .u16 0, .int .i64 0, .bool false, .slice none 0 0, .slice none 0 0, .slice none 0 0, .slice none 0 0, .slice none 0 0, .slice none 0 0, .slice none 0 0, .int .u32 0, .int .i64 0, .int .i64 0] 34) (b := .cells #[.int .u32 0, .int .i64 0, .int .i64 0, .int .i64 0, .int .u64 0, .int .u16 0, .int .i64 0] 51) (c := .cells #[] 0) (d := .cells #[] 0) HSb.out hs); clear z2 hs j2; have HS5 := Aside0.mk (HS4.out.go HB5.out); have e6 := HS5.out.blk)
      | (refine gate_ (.load 34 (.tmp 6)) rfl ?_; refine wpList_load_row rfl 34 _ rfl (g) rfl 34 _ (0, 0) _ e6 Try.underlying34 rfl (by kernel_rfl) ?_))
    refine (HLT.out v5 HS5.out.bel).mono ?_
    rintro e w6 ⟨s6, A6, c6, rfl, hN6, hc6, hC6, hb6⟩
    have HN6 := Aside0.mk hN6
    have HC6 := Aside0.mk (And.intro hc6 hC6)
    have HS6 := Aside0.mk (HS5.out.go hb6)
    have HB6 := Aside0.mk hb6
    have z1 := heap_alloc_new w6 (.cells #[.int .u64 0, .int .u16 0, .int .i64 0, .bool false, .slice none 0 0, .slice none 0 0, .slice none 0 0, .slice none 0 0, .slice none 0 0, .slice none 0 0, .slice none 0 0, .int .u32 0, .int .i64 0, .int .i64 0] 34)
    clear hN6 hc6 hC6 hb6 e6
    go_wp2_with (first
      | (refine store_box (.store 34 (.tmp 17) (.tmp 40)) 34 _ _ (w6.heap.size) 0 _ #[.int .u64 ln.a0, .int .u16 ln.a1, .int .i64 ln.a2, .bool ln.a3, .slice s6.A4 ln.l4.length s6.c4, .slice s6.A5 ln.l5.length s6.c5, .slice s6.A6 ln.l6.length s6.c6, .slice s6.A7 ln.l7.length s6.c7, .slice s6.A8 ln.l8.length s6.c8, .slice s6.A9 ln.l9.length s6.c9, .slice s6.A10 ln.l10.length s6.c10, .int .u32 ln.a11, .int .i64 ln.a12, .int .i64 ln.a13] 34 _ [.int .u64 ln.a0, .int .u16 ln.a1, .int .i64 ln.a2, .bool ln.a3, .slice s6.A4 ln.l4.length s6.c4, .slice s6.A5 ln.l5.length s6.c5, .slice s6.A6 ln.l6.length s6.c6, .slice s6.A7 ln.l7.length s6.c7, .slice s6.A8 ln.l8.length s6.c8, .slice s6.A9 ln.l9.length s6.c9, .slice s6.A10 ln.l10.length s6.c10, .int .u32 ln.a11, .int .i64 ln.a12, .int .i64 ln.a13] rfl rfl rfl rfl rfl rfl z1 rfl (by kernel_rfl) (by simp) (by simp [Value.oneCell']) (by simp) ?_; intro v7 j1 hs; have L1 := Aside0.mk j1; have HB7 := Aside0.mk (sto_new hs); clear z1 hs j1; have HS7 := Aside0.mk (HS6.out.go HB7.out); have e6 := HS7.out.blk)
      | (refine gate_ (.load 34 (.tmp 6)) rfl ?_; refine wpList_load_row rfl 34 _ rfl (g) rfl 34 _ (0, 0) _ e6 Try.underlying34 rfl (by kernel_rfl) ?_))
    refine (HRL.out v7 HS7.out.bel).mono ?_
    rintro e w8 ⟨s8, A8, c8, rfl, hN8, hc8, hC8, hb8⟩
    have HN8 := Aside0.mk hN8
    have HC8 := Aside0.mk (And.intro hc8 hC8)
    have HS8 := Aside0.mk (HS7.out.go hb8)
    have HB8 := Aside0.mk hb8
    have z1 := heap_alloc_new w8 (.cells #[.int .u64 0, .int .u16 0, .int .i64 0, .bool false, .slice none 0 0, .slice none 0 0, .slice none 0 0, .slice none 0 0, .slice none 0 0, .slice none 0 0, .slice none 0 0, .int .u32 0, .int .i64 0, .int .i64 0] 34)
    have a35 := below_then HB4.out HB4.out.size HB5.out
    have a37 := below_then (below_then a35 a35.size HB6.out) (Nat.le_trans a35.size HB6.out.size) HB7.out
    have a38 := below_then a37 a37.size hb8
    have a57 := below_then HB6.out HB6.out.size HB7.out
    have a58 := below_then a57 a57.size hb8
    have A38 := Aside0.mk a38
    have A58 := Aside0.mk a58
    clear hN8 hc8 hC8 hb8 e6 a35 a37 a38 a57 a58
    go_wp2_with (first
      | (refine store_box (.store 34 (.tmp 19) (.tmp 45)) 34 _ _ (w8.heap.size) 0 _ #[.int .u64 ln.a0, .int .u16 ln.a1, .int .i64 ln.a2, .bool ln.a3, .slice s8.A4 ln.l4.length s8.c4, .slice s8.A5 ln.l5.length s8.c5, .slice s8.A6 ln.l6.length s8.c6, .slice s8.A7 ln.l7.length s8.c7, .slice s8.A8 ln.l8.length s8.c8, .slice s8.A9 ln.l9.length s8.c9, .slice s8.A10 ln.l10.length s8.c10, .int .u32 ln.a11, .int .i64 ln.a12, .int .i64 ln.a13] 34 _ [.int .u64 ln.a0, .int .u16 ln.a1, .int .i64 ln.a2, .bool ln.a3, .slice s8.A4 ln.l4.length s8.c4, .slice s8.A5 ln.l5.length s8.c5, .slice s8.A6 ln.l6.length s8.c6, .slice s8.A7 ln.l7.length s8.c7, .slice s8.A8 ln.l8.length s8.c8, .slice s8.A9 ln.l9.length s8.c9, .slice s8.A10 ln.l10.length s8.c10, .int .u32 ln.a11, .int .i64 ln.a12, .int .i64 ln.a13] rfl rfl rfl rfl rfl rfl z1 rfl (by kernel_rfl) (by simp) (by simp [Value.oneCell']) (by simp) ?_; intro v9 j1 hs; have L2 := Aside0.mk j1; have HB9 := Aside0.mk (sto_new hs); clear z1 hs; have HS9 := Aside0.mk (HS8.out.go HB9.out); have A39 := Aside0.mk (below_then A38.out A38.out.size HB9.out); have A59 := Aside0.mk (below_then A58.out A58.out.size HB9.out); have A79 := Aside0.mk (below_then HB8.out HB8.out.size HB9.out); have q13 := (A39.out.block _ (blk_lt J1'.out)).trans J1'.out; have q14 := (A39.out.block _ (blk_lt J2.out)).trans J2.out; have q15 := (A59.out.block _ (blk_lt K1'.out)).trans K1'.out; have q16 := (A59.out.block _ (blk_lt K2.out)).trans K2.out; have q17 := (A79.out.block _ (blk_lt L1.out)).trans L1.out)
      | (refine gate_ (.load 34 (.tmp 13)) rfl ?_; refine wpList_load_row rfl 34 _ rfl (w2.heap.size) rfl 34 _ (0, 0) _ q13 Try.underlying34 rfl (by kernel_rfl) ?_)
      | (refine gate_ (.load 34 (.tmp 15)) rfl ?_; refine wpList_load_row rfl 34 _ rfl (w4.heap.size) rfl 34 _ (0, 0) _ q15 Try.underlying34 rfl (by kernel_rfl) ?_))
    have hn24 := (HN2.out.below HB3.out).below A39.out
    have hn44 := (HN4.out.below HB5.out).below A59.out
    have HQ := Aside0.mk (And.intro q14 (And.intro q16 (And.intro q17 j1)))
    have hq6 := below_then HB7.out HB7.out.size A79.out
    have HNL6 := Aside0.mk (HN6.out.below hq6)
    have HNL8 := Aside0.mk (HN8.out.below HB9.out)
    have HCL6 := Aside0.mk (Kd.C_below HC6.out.2 hq6)
    have HCL8 := Aside0.mk (Kd.C_below HC8.out.2 HB9.out)
    refine (same_ok tn s2 s4 v9 hn24 hn44 HTN.out).mono ?_
    rintro e x1 ⟨rfl, hx1⟩
    have HX1 := Aside0.mk hx1
    have q14' := (hx1.block _ (blk_lt HQ.out.1)).trans HQ.out.1
    have q16' := (hx1.block _ (blk_lt HQ.out.2.1)).trans HQ.out.2.1
    have q17' := (hx1.block _ (blk_lt HQ.out.2.2.1)).trans HQ.out.2.2.1
    have q19' := (hx1.block _ (blk_lt HQ.out.2.2.2)).trans HQ.out.2.2.2
    obtain ⟨d0, d1, d2, d3, d4, d5, d6, _⟩ := box7f q14'
    obtain ⟨f0, f1, f2, f3, f4, f5, f6, _⟩ := box7f q16'
    obtain ⟨y0, y1, y2, y3, y4, y5, y6, y7, y8, y9, y10, y11, y12, y13, _⟩ := box14f q17'
    obtain ⟨u0, u1, u2, u3, u4, u5, u6, u7, u8, u9, u10, u11, u12, u13, _⟩ := box14f q19'
    clear q13 q14 q15 q16 q17 j1 hn24 hn44 hq6 hx1 q14' q16' q17' q19'
    go_wp2_with fail
    refine (same_ok ln s6 s8 x1 (HNL6.out.below HX1.out) (HNL8.out.below HX1.out) HLN.out).mono ?_
    rintro e x2 ⟨rfl, hx2⟩
    have HX2 := Aside0.mk (below_then HX1.out HX1.out.size hx2)
    clear hx2 d0 d1 d2 d3 d4 d5 d6 f0 f1 f2 f3 f4 f5 f6 y0 y1 y2 y3 y4 y5 y6 y7 y8 y9 y10 y11 y12 y13 u0 u1 u2 u3 u4 u5 u6 u7 u8 u9 u10 u11 u12 u13
    go_wp2_with fail
    refine (pends_ok ll A6 A8 c6 c8 x2 (Kd.C_below HCL6.out HX2.out) HC6.out.1 (Kd.C_below HCL8.out HX2.out) HC8.out.1 HLL.out).mono ?_
    rintro e x3 ⟨rfl, hx3⟩
    have HX3 := Aside0.mk (HS9.out.go (below_then HX2.out HX2.out.size hx3))
    clear hx3
    go_wp2_with fail
    have HNX : Aside0 (∀ V, Below w.heap.size w V → NC V n s) := ⟨fun V hV => HN.out.below hV⟩
    have HF1 : Aside0 (∀ V, TkS w g #[.int .u64 n.a0, .int .u16 n.a1, .int .i64 n.a2, .bool n.a3, .slice s.A4 n.l4.length s.c4, .slice s.A5 n.l5.length s.c5, .slice s.A6 n.l6.length s.c6, .slice s.A7 n.l7.length s.c7, .slice s.A8 n.l8.length s.c8, .slice s.A9 n.l9.length s.c9, .slice s.A10 n.l10.length s.c10, .int .u32 n.a11, .int .i64 n.a12, .int .i64 n.a13] V → Calls Try.prog 19 #[.slice s.A8 n.l8.length s.c8, .int .u32 rid] V fun e w' => e = .returned (.int .i64 (fIdx (fun x => x.f0 == rid) n.l8)) ∧ Below V.heap.size V w') := ⟨fun V hV => find_ok s.A8 s.c8 n.l8 rid V (HN.out.below hV.bel).r8⟩
    have HF2 : Aside0 (∀ V, TkS w g #[.int .u64 n.a0, .int .u16 n.a1, .int .i64 n.a2, .bool n.a3, .slice s.A4 n.l4.length s.c4, .slice s.A5 n.l5.length s.c5, .slice s.A6 n.l6.length s.c6, .slice s.A7 n.l7.length s.c7, .slice s.A8 n.l8.length s.c8, .slice s.A9 n.l9.length s.c9, .slice s.A10 n.l10.length s.c10, .int .u32 n.a11, .int .i64 n.a12, .int .i64 n.a13] V → Calls Try.prog 20 #[.slice s.A8 n.l8.length s.c8, .int .u32 rid] V fun e w' => e = .returned (.int .i64 (fIdx (fun x => x.f0 == rid) n.l8)) ∧ Below V.heap.size V w') := ⟨fun V hV => rfind_ok s.A8 s.c8 n.l8 rid V (HN.out.below hV.bel).r8 HN.out.q8 HNL.out.m8⟩
    have HF3 : Aside0 (∀ V, TkS w g #[.int .u64 n.a0, .int .u16 n.a1, .int .i64 n.a2, .bool n.a3, .slice s.A4 n.l4.length s.c4, .slice s.A5 n.l5.length s.c5, .slice s.A6 n.l6.length s.c6, .slice s.A7 n.l7.length s.c7, .slice s.A8 n.l8.length s.c8, .slice s.A9 n.l9.length s.c9, .slice s.A10 n.l10.length s.c10, .int .u32 n.a11, .int .i64 n.a12, .int .i64 n.a13] V → Calls Try.prog 21 #[.slice s.A8 n.l8.length s.c8, .int .i64 why, .int .u16 addr] V fun e w' => e = .returned (.bool (n.l8.any fun x => x.f2 == why && x.f4.f1 == addr)) ∧ Below V.heap.size V w') := ⟨fun V hV => has_ok s.A8 s.c8 n.l8 why addr V (HN.out.below hV.bel).r8⟩
    have HF4 : Aside0 (∀ V, TkS w g #[.int .u64 n.a0, .int .u16 n.a1, .int .i64 n.a2, .bool n.a3, .slice s.A4 n.l4.length s.c4, .slice s.A5 n.l5.length s.c5, .slice s.A6 n.l6.length s.c6, .slice s.A7 n.l7.length s.c7, .slice s.A8 n.l8.length s.c8, .slice s.A9 n.l9.length s.c9, .slice s.A10 n.l10.length s.c10, .int .u32 n.a11, .int .i64 n.a12, .int .i64 n.a13] V → Calls Try.prog 22 #[.slice s.A8 n.l8.length s.c8, .int .i64 why, .int .u16 addr] V fun e w' => e = .returned (.bool (n.l8.any fun x => x.f2 == why && x.f4.f1 == addr)) ∧ Below V.heap.size V w') := ⟨fun V hV => rhas_ok s.A8 s.c8 n.l8 why addr V (HN.out.below hV.bel).r8 HN.out.q8 HNL.out.m8⟩
    have HF5 : Aside0 (∀ V, TkS w g #[.int .u64 n.a0, .int .u16 n.a1, .int .i64 n.a2, .bool n.a3, .slice s.A4 n.l4.length s.c4, .slice s.A5 n.l5.length s.c5, .slice s.A6 n.l6.length s.c6, .slice s.A7 n.l7.length s.c7, .slice s.A8 n.l8.length s.c8, .slice s.A9 n.l9.length s.c9, .slice s.A10 n.l10.length s.c10, .int .u32 n.a11, .int .i64 n.a12, .int .i64 n.a13] V → Calls Try.prog 23 #[.slice s.A8 n.l8.length s.c8, .int .i64 job] V fun e w' => e = .returned (.bool (n.l8.any fun x => x.f3 == job)) ∧ Below V.heap.size V w') := ⟨fun V hV => works_ok s.A8 s.c8 n.l8 job V (HN.out.below hV.bel).r8⟩
    have HF6 : Aside0 (∀ V, TkS w g #[.int .u64 n.a0, .int .u16 n.a1, .int .i64 n.a2, .bool n.a3, .slice s.A4 n.l4.length s.c4, .slice s.A5 n.l5.length s.c5, .slice s.A6 n.l6.length s.c6, .slice s.A7 n.l7.length s.c7, .slice s.A8 n.l8.length s.c8, .slice s.A9 n.l9.length s.c9, .slice s.A10 n.l10.length s.c10, .int .u32 n.a11, .int .i64 n.a12, .int .i64 n.a13] V → Calls Try.prog 24 #[.slice s.A8 n.l8.length s.c8, .int .i64 job] V fun e w' => e = .returned (.bool (n.l8.any fun x => x.f3 == job)) ∧ Below V.heap.size V w') := ⟨fun V hV => rworks_ok s.A8 s.c8 n.l8 job V (HN.out.below hV.bel).r8 HN.out.q8 HNL.out.m8⟩
    have HF7 : Aside0 (∀ V, TkS w g #[.int .u64 n.a0, .int .u16 n.a1, .int .i64 n.a2, .bool n.a3, .slice s.A4 n.l4.length s.c4, .slice s.A5 n.l5.length s.c5, .slice s.A6 n.l6.length s.c6, .slice s.A7 n.l7.length s.c7, .slice s.A8 n.l8.length s.c8, .slice s.A9 n.l9.length s.c9, .slice s.A10 n.l10.length s.c10, .int .u32 n.a11, .int .i64 n.a12, .int .i64 n.a13] V → Calls Try.prog 25 #[nv n s] V fun e w' => e = .returned (.int .i64 (nowF n)) ∧ Below V.heap.size V w') := ⟨fun V hV => now_ok n s V (HN.out.below hV.bel)⟩
    have HF8 : Aside0 (∀ V, TkS w g #[.int .u64 n.a0, .int .u16 n.a1, .int .i64 n.a2, .bool n.a3, .slice s.A4 n.l4.length s.c4, .slice s.A5 n.l5.length s.c5, .slice s.A6 n.l6.length s.c6, .slice s.A7 n.l7.length s.c7, .slice s.A8 n.l8.length s.c8, .slice s.A9 n.l9.length s.c9, .slice s.A10 n.l10.length s.c10, .int .u32 n.a11, .int .i64 n.a12, .int .i64 n.a13] V → Calls Try.prog 26 #[nv n s] V fun e w' => e = .returned (.int .i64 (nowF n)) ∧ Below V.heap.size V w') := ⟨fun V hV => rnow_ok n s V (HN.out.below hV.bel)⟩
    have HF9 : Aside0 (∀ V, TkS w g #[.int .u64 n.a0, .int .u16 n.a1, .int .i64 n.a2, .bool n.a3, .slice s.A4 n.l4.length s.c4, .slice s.A5 n.l5.length s.c5, .slice s.A6 n.l6.length s.c6, .slice s.A7 n.l7.length s.c7, .slice s.A8 n.l8.length s.c8, .slice s.A9 n.l9.length s.c9, .slice s.A10 n.l10.length s.c10, .int .u32 n.a11, .int .i64 n.a12, .int .i64 n.a13] V → Calls Try.prog 8 #[] V fun e w' => e = .returned (.bool true) ∧ Below V.heap.size V w') := ⟨fun V hV => HAW.out V⟩
    generalize fIdx (fun x => x.f0 == rid) n.l8 = fi at HF1 HF2
    generalize (n.l8.any fun x => x.f2 == why && x.f4.f1 == addr) = fh at HF3 HF4
    generalize (n.l8.any fun x => x.f3 == job) = fw at HF5 HF6
    generalize nowF n = fn at HF7 HF8
    refine start_ (n := 47) (S := TkS w g #[.int .u64 n.a0, .int .u16 n.a1, .int .i64 n.a2, .bool n.a3, .slice s.A4 n.l4.length s.c4, .slice s.A5 n.l5.length s.c5, .slice s.A6 n.l6.length s.c6, .slice s.A7 n.l7.length s.c7, .slice s.A8 n.l8.length s.c8, .slice s.A9 n.l9.length s.c9, .slice s.A10 n.l10.length s.c10, .int .u32 n.a11, .int .i64 n.a12, .int .i64 n.a13]) (ds := []) #[false, false, false, false, false, false, false, false, false, false, false, false, false, false, false, false, false, false, false, false, false, false, false, false, false, false, false, false, false, false, false, false, false, false, false, false, false, false, false, false, false, false, false, false, false, false, false] (by kernel_rfl) rfl rfl (HX3.out.go (Below.drew (Below.refl _ _))) (fun hH => ?_)
    refine pure_ (i := 0) (N := some 65) (v := ?_) (a' := ?_) #[true, false, false, false, false, false, false, false, false, false, false, false, false, false, false, false, false, false, false, false, false, false, false, false, false, false, false, false, false, false, false, false, false, false, false, false, false, false, false, false, false, false, false, false, false, false, false] rfl rfl (by kernel_rfl) (fun _ _ _ h => h) (Or.inl ⟨by rfl, ?_⟩) ?_ ?_
    rotate_left
    · intro w'
      go_simp
      with_reducible rfl
    rotate_left
    · simp only [Act.put, List.setIfInBounds_toArray, List.set_cons_zero, List.set_cons_succ, i64_w, i32_w]
      rfl
    refine pure_ (i := 1) (N := some 66) (v := ?_) (a' := ?_) #[true, true, false, false, false, false, false, false, false, false, false, false, false, false, false, false, false, false, false, false, false, false, false, false, false, false, false, false, false, false, false, false, false, false, false, false, false, false, false, false, false, false, false, false, false, false, false] rfl rfl (by kernel_rfl) (fun _ _ _ h => h) (Or.inl ⟨by rfl, ?_⟩) ?_ ?_
    rotate_left
    · intro w'
      go_simp
      with_reducible rfl
    rotate_left
    · simp only [Act.put, List.setIfInBounds_toArray, List.set_cons_zero, List.set_cons_succ, i64_w, i32_w]
      rfl
    refine pure_ (i := 2) (N := some 67) (v := ?_) (a' := ?_) #[true, true, true, false, false, false, false, false, false, false, false, false, false, false, false, false, false, false, false, false, false, false, false, false, false, false, false, false, false, false, false, false, false, false, false, false, false, false, false, false, false, false, false, false, false, false, false] rfl rfl (by kernel_rfl) (fun _ _ _ h => h) (Or.inl ⟨by rfl, ?_⟩) ?_ ?_
    rotate_left
    · intro w'
      go_simp
      with_reducible rfl
    rotate_left
    · simp only [Act.put, List.setIfInBounds_toArray, List.set_cons_zero, List.set_cons_succ, i64_w, i32_w]
      rfl
    refine take_ (i := 3) (N := some 68) (v := ?_) (a' := ?_) #[true, true, true, true, false, false, false, false, false, false, false, false, false, false, false, false, false, false, false, false, false, false, false, false, false, false, false, false, false, false, false, false, false, false, false, false, false, false, false, false, false, false, false, false, false, false, false] rfl rfl (by kernel_rfl) (fun _ _ _ h => h) (Or.inl ⟨by rfl, ?_⟩) hH ?_ ?_
    rotate_left
    · rintro w' ⟨s0, s1_⟩
      have c_ : _ = some _ := (blk_cell s1_ 8).trans rfl
      go_simp
      with_reducible rfl
    rotate_left
    · simp only [Act.put, List.setIfInBounds_toArray, List.set_cons_zero, List.set_cons_succ, i64_w, i32_w]
      rfl
    refine pure_ (i := 4) (N := some 69) (v := ?_) (a' := ?_) #[true, true, true, true, true, false, false, false, false, false, false, false, false, false, false, false, false, false, false, false, false, false, false, false, false, false, false, false, false, false, false, false, false, false, false, false, false, false, false, false, false, false, false, false, false, false, false] rfl rfl (by kernel_rfl) (fun _ _ _ h => h) (Or.inl ⟨by rfl, ?_⟩) ?_ ?_
    rotate_left
    · intro w'
      go_simp
      with_reducible rfl
    rotate_left
    · simp only [Act.put, List.setIfInBounds_toArray, List.set_cons_zero, List.set_cons_succ, i64_w, i32_w]
      rfl
    refine pure_ (i := 6) (N := some 71) (v := ?_) (a' := ?_) #[true, true, true, true, true, false, true, false, false, false, false, false, false, false, false, false, false, false, false, false, false, false, false, false, false, false, false, false, false, false, false, false, false, false, false, false, false, false, false, false, false, false, false, false, false, false, false] rfl rfl (by kernel_rfl) (fun _ _ _ h => h) (Or.inl ⟨by rfl, ?_⟩) ?_ ?_
    rotate_left
    · intro w'
      go_simp
      with_reducible rfl
    rotate_left
    · simp only [Act.put, List.setIfInBounds_toArray, List.set_cons_zero, List.set_cons_succ, i64_w, i32_w]
      rfl
    refine take_ (i := 7) (N := some 72) (v := ?_) (a' := ?_) #[true, true, true, true, true, false, true, true, false, false, false, false, false, false, false, false, false, false, false, false, false, false, false, false, false, false, false, false, false, false, false, false, false, false, false, false, false, false, false, false, false, false, false, false, false, false, false] rfl rfl (by kernel_rfl) (fun _ _ _ h => h) (Or.inl ⟨by rfl, ?_⟩) hH ?_ ?_
    rotate_left
    · rintro w' ⟨s0, s1_⟩
      have c_ : _ = some _ := (blk_cell s1_ 8).trans rfl
      go_simp
      with_reducible rfl
    rotate_left
    · simp only [Act.put, List.setIfInBounds_toArray, List.set_cons_zero, List.set_cons_succ, i64_w, i32_w]
      rfl
    refine pure_ (i := 8) (N := some 73) (v := ?_) (a' := ?_) #[true, true, true, true, true, false, true, true, true, false, false, false, false, false, false, false, false, false, false, false, false, false, false, false, false, false, false, false, false, false, false, false, false, false, false, false, false, false, false, false, false, false, false, false, false, false, false] rfl rfl (by kernel_rfl) (fun _ _ _ h => h) (Or.inl ⟨by rfl, ?_⟩) ?_ ?_
    rotate_left
    · intro w'
      go_simp
      with_reducible rfl
    rotate_left
    · simp only [Act.put, List.setIfInBounds_toArray, List.set_cons_zero, List.set_cons_succ, i64_w, i32_w]
      rfl
    refine one_ (i := 5) (N := some 70) #[true, true, true, true, true, true, true, true, true, false, false, false, false, false, false, false, false, false, false, false, false, false, false, false, false, false, false, false, false, false, false, false, false, false, false, false, false, false, false, false, false, false, false, false, false, false, false] rfl rfl (by kernel_rfl) (by decide) (fun K hK => ?_)
    refine goes_ Try.func19 (by kernel_rfl) rfl #[.slice s.A8 n.l8.length s.c8, .int .u32 rid] (by rfl) rfl rfl (by (try simp only [List.map_toArray, List.map_cons, List.map_nil]); first | done | rfl) ?_
    refine (HF1.out _ hH).mono ?_
    rintro e u1 ⟨rfl, hu⟩
    refine ⟨_, rfl, ?_⟩
    refine hK.out _ _ (hH.go hu) (fun hH1 => ?_)
    clear hu
    clear hK K
    refine norm_ (a' := ?_) ?_ ?_
    rotate_left
    · show Act.put _ (some 70) _ = _
      simp only [Act.put, List.setIfInBounds_toArray, List.set_cons_zero, List.set_cons_succ, i64_w, i32_w]
      rfl
    refine one_ (i := 9) (N := some 74) #[true, true, true, true, true, true, true, true, true, true, false, false, false, false, false, false, false, false, false, false, false, false, false, false, false, false, false, false, false, false, false, false, false, false, false, false, false, false, false, false, false, false, false, false, false, false, false] rfl rfl (by kernel_rfl) (by decide) (fun K hK => ?_)
    refine goes_ Try.func20 (by kernel_rfl) rfl #[.slice s.A8 n.l8.length s.c8, .int .u32 rid] (by rfl) rfl rfl (by (try simp only [List.map_toArray, List.map_cons, List.map_nil]); first | done | rfl) ?_
    refine (HF2.out _ hH1).mono ?_
    rintro e u2 ⟨rfl, hu⟩
    refine ⟨_, rfl, ?_⟩
    refine hK.out _ _ (hH1.go hu) (fun hH2 => ?_)
    clear hu
    clear hK K
    refine norm_ (a' := ?_) ?_ ?_
    rotate_left
    · show Act.put _ (some 74) _ = _
      simp only [Act.put, List.setIfInBounds_toArray, List.set_cons_zero, List.set_cons_succ, i64_w, i32_w]
      rfl
    refine pure_ (i := 10) (N := some 75) (v := ?_) (a' := ?_) #[true, true, true, true, true, true, true, true, true, true, true, false, false, false, false, false, false, false, false, false, false, false, false, false, false, false, false, false, false, false, false, false, false, false, false, false, false, false, false, false, false, false, false, false, false, false, false] rfl rfl (by kernel_rfl) (fun _ _ _ h => h) (Or.inl ⟨by rfl, ?_⟩) ?_ ?_
    rotate_left
    · intro w'
      go_simp
      with_reducible rfl
    rotate_left
    · simp only [Act.put, List.setIfInBounds_toArray, List.set_cons_zero, List.set_cons_succ, i64_w, i32_w]
      rfl
    refine pure_ (i := 11) (N := some 76) (v := ?_) (a' := ?_) #[true, true, true, true, true, true, true, true, true, true, true, true, false, false, false, false, false, false, false, false, false, false, false, false, false, false, false, false, false, false, false, false, false, false, false, false, false, false, false, false, false, false, false, false, false, false, false] rfl rfl (by kernel_rfl) (fun _ _ _ h => h) (Or.inl ⟨by rfl, ?_⟩) ?_ ?_
    rotate_left
    · intro w'
      go_simp
      with_reducible rfl
    rotate_left
    · simp only [Act.put, List.setIfInBounds_toArray, List.set_cons_zero, List.set_cons_succ, i64_w, i32_w]
      rfl
    refine pure_ (i := 12) (N := some 77) (v := ?_) (a' := ?_) #[true, true, true, true, true, true, true, true, true, true, true, true, true, false, false, false, false, false, false, false, false, false, false, false, false, false, false, false, false, false, false, false, false, false, false, false, false, false, false, false, false, false, false, false, false, false, false] rfl rfl (by kernel_rfl) (fun _ _ _ h => h) (Or.inl ⟨by rfl, ?_⟩) ?_ ?_
    rotate_left
    · intro w'
      go_simp
      with_reducible rfl
    rotate_left
    · simp only [Act.put, List.setIfInBounds_toArray, List.set_cons_zero, List.set_cons_succ, i64_w, i32_w]
      rfl
    refine pure_ (i := 13) (N := some 78) (v := ?_) (a' := ?_) #[true, true, true, true, true, true, true, true, true, true, true, true, true, true, false, false, false, false, false, false, false, false, false, false, false, false, false, false, false, false, false, false, false, false, false, false, false, false, false, false, false, false, false, false, false, false, false] rfl rfl (by kernel_rfl) (fun _ _ _ h => h) (Or.inl ⟨by rfl, ?_⟩) ?_ ?_
    rotate_left
    · intro w'
      go_simp
      with_reducible rfl
    rotate_left
    · simp only [Act.put, List.setIfInBounds_toArray, List.set_cons_zero, List.set_cons_succ, i64_w, i32_w]
      rfl
    refine take_ (i := 14) (N := some 79) (v := ?_) (a' := ?_) #[true, true, true, true, true, true, true, true, true, true, true, true, true, true, true, false, false, false, false, false, false, false, false, false, false, false, false, false, false, false, false, false, false, false, false, false, false, false, false, false, false, false, false, false, false, false, false] rfl rfl (by kernel_rfl) (fun _ _ _ h => h) (Or.inl ⟨by rfl, ?_⟩) hH2 ?_ ?_
    rotate_left
    · rintro w' ⟨s0, s1_⟩
      have c_ : _ = some _ := (blk_cell s1_ 8).trans rfl
      go_simp
      with_reducible rfl
    rotate_left
    · simp only [Act.put, List.setIfInBounds_toArray, List.set_cons_zero, List.set_cons_succ, i64_w, i32_w]
      rfl
    refine pure_ (i := 15) (N := some 80) (v := ?_) (a' := ?_) #[true, true, true, true, true, true, true, true, true, true, true, true, true, true, true, true, false, false, false, false, false, false, false, false, false, false, false, false, false, false, false, false, false, false, false, false, false, false, false, false, false, false, false, false, false, false, false] rfl rfl (by kernel_rfl) (fun _ _ _ h => h) (Or.inl ⟨by rfl, ?_⟩) ?_ ?_
    rotate_left
    · intro w'
      go_simp
      with_reducible rfl
    rotate_left
    · simp only [Act.put, List.setIfInBounds_toArray, List.set_cons_zero, List.set_cons_succ, i64_w, i32_w]
      rfl
    refine pure_ (i := 16) (N := some 81) (v := ?_) (a' := ?_) #[true, true, true, true, true, true, true, true, true, true, true, true, true, true, true, true, true, false, false, false, false, false, false, false, false, false, false, false, false, false, false, false, false, false, false, false, false, false, false, false, false, false, false, false, false, false, false] rfl rfl (by kernel_rfl) (fun _ _ _ h => h) (Or.inl ⟨by rfl, ?_⟩) ?_ ?_
    rotate_left
    · intro w'
      go_simp
      with_reducible rfl
    rotate_left
    · simp only [Act.put, List.setIfInBounds_toArray, List.set_cons_zero, List.set_cons_succ, i64_w, i32_w]
      rfl
    refine pure_ (i := 18) (N := some 83) (v := ?_) (a' := ?_) #[true, true, true, true, true, true, true, true, true, true, true, true, true, true, true, true, true, false, true, false, false, false, false, false, false, false, false, false, false, false, false, false, false, false, false, false, false, false, false, false, false, false, false, false, false, false, false] rfl rfl (by kernel_rfl) (fun _ _ _ h => h) (Or.inl ⟨by rfl, ?_⟩) ?_ ?_
    rotate_left
    · intro w'
      go_simp
      with_reducible rfl
    rotate_left
    · simp only [Act.put, List.setIfInBounds_toArray, List.set_cons_zero, List.set_cons_succ, i64_w, i32_w]
      rfl
    refine take_ (i := 19) (N := some 84) (v := ?_) (a' := ?_) #[true, true, true, true, true, true, true, true, true, true, true, true, true, true, true, true, true, false, true, true, false, false, false, false, false, false, false, false, false, false, false, false, false, false, false, false, false, false, false, false, false, false, false, false, false, false, false] rfl rfl (by kernel_rfl) (fun _ _ _ h => h) (Or.inl ⟨by rfl, ?_⟩) hH2 ?_ ?_
    rotate_left
    · rintro w' ⟨s0, s1_⟩
      have c_ : _ = some _ := (blk_cell s1_ 8).trans rfl
      go_simp
      with_reducible rfl
    rotate_left
    · simp only [Act.put, List.setIfInBounds_toArray, List.set_cons_zero, List.set_cons_succ, i64_w, i32_w]
      rfl
    refine pure_ (i := 20) (N := some 85) (v := ?_) (a' := ?_) #[true, true, true, true, true, true, true, true, true, true, true, true, true, true, true, true, true, false, true, true, true, false, false, false, false, false, false, false, false, false, false, false, false, false, false, false, false, false, false, false, false, false, false, false, false, false, false] rfl rfl (by kernel_rfl) (fun _ _ _ h => h) (Or.inl ⟨by rfl, ?_⟩) ?_ ?_
    rotate_left
    · intro w'
      go_simp
      with_reducible rfl
    rotate_left
    · simp only [Act.put, List.setIfInBounds_toArray, List.set_cons_zero, List.set_cons_succ, i64_w, i32_w]
      rfl
    refine pure_ (i := 21) (N := some 86) (v := ?_) (a' := ?_) #[true, true, true, true, true, true, true, true, true, true, true, true, true, true, true, true, true, false, true, true, true, true, false, false, false, false, false, false, false, false, false, false, false, false, false, false, false, false, false, false, false, false, false, false, false, false, false] rfl rfl (by kernel_rfl) (fun _ _ _ h => h) (Or.inl ⟨by rfl, ?_⟩) ?_ ?_
    rotate_left
    · intro w'
      go_simp
      with_reducible rfl
    rotate_left
    · simp only [Act.put, List.setIfInBounds_toArray, List.set_cons_zero, List.set_cons_succ, i64_w, i32_w]
      rfl
    refine one_ (i := 17) (N := some 82) #[true, true, true, true, true, true, true, true, true, true, true, true, true, true, true, true, true, true, true, true, true, true, false, false, false, false, false, false, false, false, false, false, false, false, false, false, false, false, false, false, false, false, false, false, false, false, false] rfl rfl (by kernel_rfl) (by decide) (fun K hK => ?_)
    refine goes_ Try.func21 (by kernel_rfl) rfl #[.slice s.A8 n.l8.length s.c8, .int .i64 why, .int .u16 addr] (by rfl) rfl rfl (by (try simp only [List.map_toArray, List.map_cons, List.map_nil]); first | done | rfl) ?_
    refine (HF3.out _ hH2).mono ?_
    rintro e u3 ⟨rfl, hu⟩
    refine ⟨_, rfl, ?_⟩
    refine hK.out _ _ (hH2.go hu) (fun hH3 => ?_)
    clear hu
    clear hK K
    refine norm_ (a' := ?_) ?_ ?_
    rotate_left
    · show Act.put _ (some 82) _ = _
      simp only [Act.put, List.setIfInBounds_toArray, List.set_cons_zero, List.set_cons_succ, i64_w, i32_w]
      rfl
    refine one_ (i := 22) (N := some 87) #[true, true, true, true, true, true, true, true, true, true, true, true, true, true, true, true, true, true, true, true, true, true, true, false, false, false, false, false, false, false, false, false, false, false, false, false, false, false, false, false, false, false, false, false, false, false, false] rfl rfl (by kernel_rfl) (by decide) (fun K hK => ?_)
    refine goes_ Try.func22 (by kernel_rfl) rfl #[.slice s.A8 n.l8.length s.c8, .int .i64 why, .int .u16 addr] (by rfl) rfl rfl (by (try simp only [List.map_toArray, List.map_cons, List.map_nil]); first | done | rfl) ?_
    refine (HF4.out _ hH3).mono ?_
    rintro e u4 ⟨rfl, hu⟩
    refine ⟨_, rfl, ?_⟩
    refine hK.out _ _ (hH3.go hu) (fun hH4 => ?_)
    clear hu
    clear hK K
    refine norm_ (a' := ?_) ?_ ?_
    rotate_left
    · show Act.put _ (some 87) _ = _
      simp only [Act.put, List.setIfInBounds_toArray, List.set_cons_zero, List.set_cons_succ, i64_w, i32_w]
      rfl
    refine pure_ (i := 23) (N := some 88) (v := ?_) (a' := ?_) #[true, true, true, true, true, true, true, true, true, true, true, true, true, true, true, true, true, true, true, true, true, true, true, true, false, false, false, false, false, false, false, false, false, false, false, false, false, false, false, false, false, false, false, false, false, false, false] rfl rfl (by kernel_rfl) (fun _ _ _ h => h) (Or.inl ⟨by rfl, ?_⟩) ?_ ?_
    rotate_left
    · intro w'
      go_simp
      with_reducible rfl
    rotate_left
    · simp only [Act.put, List.setIfInBounds_toArray, List.set_cons_zero, List.set_cons_succ, i64_w, i32_w]
      rfl
    refine pure_ (i := 24) (N := some 89) (v := ?_) (a' := ?_) #[true, true, true, true, true, true, true, true, true, true, true, true, true, true, true, true, true, true, true, true, true, true, true, true, true, false, false, false, false, false, false, false, false, false, false, false, false, false, false, false, false, false, false, false, false, false, false] rfl rfl (by kernel_rfl) (fun _ _ _ h => h) (Or.inl ⟨by rfl, ?_⟩) ?_ ?_
    rotate_left
    · intro w'
      go_simp
      with_reducible rfl
    rotate_left
    · simp only [Act.put, List.setIfInBounds_toArray, List.set_cons_zero, List.set_cons_succ, i64_w, i32_w]
      rfl
    refine pure_ (i := 25) (N := some 90) (v := ?_) (a' := ?_) #[true, true, true, true, true, true, true, true, true, true, true, true, true, true, true, true, true, true, true, true, true, true, true, true, true, true, false, false, false, false, false, false, false, false, false, false, false, false, false, false, false, false, false, false, false, false, false] rfl rfl (by kernel_rfl) (fun _ _ _ h => h) (Or.inl ⟨by rfl, ?_⟩) ?_ ?_
    rotate_left
    · intro w'
      go_simp
      with_reducible rfl
    rotate_left
    · simp only [Act.put, List.setIfInBounds_toArray, List.set_cons_zero, List.set_cons_succ, i64_w, i32_w]
      rfl
    refine pure_ (i := 26) (N := some 91) (v := ?_) (a' := ?_) #[true, true, true, true, true, true, true, true, true, true, true, true, true, true, true, true, true, true, true, true, true, true, true, true, true, true, true, false, false, false, false, false, false, false, false, false, false, false, false, false, false, false, false, false, false, false, false] rfl rfl (by kernel_rfl) (fun _ _ _ h => h) (Or.inl ⟨by rfl, ?_⟩) ?_ ?_
    rotate_left
    · intro w'
      go_simp
      with_reducible rfl
    rotate_left
    · simp only [Act.put, List.setIfInBounds_toArray, List.set_cons_zero, List.set_cons_succ, i64_w, i32_w]
      rfl
    refine take_ (i := 27) (N := some 92) (v := ?_) (a' := ?_) #[true, true, true, true, true, true, true, true, true, true, true, true, true, true, true, true, true, true, true, true, true, true, true, true, true, true, true, true, false, false, false, false, false, false, false, false, false, false, false, false, false, false, false, false, false, false, false] rfl rfl (by kernel_rfl) (fun _ _ _ h => h) (Or.inl ⟨by rfl, ?_⟩) hH4 ?_ ?_
    rotate_left
    · rintro w' ⟨s0, s1_⟩
      have c_ : _ = some _ := (blk_cell s1_ 8).trans rfl
      go_simp
      with_reducible rfl
    rotate_left
    · simp only [Act.put, List.setIfInBounds_toArray, List.set_cons_zero, List.set_cons_succ, i64_w, i32_w]
      rfl
    refine pure_ (i := 28) (N := some 93) (v := ?_) (a' := ?_) #[true, true, true, true, true, true, true, true, true, true, true, true, true, true, true, true, true, true, true, true, true, true, true, true, true, true, true, true, true, false, false, false, false, false, false, false, false, false, false, false, false, false, false, false, false, false, false] rfl rfl (by kernel_rfl) (fun _ _ _ h => h) (Or.inl ⟨by rfl, ?_⟩) ?_ ?_
    rotate_left
    · intro w'
      go_simp
      with_reducible rfl
    rotate_left
    · simp only [Act.put, List.setIfInBounds_toArray, List.set_cons_zero, List.set_cons_succ, i64_w, i32_w]
      rfl
    refine pure_ (i := 30) (N := some 95) (v := ?_) (a' := ?_) #[true, true, true, true, true, true, true, true, true, true, true, true, true, true, true, true, true, true, true, true, true, true, true, true, true, true, true, true, true, false, true, false, false, false, false, false, false, false, false, false, false, false, false, false, false, false, false] rfl rfl (by kernel_rfl) (fun _ _ _ h => h) (Or.inl ⟨by rfl, ?_⟩) ?_ ?_
    rotate_left
    · intro w'
      go_simp
      with_reducible rfl
    rotate_left
    · simp only [Act.put, List.setIfInBounds_toArray, List.set_cons_zero, List.set_cons_succ, i64_w, i32_w]
      rfl
    refine take_ (i := 31) (N := some 96) (v := ?_) (a' := ?_) #[true, true, true, true, true, true, true, true, true, true, true, true, true, true, true, true, true, true, true, true, true, true, true, true, true, true, true, true, true, false, true, true, false, false, false, false, false, false, false, false, false, false, false, false, false, false, false] rfl rfl (by kernel_rfl) (fun _ _ _ h => h) (Or.inl ⟨by rfl, ?_⟩) hH4 ?_ ?_
    rotate_left
    · rintro w' ⟨s0, s1_⟩
      have c_ : _ = some _ := (blk_cell s1_ 8).trans rfl
      go_simp
      with_reducible rfl
    rotate_left
    · simp only [Act.put, List.setIfInBounds_toArray, List.set_cons_zero, List.set_cons_succ, i64_w, i32_w]
      rfl
    refine pure_ (i := 32) (N := some 97) (v := ?_) (a' := ?_) #[true, true, true, true, true, true, true, true, true, true, true, true, true, true, true, true, true, true, true, true, true, true, true, true, true, true, true, true, true, false, true, true, true, false, false, false, false, false, false, false, false, false, false, false, false, false, false] rfl rfl (by kernel_rfl) (fun _ _ _ h => h) (Or.inl ⟨by rfl, ?_⟩) ?_ ?_
    rotate_left
    · intro w'
      go_simp
      with_reducible rfl
    rotate_left
    · simp only [Act.put, List.setIfInBounds_toArray, List.set_cons_zero, List.set_cons_succ, i64_w, i32_w]
      rfl
    refine one_ (i := 29) (N := some 94) #[true, true, true, true, true, true, true, true, true, true, true, true, true, true, true, true, true, true, true, true, true, true, true, true, true, true, true, true, true, true, true, true, true, false, false, false, false, false, false, false, false, false, false, false, false, false, false] rfl rfl (by kernel_rfl) (by decide) (fun K hK => ?_)
    refine goes_ Try.func23 (by kernel_rfl) rfl #[.slice s.A8 n.l8.length s.c8, .int .i64 job] (by rfl) rfl rfl (by (try simp only [List.map_toArray, List.map_cons, List.map_nil]); first | done | rfl) ?_
    refine (HF5.out _ hH4).mono ?_
    rintro e u5 ⟨rfl, hu⟩
    refine ⟨_, rfl, ?_⟩
    refine hK.out _ _ (hH4.go hu) (fun hH5 => ?_)
    clear hu
    clear hK K
    refine norm_ (a' := ?_) ?_ ?_
    rotate_left
    · show Act.put _ (some 94) _ = _
      simp only [Act.put, List.setIfInBounds_toArray, List.set_cons_zero, List.set_cons_succ, i64_w, i32_w]
      rfl
    refine one_ (i := 33) (N := some 98) #[true, true, true, true, true, true, true, true, true, true, true, true, true, true, true, true, true, true, true, true, true, true, true, true, true, true, true, true, true, true, true, true, true, true, false, false, false, false, false, false, false, false, false, false, false, false, false] rfl rfl (by kernel_rfl) (by decide) (fun K hK => ?_)
    refine goes_ Try.func24 (by kernel_rfl) rfl #[.slice s.A8 n.l8.length s.c8, .int .i64 job] (by rfl) rfl rfl (by (try simp only [List.map_toArray, List.map_cons, List.map_nil]); first | done | rfl) ?_
    refine (HF6.out _ hH5).mono ?_
    rintro e u6 ⟨rfl, hu⟩
    refine ⟨_, rfl, ?_⟩
    refine hK.out _ _ (hH5.go hu) (fun hH6 => ?_)
    clear hu
    clear hK K
    refine norm_ (a' := ?_) ?_ ?_
    rotate_left
    · show Act.put _ (some 98) _ = _
      simp only [Act.put, List.setIfInBounds_toArray, List.set_cons_zero, List.set_cons_succ, i64_w, i32_w]
      rfl
    refine pure_ (i := 34) (N := some 99) (v := ?_) (a' := ?_) #[true, true, true, true, true, true, true, true, true, true, true, true, true, true, true, true, true, true, true, true, true, true, true, true, true, true, true, true, true, true, true, true, true, true, true, false, false, false, false, false, false, false, false, false, false, false, false] rfl rfl (by kernel_rfl) (fun _ _ _ h => h) (Or.inl ⟨by rfl, ?_⟩) ?_ ?_
    rotate_left
    · intro w'
      go_simp
      with_reducible rfl
    rotate_left
    · simp only [Act.put, List.setIfInBounds_toArray, List.set_cons_zero, List.set_cons_succ, i64_w, i32_w]
      rfl
    refine pure_ (i := 35) (N := some 100) (v := ?_) (a' := ?_) #[true, true, true, true, true, true, true, true, true, true, true, true, true, true, true, true, true, true, true, true, true, true, true, true, true, true, true, true, true, true, true, true, true, true, true, true, false, false, false, false, false, false, false, false, false, false, false] rfl rfl (by kernel_rfl) (fun _ _ _ h => h) (Or.inl ⟨by rfl, ?_⟩) ?_ ?_
    rotate_left
    · intro w'
      go_simp
      with_reducible rfl
    rotate_left
    · simp only [Act.put, List.setIfInBounds_toArray, List.set_cons_zero, List.set_cons_succ, i64_w, i32_w]
      rfl
    refine pure_ (i := 36) (N := some 101) (v := ?_) (a' := ?_) #[true, true, true, true, true, true, true, true, true, true, true, true, true, true, true, true, true, true, true, true, true, true, true, true, true, true, true, true, true, true, true, true, true, true, true, true, true, false, false, false, false, false, false, false, false, false, false] rfl rfl (by kernel_rfl) (fun _ _ _ h => h) (Or.inl ⟨by rfl, ?_⟩) ?_ ?_
    rotate_left
    · intro w'
      go_simp
      with_reducible rfl
    rotate_left
    · simp only [Act.put, List.setIfInBounds_toArray, List.set_cons_zero, List.set_cons_succ, i64_w, i32_w]
      rfl
    refine take_ (i := 37) (N := some 102) (v := ?_) (a' := ?_) #[true, true, true, true, true, true, true, true, true, true, true, true, true, true, true, true, true, true, true, true, true, true, true, true, true, true, true, true, true, true, true, true, true, true, true, true, true, true, false, false, false, false, false, false, false, false, false] rfl rfl (by kernel_rfl) (fun _ _ _ h => h) (Or.inl ⟨by rfl, ?_⟩) hH6 ?_ ?_
    rotate_left
    · rintro w' ⟨s0, s1_⟩
      refine load_yields (x := .tmp 6) ?_ ?_ s1_ Try.underlying34 rfl (by kernel_rfl)
      · rfl
      · rfl
    rotate_left
    · simp only [Act.put, List.setIfInBounds_toArray, List.set_cons_zero, List.set_cons_succ, i64_w, i32_w]
      rfl
    refine take_ (i := 39) (N := some 104) (v := ?_) (a' := ?_) #[true, true, true, true, true, true, true, true, true, true, true, true, true, true, true, true, true, true, true, true, true, true, true, true, true, true, true, true, true, true, true, true, true, true, true, true, true, true, false, true, false, false, false, false, false, false, false] rfl rfl (by kernel_rfl) (fun _ _ _ h => h) (Or.inl ⟨by rfl, ?_⟩) hH6 ?_ ?_
    rotate_left
    · rintro w' ⟨s0, s1_⟩
      refine load_yields (x := .tmp 6) ?_ ?_ s1_ Try.underlying34 rfl (by kernel_rfl)
      · rfl
      · rfl
    rotate_left
    · simp only [Act.put, List.setIfInBounds_toArray, List.set_cons_zero, List.set_cons_succ, i64_w, i32_w]
      rfl
    refine one_ (i := 38) (N := some 103) #[true, true, true, true, true, true, true, true, true, true, true, true, true, true, true, true, true, true, true, true, true, true, true, true, true, true, true, true, true, true, true, true, true, true, true, true, true, true, true, true, false, false, false, false, false, false, false] rfl rfl (by kernel_rfl) (by decide) (fun K hK => ?_)
    refine goes_ Try.func25 (by kernel_rfl) rfl #[.agg #[.int .u64 n.a0, .int .u16 n.a1, .int .i64 n.a2, .bool n.a3, .slice s.A4 n.l4.length s.c4, .slice s.A5 n.l5.length s.c5, .slice s.A6 n.l6.length s.c6, .slice s.A7 n.l7.length s.c7, .slice s.A8 n.l8.length s.c8, .slice s.A9 n.l9.length s.c9, .slice s.A10 n.l10.length s.c10, .int .u32 n.a11, .int .i64 n.a12, .int .i64 n.a13]] (by rfl) rfl rfl (by (try simp only [List.map_toArray, List.map_cons, List.map_nil]); first | done | rfl) ?_
    refine (HF7.out _ hH6).mono ?_
    rintro e u7 ⟨rfl, hu⟩
    refine ⟨_, rfl, ?_⟩
    refine hK.out _ _ (hH6.go hu) (fun hH7 => ?_)
    clear hu
    clear hK K
    refine norm_ (a' := ?_) ?_ ?_
    rotate_left
    · show Act.put _ (some 103) _ = _
      simp only [Act.put, List.setIfInBounds_toArray, List.set_cons_zero, List.set_cons_succ, i64_w, i32_w]
      rfl
    refine one_ (i := 40) (N := some 105) #[true, true, true, true, true, true, true, true, true, true, true, true, true, true, true, true, true, true, true, true, true, true, true, true, true, true, true, true, true, true, true, true, true, true, true, true, true, true, true, true, true, false, false, false, false, false, false] rfl rfl (by kernel_rfl) (by decide) (fun K hK => ?_)
    refine goes_ Try.func26 (by kernel_rfl) rfl #[.agg #[.int .u64 n.a0, .int .u16 n.a1, .int .i64 n.a2, .bool n.a3, .slice s.A4 n.l4.length s.c4, .slice s.A5 n.l5.length s.c5, .slice s.A6 n.l6.length s.c6, .slice s.A7 n.l7.length s.c7, .slice s.A8 n.l8.length s.c8, .slice s.A9 n.l9.length s.c9, .slice s.A10 n.l10.length s.c10, .int .u32 n.a11, .int .i64 n.a12, .int .i64 n.a13]] (by rfl) rfl rfl (by (try simp only [List.map_toArray, List.map_cons, List.map_nil]); first | done | rfl) ?_
    refine (HF8.out _ hH7).mono ?_
    rintro e u8 ⟨rfl, hu⟩
    refine ⟨_, rfl, ?_⟩
    refine hK.out _ _ (hH7.go hu) (fun hH8 => ?_)
    clear hu
    clear hK K
    refine norm_ (a' := ?_) ?_ ?_
    rotate_left
    · show Act.put _ (some 105) _ = _
      simp only [Act.put, List.setIfInBounds_toArray, List.set_cons_zero, List.set_cons_succ, i64_w, i32_w]
      rfl
    refine pure_ (i := 41) (N := some 106) (v := ?_) (a' := ?_) #[true, true, true, true, true, true, true, true, true, true, true, true, true, true, true, true, true, true, true, true, true, true, true, true, true, true, true, true, true, true, true, true, true, true, true, true, true, true, true, true, true, true, false, false, false, false, false] rfl rfl (by kernel_rfl) (fun _ _ _ h => h) (Or.inl ⟨by rfl, ?_⟩) ?_ ?_
    rotate_left
    · intro w'
      go_simp
      with_reducible rfl
    rotate_left
    · simp only [Act.put, List.setIfInBounds_toArray, List.set_cons_zero, List.set_cons_succ, i64_w, i32_w]
      rfl
    refine pure_ (i := 42) (N := some 107) (v := ?_) (a' := ?_) #[true, true, true, true, true, true, true, true, true, true, true, true, true, true, true, true, true, true, true, true, true, true, true, true, true, true, true, true, true, true, true, true, true, true, true, true, true, true, true, true, true, true, true, false, false, false, false] rfl rfl (by kernel_rfl) (fun _ _ _ h => h) (Or.inl ⟨by rfl, ?_⟩) ?_ ?_
    rotate_left
    · intro w'
      go_simp
      with_reducible rfl
    rotate_left
    · simp only [Act.put, List.setIfInBounds_toArray, List.set_cons_zero, List.set_cons_succ, i64_w, i32_w]
      rfl
    refine pure_ (i := 43) (N := some 108) (v := ?_) (a' := ?_) #[true, true, true, true, true, true, true, true, true, true, true, true, true, true, true, true, true, true, true, true, true, true, true, true, true, true, true, true, true, true, true, true, true, true, true, true, true, true, true, true, true, true, true, true, false, false, false] rfl rfl (by kernel_rfl) (fun _ _ _ h => h) (Or.inl ⟨by rfl, ?_⟩) ?_ ?_
    rotate_left
    · intro w'
      go_simp
      with_reducible rfl
    rotate_left
    · simp only [Act.put, List.setIfInBounds_toArray, List.set_cons_zero, List.set_cons_succ, i64_w, i32_w]
      rfl
    refine one_ (i := 44) (N := some 109) #[true, true, true, true, true, true, true, true, true, true, true, true, true, true, true, true, true, true, true, true, true, true, true, true, true, true, true, true, true, true, true, true, true, true, true, true, true, true, true, true, true, true, true, true, true, false, false] rfl rfl (by kernel_rfl) (by decide) (fun K hK => ?_)
    refine goes_ Try.func8 (by kernel_rfl) rfl #[] (by rfl) rfl rfl (by (try simp only [List.map_toArray, List.map_cons, List.map_nil]); first | done | rfl) ?_
    refine (HF9.out _ hH8).mono ?_
    rintro e u9 ⟨rfl, hu⟩
    refine ⟨_, rfl, ?_⟩
    refine hK.out _ _ (hH8.go hu) (fun hH9 => ?_)
    clear hu
    clear hK K
    refine norm_ (a' := ?_) ?_ ?_
    rotate_left
    · show Act.put _ (some 109) _ = _
      simp only [Act.put, List.setIfInBounds_toArray, List.set_cons_zero, List.set_cons_succ, i64_w, i32_w]
      rfl
    refine pure_ (i := 45) (N := some 110) (v := ?_) (a' := ?_) #[true, true, true, true, true, true, true, true, true, true, true, true, true, true, true, true, true, true, true, true, true, true, true, true, true, true, true, true, true, true, true, true, true, true, true, true, true, true, true, true, true, true, true, true, true, true, false] rfl rfl (by kernel_rfl) (fun _ _ _ h => h) (Or.inl ⟨by rfl, ?_⟩) ?_ ?_
    rotate_left
    · intro w'
      go_simp
      with_reducible rfl
    rotate_left
    · simp only [Act.put, List.setIfInBounds_toArray, List.set_cons_zero, List.set_cons_succ, i64_w, i32_w]
      rfl
    refine pure_ (i := 46) (N := some 12) (v := ?_) (a' := ?_) #[true, true, true, true, true, true, true, true, true, true, true, true, true, true, true, true, true, true, true, true, true, true, true, true, true, true, true, true, true, true, true, true, true, true, true, true, true, true, true, true, true, true, true, true, true, true, true] rfl rfl (by kernel_rfl) (fun _ _ _ h => h) (Or.inl ⟨by rfl, ?_⟩) ?_ ?_
    rotate_left
    · intro w'
      go_simp
      with_reducible rfl
    rotate_left
    · simp only [Act.put, List.setIfInBounds_toArray, List.set_cons_zero, List.set_cons_succ, i64_w, i32_w]
      rfl
    refine done_ (by kernel_rfl) ?_
    go_wp2_with fail
    go_ret
    exact ⟨rfl, hH9.bel⟩
-- axioms: takes_calls
end Go.Proofs.Ytfgalgeloflilaa.H
