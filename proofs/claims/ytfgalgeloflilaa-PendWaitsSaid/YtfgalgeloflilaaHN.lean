/- Mine. Chapter 30, by hand: a message's test of size; the law PendWaits. -/
import Derived.Test.YtfgalgeloflilaaHM
namespace Go.Proofs.Ytfgalgeloflilaa.H
open Go Go.Proofs Go.RowKit Go.Lib Go.Proofs.Ytfgalgeloflilaa.P Go.Proofs.YtfgalgeloflilaaW.PrintWords Go.Proofs.YtfgalgeloflilaaW.PrintLast Go.Proofs.YtfgalgeloflilaaW.PrintMore
set_option linter.unusedVariables false
set_option linter.unusedSimpArgs false
theorem still_tail_ {P : Program} {id : Nat} {Q : Exit → Act → World → Prop} {a : Act} {w : World} {l : List Oper} (n : Nat) (hm : P.follows .mixedOrders = true) (hB : Region.lexTailB .any l.toArray n = true)
    (h : ∀ w1, w1 = w.drew → wpStill P l.toArray w1 (fun a' => wpList P l.toArray Q (l.drop n) a' w1) (l.take n) a) : (Code.region id l.toArray true).wp P Q a w :=
  wp_region_still_tail n hm hB (h _ rfl)
theorem mlarge_l0 (m : S37) (h : m.f9.length ≤ 20) : ∀ K j : Nat, j ≤ m.f9.length → m.f9.length - j < K → ∃ b, annuletlaw08_Large.l0 K j m.f0 m.f1 m.f2 m.f3 m.f4 m.f5 m.f6 m.f7.f0 m.f7.f1 m.f8 m.f9 = some b
  | 0, j, hj, hk => by omega
  | K + 1, j, hj, hk => by
    rw [annuletlaw08_Large.l0]
    by_cases h2 : j < m.f9.length
    · have hw : wrap64 ((j : Int) + 1) = ((j + 1 : Nat) : Int) := by unfold wrap64; omega
      rw [if_pos (by omega), if_pos (by omega), hw]
      split
      · exact ⟨_, rfl⟩
      · split
        · exact ⟨_, rfl⟩
        · exact mlarge_l0 m h K (j + 1) (by omega) (by omega)
    · rw [if_neg (by omega)]; exact ⟨_, rfl⟩
theorem mlarge_f (m : S37) : ∃ b, annuletlaw08_Large.f 1000 m.f0 m.f1 m.f2 m.f3 m.f4 m.f5 m.f6 m.f7.f0 m.f7.f1 m.f8 m.f9 = some b ∧ (b = false → m.f8.length ≤ 40 ∧ m.f9.length ≤ 20) := by
  have ht : annuletlaw08_Large.j0 1000 true m.f0 m.f1 m.f2 m.f3 m.f4 m.f5 m.f6 m.f7.f0 m.f7.f1 m.f8 m.f9 = some true := by
    show annuletlaw08_Large.j0 (999 + 1) true m.f0 m.f1 m.f2 m.f3 m.f4 m.f5 m.f6 m.f7.f0 m.f7.f1 m.f8 m.f9 = _
    rw [annuletlaw08_Large.j0, if_pos rfl]
  unfold annuletlaw08_Large.f
  by_cases h1 : (m.f5.size : Int) > 300
  · rw [if_pos h1]; exact ⟨true, ht, fun h => by cases h⟩
  rw [if_neg h1]
  by_cases h2 : (m.f6.size : Int) > 700
  · rw [if_pos h2]; exact ⟨true, ht, fun h => by cases h⟩
  rw [if_neg h2]
  by_cases h3 : (m.f8.length : Int) > 40
  · rw [if_pos h3]; exact ⟨true, ht, fun h => by cases h⟩
  rw [if_neg h3]
  by_cases h4 : (m.f9.length : Int) > 20
  · rw [decide_eq_true h4]; exact ⟨true, ht, fun h => by cases h⟩
  · rw [decide_eq_false h4]
    obtain ⟨b, hb⟩ := mlarge_l0 m (by omega) 999 0 (by omega) (by omega)
    refine ⟨b, ?_, fun _ => by omega⟩
    show annuletlaw08_Large.j0 (999 + 1) false m.f0 m.f1 m.f2 m.f3 m.f4 m.f5 m.f6 m.f7.f0 m.f7.f1 m.f8 m.f9 = _
    rw [annuletlaw08_Large.j0, if_neg (by simp)]
    exact hb
theorem mlarge_ok (m : S37) (s : MA) : ∃ b, (∀ w : World, MC w m s → Calls Try.prog 7 #[mv m s] w fun e w' => e = .returned (.bool b) ∧ Below w.heap.size w w') ∧ (b = false → m.f8.length ≤ 40 ∧ m.f9.length ≤ 20) := by
  obtain ⟨b, hb, hf⟩ := mlarge_f m
  exact ⟨b, fun w h => annuletlaw08_Large.calls 1000 m.f0 m.f1 m.f2 m.f3 m.f4 m.f5 m.f6 m.f7.f0 m.f7.f1 s.A9 s.c9 m.f8 s.A10 s.c10 m.f9 b w h.r9 h.q9 h.r10 h.q10 hb, hf⟩
/-- The node that has asked, its clock at any time. -/
def wN (n : ND) (rid clk : Int) (p : S51) : ND := { n with a2 := clk, a11 := rid, l8 := [p] }
def wE (n : ND) (rid clk : Int) : ND := { n with a2 := clk, a11 := rid, l8 := [] }
theorem wN_nb {n : ND} (h : NB n) (rid clk : Int) (p : S51) : NB (wN n rid clk p) := ⟨h.b4, h.b5, h.b6, h.b7, (by show 1 * 56 ≤ _; omega), h.b9, h.b10⟩
theorem wE_nb {n : ND} (h : NB n) (rid clk : Int) : NB (wE n rid clk) := ⟨h.b4, h.b5, h.b6, h.b7, (by show 0 * 56 ≤ _; omega), h.b9, h.b10⟩
theorem wN_nc {w : World} {n : ND} {rid clk clk' : Int} {p : S51} {s : NA} (h : NC w (wN n rid clk p) s) : NC w (wN n rid clk' p) s := ⟨h.r4, h.q4, h.r5, h.q5, h.r6, h.q6, h.r7, h.q7, h.r8, h.q8, h.r9, h.q9, h.r10, h.q10⟩
theorem w_early {n : ND} {rid clk : Int} {p : S51} (h : ¬ p.f5 < clk) : lateL (wN n rid clk p) = [] ∧ restL (wN n rid clk p) = [p] := by
  unfold lateL restL wN
  simp [h]
theorem w_late {n : ND} {rid clk : Int} {p : S51} (h : p.f5 < clk) : lateL (wN n rid clk p) = [p] ∧ restL (wN n rid clk p) = [] := by
  unfold lateL restL wN
  simp [h]
set_option maxRecDepth 100000 in
set_option maxHeartbeats 16000000 in
theorem waits_calls (n : ND) (s : NA) (t0 t1 : Int) (m : S37) (ms : MA) (why : Int) (w : World) (h : NC w n s) (hb : NB n) (hm : MC w m ms) (hmb : MB m) :
    Calls Try.prog 5 #[nv n s, .agg #[.int .u64 t0, .int .u16 t1], mv m ms, .int .i64 why] w fun e w' => e = .returned (.bool true) ∧ Below w.heap.size w w' := by
  obtain ⟨lg, HLG, hlb⟩ := large_ok n s
  obtain ⟨lm, HLM, hlm⟩ := mlarge_ok m ms
  have HLG := Aside0.mk HLG
  have HLM := Aside0.mk HLM
  obtain ⟨g, hg⟩ : ∃ g, w.heap.size = g := ⟨_, rfl⟩
  obtain ⟨W, hW⟩ : ∃ W, ((w.alloc (.cells #[.int .u64 n.a0, .int .u16 n.a1, .int .i64 n.a2, .bool n.a3, .slice s.A4 n.l4.length s.c4, .slice s.A5 n.l5.length s.c5, .slice s.A6 n.l6.length s.c6, .slice s.A7 n.l7.length s.c7, .slice s.A8 n.l8.length s.c8, .slice s.A9 n.l9.length s.c9, .slice s.A10 n.l10.length s.c10, .int .u32 n.a11, .int .i64 n.a12, .int .i64 n.a13] 34)).alloc (.cells #[.int .u64 t0, .int .u16 t1] 25)).alloc (.cells #[.int .i64 m.f0, .int .u32 m.f1, .int .u8 m.f2, .bool m.f3, .int .u64 m.f4, .string m.f5, .string m.f6, .int .u64 m.f7.f0, .int .u16 m.f7.f1, .slice ms.A9 m.f8.length ms.c9, .slice ms.A10 m.f9.length ms.c10] 37) = W := ⟨_, rfl⟩
  obtain ⟨hbW, hsW, e4, e5, e6⟩ := alloc3 hW
  rw [hg] at hsW e4 e5 e6
  have HAW : Aside0 (∀ V, Calls Try.prog 8 #[] V fun e w' => e = .returned (.bool true) ∧ Below V.heap.size V w') := ⟨awake_ok⟩
  have HN := Aside0.mk h
  have HNB := Aside0.mk hb
  have HM := Aside0.mk hm
  have HMB := Aside0.mk hmb
  have HGG := Aside0.mk hg
  have HBW := Aside0.mk hbW
  have HE := Aside0.mk (And.intro e4 (And.intro e5 e6))
  clear h hb hm hmb hbW hsW e5 e6 hlb hlm
  cases lg with
  | true =>
    go_enter Try.func5, Try.ntmps5
    go_wp2_with (refine gate_ (.load 34 (.tmp 4)) rfl ?_; refine wpList_load_row rfl 34 _ rfl (g) rfl 34 _ (0, 0) _ e4 Try.underlying34 rfl (by kernel_rfl) ?_)
    refine (HLG.out W (HN.out.below HBW.out)).mono ?_
    rintro e w1 ⟨rfl, hb1⟩
    have HB1 := Aside0.mk (below_then HBW.out HBW.out.size hb1)
    clear hb1 e4 hW
    go_wp2_with fail
    refine (HAW.out w1).mono ?_
    rintro e wz ⟨rfl, hbz⟩
    have HBZ := Aside0.mk hbz
    clear hbz
    go_wp2_with fail
    go_ret
    exact ⟨rfl, below_then (HB1.out) (HB1.out).size HBZ.out⟩
  | false =>
    have HSTEP : Aside0 (∀ w1, Below W.heap.size W w1 → Below w.heap.size w w1 ∧ w1.heap[g]? = some (.cells #[.int .u64 n.a0, .int .u16 n.a1, .int .i64 n.a2, .bool n.a3, .slice s.A4 n.l4.length s.c4, .slice s.A5 n.l5.length s.c5, .slice s.A6 n.l6.length s.c6, .slice s.A7 n.l7.length s.c7, .slice s.A8 n.l8.length s.c8, .slice s.A9 n.l9.length s.c9, .slice s.A10 n.l10.length s.c10, .int .u32 n.a11, .int .i64 n.a12, .int .i64 n.a13] 34 (0, 0)) ∧ w1.heap[g + 1]? = some (.cells #[.int .u64 t0, .int .u16 t1] 25 (0, 0)) ∧ w1.heap[g + 1 + 1]? = some (.cells #[.int .i64 m.f0, .int .u32 m.f1, .int .u8 m.f2, .bool m.f3, .int .u64 m.f4, .string m.f5, .string m.f6, .int .u64 m.f7.f0, .int .u16 m.f7.f1, .slice ms.A9 m.f8.length ms.c9, .slice ms.A10 m.f9.length ms.c10] 37 (0, 0))) := ⟨fun w1 hb1 => ⟨below_then HBW.out HBW.out.size hb1, (hb1.block _ (blk_lt HE.out.1)).trans HE.out.1, (hb1.block _ (blk_lt HE.out.2.1)).trans HE.out.2.1, (hb1.block _ (blk_lt HE.out.2.2)).trans HE.out.2.2⟩⟩
    have hcs : lm = true ∨ (lm = false ∧ n.a2 < 0) ∨ (lm = false ∧ 0 ≤ n.a2 ∧ n.a2 > 1099511627776) ∨ (lm = false ∧ 0 ≤ n.a2 ∧ n.a2 ≤ 1099511627776 ∧ (63 : Int) < (n.l8.length : Int)) ∨ (lm = false ∧ 0 ≤ n.a2 ∧ n.a2 ≤ 1099511627776 ∧ (n.l8.length : Int) ≤ 63) := by
      cases lm
      · refine .inr ?_
        by_cases h1 : n.a2 < 0
        · exact .inl ⟨rfl, h1⟩
        · by_cases h2 : n.a2 > 1099511627776
          · exact .inr (.inl ⟨rfl, by omega, h2⟩)
          · by_cases h3 : (63 : Int) < (n.l8.length : Int)
            · exact .inr (.inr (.inl ⟨rfl, by omega, by omega, h3⟩))
            · exact .inr (.inr (.inr ⟨rfl, by omega, by omega, by omega⟩))
      · exact .inl rfl
    rcases hcs with rfl | ⟨rfl, h1⟩ | ⟨rfl, h0, h1⟩ | ⟨rfl, h0, h1, h2⟩ | ⟨rfl, h0, h1, h2⟩
    iterate 4
      · try have p1 : (n.a2 < 0) = False := eq_false (by omega)
        try have p2 : (1099511627776 < n.a2) = False := eq_false (by omega)
        try replace h1 := eq_true h1
        try replace h2 := eq_true h2
        go_enter Try.func5, Try.ntmps5
        go_wp2_with (refine gate_ (.load 34 (.tmp 4)) rfl ?_; refine wpList_load_row rfl 34 _ rfl (g) rfl 34 _ (0, 0) _ e4 Try.underlying34 rfl (by kernel_rfl) ?_)
        refine (HLG.out W (HN.out.below HBW.out)).mono ?_
        rintro e w1 ⟨rfl, hb1⟩
        obtain ⟨hw1, q4, q5, q6⟩ := HSTEP.out w1 hb1
        have HW1 := Aside0.mk hw1
        have Q4 := Aside0.mk q4
        obtain ⟨d0, d1, d2, d3, d4, d5, d6, d7, d8, d9, d10, _⟩ := box11f q6
        clear hb1 e4 hW hw1 q4 q5 q6
        go_wp2_with fail
        refine (HLM.out w1 (HM.out.below HW1.out)).mono ?_
        rintro e w2 ⟨rfl, hb2⟩
        have HB2 := Aside0.mk (below_then HW1.out HW1.out.size hb2)
        have q4 := (hb2.block _ (blk_lt Q4.out)).trans Q4.out
        have c2 : w2.cell? ⟨g, 2, none⟩ = some (.int .i64 n.a2) := (blk_cell q4 2).trans rfl
        have c8 : w2.cell? ⟨g, 8, none⟩ = some (.slice s.A8 n.l8.length s.c8) := (blk_cell q4 8).trans rfl
        clear hb2 q4 d0 d1 d2 d3 d4 d5 d6 d7 d8 d9 d10
        go_wp2_with fail
        refine (HAW.out w2).mono ?_
        rintro e wz ⟨rfl, hbz⟩
        have HBZ := Aside0.mk hbz
        clear hbz
        go_wp2_with fail
        go_ret
        exact ⟨rfl, below_then (HB2.out) (HB2.out).size HBZ.out⟩
    have p1 : (n.a2 < 0) = False := eq_false (by omega)
    have p2 : (1099511627776 < n.a2) = False := eq_false (by omega)
    have p3 : ((63 : Int) < (n.l8.length : Int)) = False := eq_false (by omega)
    obtain ⟨rid, hrid⟩ : ∃ rid, IntKind.u32.wrap (n.a11 + 1) = rid := ⟨_, rfl⟩
    obtain ⟨p, hp⟩ : ∃ p, askPend { n with l8 := [] } t0 t1 m why 0 = p := ⟨_, rfl⟩
    have hp5 : p.f5 = n.a2 + 8 ∧ p.f0 = rid := by
      rw [← hp]
      refine ⟨?_, hrid⟩
      show nowF { n with l8 := [] } + 8 = _
      unfold nowF
      rw [if_neg (show ¬ n.a2 < 0 by omega), if_neg (show ¬ n.a2 > 1099511627776 by omega)]
    have HASK : Aside0 (∀ V, Below w.heap.size w V → Calls Try.prog 10 #[.agg #[.int .u64 n.a0, .int .u16 n.a1, .int .i64 n.a2, .bool n.a3, .slice s.A4 n.l4.length s.c4, .slice s.A5 n.l5.length s.c5, .slice s.A6 n.l6.length s.c6, .slice s.A7 n.l7.length s.c7, .slice none 0 0, .slice s.A9 n.l9.length s.c9, .slice s.A10 n.l10.length s.c10, .int .u32 n.a11, .int .i64 n.a12, .int .i64 n.a13], .agg #[.int .u64 t0, .int .u16 t1], mv m ms, .int .i64 why, .int .i64 0] V fun e w' => ∃ s1 : NA, ∃ A c, e = .returned (.tuple #[.agg #[.int .u64 n.a0, .int .u16 n.a1, .int .i64 n.a2, .bool n.a3, .slice s1.A4 n.l4.length s1.c4, .slice s1.A5 n.l5.length s1.c5, .slice s1.A6 n.l6.length s1.c6, .slice s1.A7 n.l7.length s1.c7, .slice s1.A8 1 s1.c8, .slice s1.A9 n.l9.length s1.c9, .slice s1.A10 n.l10.length s1.c10, .int .u32 rid, .int .i64 n.a12, .int .i64 n.a13], .slice A 1 c]) ∧ NC w' (wN n rid n.a2 p) s1 ∧ Kd.C k63 w' A 1 [⟨⟨t0, t1⟩, { m with f1 := rid }⟩] ∧ Below V.heap.size V w') := ⟨fun V hV => by
      have hn := HN.out.below hV
      have hh := ask_ok { n with l8 := [] } { s with A8 := none, c8 := 0 } t0 t1 m ms why 0 V ⟨hn.r4, hn.q4, hn.r5, hn.q5, hn.r6, hn.q6, hn.r7, hn.q7, C_nil _ _, Nat.le_refl _, hn.r9, hn.q9, hn.r10, hn.q10⟩ (wE_nb HNB.out n.a11 n.a2) (HM.out.below hV) HMB.out
      have e1 : askN { n with l8 := [] } t0 t1 m why 0 = wN n rid n.a2 p := by
        unfold askN
        rw [if_neg (by show ¬ 64 ≤ 0; omega), hp]
        show ({ n with a11 := IntKind.u32.wrap (n.a11 + 1), l8 := [p] } : ND) = _
        rw [hrid]; rfl
      have e2 : askO { n with l8 := [] } t0 t1 m = [⟨⟨t0, t1⟩, { m with f1 := rid }⟩] := by
        unfold askO
        rw [if_neg (by show ¬ 64 ≤ 0; omega)]
        show [(⟨⟨t0, t1⟩, { m with f1 := IntKind.u32.wrap (n.a11 + 1) }⟩ : S63)] = _
        rw [hrid]
      rw [e1, e2] at hh
      exact hh.mono fun e w' ⟨s1, A, c, he, hN, hc, hC, hb⟩ => ⟨s1, A, c, he, hN, hC, hb⟩⟩
    have HEARLY : Aside0 (∀ (V : World) (s1 : NA) (clk : Int), NC V (wN n rid n.a2 p) s1 → clk ≤ n.a2 + 8 → Calls Try.prog 16 #[.agg #[.int .u64 n.a0, .int .u16 n.a1, .int .i64 clk, .bool n.a3, .slice s1.A4 n.l4.length s1.c4, .slice s1.A5 n.l5.length s1.c5, .slice s1.A6 n.l6.length s1.c6, .slice s1.A7 n.l7.length s1.c7, .slice s1.A8 1 s1.c8, .slice s1.A9 n.l9.length s1.c9, .slice s1.A10 n.l10.length s1.c10, .int .u32 rid, .int .i64 n.a12, .int .i64 n.a13]] V fun e w' => ∃ s2 : NA, ∃ A c, e = .returned (.tuple #[.agg #[.int .u64 n.a0, .int .u16 n.a1, .int .i64 clk, .bool n.a3, .slice s2.A4 n.l4.length s2.c4, .slice s2.A5 n.l5.length s2.c5, .slice s2.A6 n.l6.length s2.c6, .slice s2.A7 n.l7.length s2.c7, .slice s2.A8 1 s2.c8, .slice s2.A9 n.l9.length s2.c9, .slice s2.A10 n.l10.length s2.c10, .int .u32 rid, .int .i64 n.a12, .int .i64 n.a13], .slice A 0 c]) ∧ Below V.heap.size V w') := ⟨fun V s1 clk hV hc => by
      have hh := late_ok (wN n rid clk p) s1 V (wN_nc hV) (wN_nb HNB.out rid clk p) (by show 1 ≤ _; omega)
      obtain ⟨h3, h4⟩ := w_early (n := n) (rid := rid) (clk := clk) (p := p) (by rw [hp5.1]; omega)
      rw [h3, h4] at hh
      exact hh.mono fun e w' ⟨s2, A, c, he, hN, hc, hC, hb⟩ => ⟨s2, A, c, he, hb⟩⟩
    have HLATE : Aside0 (∀ (V : World) (s1 : NA), NC V (wN n rid n.a2 p) s1 → Calls Try.prog 16 #[.agg #[.int .u64 n.a0, .int .u16 n.a1, .int .i64 (n.a2 + 8 + 1), .bool n.a3, .slice s1.A4 n.l4.length s1.c4, .slice s1.A5 n.l5.length s1.c5, .slice s1.A6 n.l6.length s1.c6, .slice s1.A7 n.l7.length s1.c7, .slice s1.A8 1 s1.c8, .slice s1.A9 n.l9.length s1.c9, .slice s1.A10 n.l10.length s1.c10, .int .u32 rid, .int .i64 n.a12, .int .i64 n.a13]] V fun e w' => ∃ s2 : NA, ∃ A c, e = .returned (.tuple #[.agg #[.int .u64 n.a0, .int .u16 n.a1, .int .i64 (n.a2 + 8 + 1), .bool n.a3, .slice s2.A4 n.l4.length s2.c4, .slice s2.A5 n.l5.length s2.c5, .slice s2.A6 n.l6.length s2.c6, .slice s2.A7 n.l7.length s2.c7, .slice s2.A8 0 s2.c8, .slice s2.A9 n.l9.length s2.c9, .slice s2.A10 n.l10.length s2.c10, .int .u32 rid, .int .i64 n.a12, .int .i64 n.a13], .slice A 1 c]) ∧ NC w' (wE n rid (n.a2 + 8 + 1)) s2 ∧ Kd.C k51 w' A 1 [p] ∧ Below V.heap.size V w') := ⟨fun V s1 hV => by
      have hh := late_ok (wN n rid (n.a2 + 8 + 1) p) s1 V (wN_nc hV) (wN_nb HNB.out rid _ p) (by show 1 ≤ _; omega)
      obtain ⟨h3, h4⟩ := w_late (n := n) (rid := rid) (clk := n.a2 + 8 + 1) (p := p) (by rw [hp5.1]; omega)
      rw [h3, h4] at hh
      exact hh.mono fun e w' ⟨s2, A, c, he, hN, hc, hC, hb⟩ => ⟨s2, A, c, he, hN, hC, hb⟩⟩
    have HAGAIN : Aside0 (∀ (V : World) (s1 : NA), NC V (wE n rid (n.a2 + 8 + 1)) s1 → Calls Try.prog 16 #[.agg #[.int .u64 n.a0, .int .u16 n.a1, .int .i64 (n.a2 + 8 + 1), .bool n.a3, .slice s1.A4 n.l4.length s1.c4, .slice s1.A5 n.l5.length s1.c5, .slice s1.A6 n.l6.length s1.c6, .slice s1.A7 n.l7.length s1.c7, .slice s1.A8 0 s1.c8, .slice s1.A9 n.l9.length s1.c9, .slice s1.A10 n.l10.length s1.c10, .int .u32 rid, .int .i64 n.a12, .int .i64 n.a13]] V fun e w' => ∃ s2 : NA, ∃ A c, e = .returned (.tuple #[.agg #[.int .u64 n.a0, .int .u16 n.a1, .int .i64 (n.a2 + 8 + 1), .bool n.a3, .slice s2.A4 n.l4.length s2.c4, .slice s2.A5 n.l5.length s2.c5, .slice s2.A6 n.l6.length s2.c6, .slice s2.A7 n.l7.length s2.c7, .slice s2.A8 0 s2.c8, .slice s2.A9 n.l9.length s2.c9, .slice s2.A10 n.l10.length s2.c10, .int .u32 rid, .int .i64 n.a12, .int .i64 n.a13], .slice A 0 c]) ∧ Below V.heap.size V w') := ⟨fun V s1 hV => by
      have hh := late_ok (wE n rid (n.a2 + 8 + 1)) s1 V hV (wE_nb HNB.out rid _) (by show 0 ≤ _; omega)
      exact hh.mono fun e w' ⟨s2, A, c, he, hN, hc, hC, hb⟩ => ⟨s2, A, c, he, hb⟩⟩
    have HP5 := Aside0.mk hp5
    clear hp hp5 h2
    go_enter Try.func5, Try.ntmps5
    go_wp2_with (refine gate_ (.load 34 (.tmp 4)) rfl ?_; refine wpList_load_row rfl 34 _ rfl (g) rfl 34 _ (0, 0) _ e4 Try.underlying34 rfl (by kernel_rfl) ?_)
    refine (HLG.out W (HN.out.below HBW.out)).mono ?_
    rintro e w1 ⟨rfl, hb1⟩
    obtain ⟨hw1, q4, q5, q6⟩ := HSTEP.out w1 hb1
    have HW1 := Aside0.mk hw1
    have HB1 := Aside0.mk hb1
    obtain ⟨d0, d1, d2, d3, d4, d5, d6, d7, d8, d9, d10, _⟩ := box11f q6
    clear hb1 e4 hW hw1 q4 q5 q6
    go_wp2_with fail
    refine (HLM.out w1 (HM.out.below HW1.out)).mono ?_
    rintro e w2 ⟨rfl, hb2⟩
    obtain ⟨hw2, q4, q5, q6⟩ := HSTEP.out w2 (below_then HB1.out HB1.out.size hb2)
    have HW2 := Aside0.mk hw2
    have Q5 := Aside0.mk q5
    have Q6 := Aside0.mk q6
    have c2 : w2.cell? ⟨g, 2, none⟩ = some (.int .i64 n.a2) := (blk_cell q4 2).trans rfl
    have c8 : w2.cell? ⟨g, 8, none⟩ = some (.slice s.A8 n.l8.length s.c8) := (blk_cell q4 8).trans rfl
    clear hb2 hw2 q5 q6 d0 d1 d2 d3 d4 d5 d6 d7 d8 d9 d10
    go_wp2_with (first
      | (refine store_box (.store 29 (.tmp 41) (.const (.slice none 0 0))) 29 _ _ (g) 8 _ #[.int .u64 n.a0, .int .u16 n.a1, .int .i64 n.a2, .bool n.a3, .slice s.A4 n.l4.length s.c4, .slice s.A5 n.l5.length s.c5, .slice s.A6 n.l6.length s.c6, .slice s.A7 n.l7.length s.c7, .slice none 0 0, .slice s.A9 n.l9.length s.c9, .slice s.A10 n.l10.length s.c10, .int .u32 n.a11, .int .i64 n.a12, .int .i64 n.a13] 34 (.slice none 0 0) [.slice none 0 0] rfl rfl rfl rfl rfl rfl q4 rfl (by kernel_rfl) (by simp) (by simp [Value.oneCell']) (by simp) ?_; intro w3 e4 hs3; have HS3 := Aside0.mk hs3; have q5 := HS3.out.blk (by omega) Q5.out; have q6 := HS3.out.blk (by omega) Q6.out; clear hs3 q4 c2 c8)
      | (refine gate_ (.load 34 (.tmp 4)) rfl ?_; refine wpList_load_row rfl 34 _ rfl (g) rfl 34 _ (0, 0) _ e4 Try.underlying34 rfl (by kernel_rfl) ?_)
      | (refine gate_ (.load 25 (.tmp 5)) rfl ?_; refine wpList_load_row rfl 25 _ rfl (g + 1) rfl 25 _ (0, 0) _ q5 Try.underlying25 rfl (by kernel_rfl) ?_)
      | (refine gate_ (.load 37 (.tmp 6)) rfl ?_; refine wpList_load_row rfl 37 _ rfl (g + 1 + 1) rfl 37 _ (0, 0) _ q6 Try.underlying37 rfl (by kernel_rfl) ?_))
    have HW3 : Aside0 (Below w.heap.size w w3) := ⟨HS3.out.on (by have := HGG.out; omega) HW2.out⟩
    refine (HASK.out w3 HW3.out).mono ?_
    rintro e w4 ⟨s1, A, c, rfl, hN4, hC4, hb4⟩
    have HN4 := Aside0.mk hN4
    have HC4 := Aside0.mk hC4
    have HW4 := Aside0.mk (below_then HW3.out HW3.out.size hb4)
    have E4 := Aside0.mk ((hb4.block _ (blk_lt e4)).trans e4)
    have hz := heap_alloc_new w4 (.cells #[.int .u64 0, .int .u16 0, .int .i64 0, .bool false, .slice none 0 0, .slice none 0 0, .slice none 0 0, .slice none 0 0, .slice none 0 0, .slice none 0 0, .slice none 0 0, .int .u32 0, .int .i64 0, .int .i64 0] 34)
    clear hN4 hC4 hb4 e4 q5 q6
    go_wp2_with (refine store_box (.store 34 (.tmp 9) (.tmp 48)) 34 _ _ (w4.heap.size) 0 _ #[.int .u64 n.a0, .int .u16 n.a1, .int .i64 n.a2, .bool n.a3, .slice s1.A4 n.l4.length s1.c4, .slice s1.A5 n.l5.length s1.c5, .slice s1.A6 n.l6.length s1.c6, .slice s1.A7 n.l7.length s1.c7, .slice s1.A8 1 s1.c8, .slice s1.A9 n.l9.length s1.c9, .slice s1.A10 n.l10.length s1.c10, .int .u32 rid, .int .i64 n.a12, .int .i64 n.a13] 34 _ [.int .u64 n.a0, .int .u16 n.a1, .int .i64 n.a2, .bool n.a3, .slice s1.A4 n.l4.length s1.c4, .slice s1.A5 n.l5.length s1.c5, .slice s1.A6 n.l6.length s1.c6, .slice s1.A7 n.l7.length s1.c7, .slice s1.A8 1 s1.c8, .slice s1.A9 n.l9.length s1.c9, .slice s1.A10 n.l10.length s1.c10, .int .u32 rid, .int .i64 n.a12, .int .i64 n.a13] rfl rfl rfl rfl rfl rfl hz rfl (by kernel_rfl) (by simp) (by simp [Value.oneCell']) (by simp) ?_; intro v5 e9 hs5; have HB5 := Aside0.mk (sto_new hs5); clear hs5 hz; refine hold_ ?_)
    intro _
    obtain ⟨b9, hb9⟩ : ∃ b9, w4.heap.size = b9 := ⟨_, rfl⟩
    have HB9 := Aside0.mk hb9
    have hN5 := HN4.out.below HB5.out
    obtain ⟨ad, ha8, x0, _⟩ := at_T51 hN5.r8 0 (by decide) (show (0 : Int) < ((1 : Nat) : Int) by decide)
    obtain ⟨ad1, A11, c11, A12, c12, ha1, y0, y1, y2, y3, _⟩ := at_T63 (Kd.C_below HC4.out HB5.out) 0 (by decide) (show (0 : Int) < ((1 : Nat) : Int) by decide)
    subst ha1
    have e0 : ∀ a : Addr, a.add ((0 : Int).toNat * 7) = a := fun a => by simp [Addr.add]
    have e0' : ∀ a : Addr, a.add ((0 : Int).toNat * 13) = a := fun a => by simp [Addr.add]
    rw [e0] at x0
    rw [e0'] at y3
    have x0' : v5.cell? ad = some (.int .u32 rid) := by rw [← HP5.out.2]; exact x0
    have x0'' : v5.cell? ⟨ad.block, ad.off, none⟩ = some (.int .u32 rid) ∨ True := .inr trivial
    have y3' : v5.cell? ⟨ad1.block, ad1.off + 3, none⟩ = some (.int .u32 rid) := y3
    rw [hb9] at e9 ⊢
    have c98 : v5.cell? ⟨b9, 8, none⟩ = some (.slice (some ad) 1 s1.c8) := by rw [← ha8]; exact (blk_cell e9 8).trans rfl
    have c911 : v5.cell? ⟨b9, 11, none⟩ = some (.int .u32 rid) := (blk_cell e9 11).trans rfl
    have cg11 : v5.cell? ⟨g, 11, none⟩ = some (.int .u32 n.a11) := (blk_cell ((HB5.out.block _ (blk_lt E4.out)).trans E4.out) 11).trans rfl
    have E9 := Aside0.mk e9
    clear e0 e0' x0 x0'' y0 y1 y2 y3 hN5 e9 ha8
    go_wp2_with fail
    go_quiet (fail)
    have HB5b : Aside0 (Below b9 w4 v5) := ⟨by rw [← HB9.out]; exact HB5.out⟩
    have HST : Aside0 (∀ q, (v5.drewN q).heap[b9]? = some (.cells #[.int .u64 n.a0, .int .u16 n.a1, .int .i64 n.a2, .bool n.a3, .slice s1.A4 n.l4.length s1.c4, .slice s1.A5 n.l5.length s1.c5, .slice s1.A6 n.l6.length s1.c6, .slice s1.A7 n.l7.length s1.c7, .slice s1.A8 1 s1.c8, .slice s1.A9 n.l9.length s1.c9, .slice s1.A10 n.l10.length s1.c10, .int .u32 rid, .int .i64 n.a12, .int .i64 n.a13] 34 (0, 0))) := ⟨fun q => ((pw_below_drewN (Below.refl v5.heap.size v5) q).block _ (blk_lt E9.out)).trans E9.out⟩
    have HCLK : Aside0 (0 ≤ n.a2 ∧ n.a2 ≤ 1099511627776) := ⟨⟨h0, h1⟩⟩
    clear x0' y3' c98 c911 cg11
    go_wp2_with fail
    go_loopg [11] 8 (fun gg s11 wr => ∃ k : Nat, k ≤ 8 ∧ 8 - k ≤ gg ∧ s11 = .int .i64 k ∧ Aside0 (wr.heap[b9]? = some (.cells #[.int .u64 n.a0, .int .u16 n.a1, .int .i64 (n.a2 + (k : Int)), .bool n.a3, .slice s1.A4 n.l4.length s1.c4, .slice s1.A5 n.l5.length s1.c5, .slice s1.A6 n.l6.length s1.c6, .slice s1.A7 n.l7.length s1.c7, .slice s1.A8 1 s1.c8, .slice s1.A9 n.l9.length s1.c9, .slice s1.A10 n.l10.length s1.c10, .int .u32 rid, .int .i64 n.a12, .int .i64 n.a13] 34 (0, 0))) ∧ Aside0 (Below b9 w4 wr))
    case atStart => exact ⟨0, by omega, by omega, rfl, ⟨by rw [show n.a2 + ((0 : Nat) : Int) = n.a2 by omega]; exact HST.out _⟩, ⟨pw_below_drewN HB5b.out _⟩⟩
    case round =>
      obtain ⟨k, hk, hgg, rfl, HEk, HBk⟩ := hrel
      by_cases hlt : k < 8
      · have hlt' : ((k : Int) < 8) = True := eq_true (by omega)
        have c2 : wr.cell? ⟨b9, 2, none⟩ = some (.int .i64 (n.a2 + (k : Int))) := (blk_cell HEk.out 2).trans rfl
        have hwk : wrap64 (n.a2 + (k : Int) + 1) = n.a2 + (k : Int) + 1 := by have := HCLK.out; unfold wrap64; omega
        have e9 := HEk.out
        go_wp2_with (first
          | (refine store_box (.store 3 (.tmp 94) (.tmp 93)) 3 _ _ (b9) 2 _ #[.int .u64 n.a0, .int .u16 n.a1, .int .i64 (n.a2 + (k : Int) + 1), .bool n.a3, .slice s1.A4 n.l4.length s1.c4, .slice s1.A5 n.l5.length s1.c5, .slice s1.A6 n.l6.length s1.c6, .slice s1.A7 n.l7.length s1.c7, .slice s1.A8 1 s1.c8, .slice s1.A9 n.l9.length s1.c9, .slice s1.A10 n.l10.length s1.c10, .int .u32 rid, .int .i64 n.a12, .int .i64 n.a13] 34 (.int .i64 (n.a2 + (k : Int) + 1)) [.int .i64 (n.a2 + (k : Int) + 1)] rfl rfl rfl rfl rfl rfl e9 rfl (by kernel_rfl) (by simp) (by simp [Value.oneCell']) (by simp) ?_; intro u1 e9' hs; have HSu := Aside0.mk hs; clear hs e9 c2)
          | (refine gate_ (.load 34 (.tmp 9)) rfl ?_; refine wpList_load_row rfl 34 _ rfl (b9) rfl 34 _ (0, 0) _ e9' Try.underlying34 rfl (by kernel_rfl) ?_))
        have hbu : Below b9 w4 u1 := HSu.out.on (Nat.le_refl _) HBk.out
        have hnc := HN4.out.below (by rw [HB9.out]; exact hbu)
        refine (HEARLY.out u1 s1 _ hnc (by omega)).mono ?_
        rintro e u2 ⟨s2, A2, c2', rfl, hb2⟩
        have hz := heap_alloc_new u2 (.cells #[.int .u64 0, .int .u16 0, .int .i64 0, .bool false, .slice none 0 0, .slice none 0 0, .slice none 0 0, .slice none 0 0, .slice none 0 0, .slice none 0 0, .slice none 0 0, .int .u32 0, .int .i64 0, .int .i64 0] 34)
        have hlt9 := blk_lt e9'
        have HEU := Aside0.mk ((hb2.block b9 hlt9).trans e9')
        have HBU := Aside0.mk (hbu.trans (hb2.mono (Nat.le_of_lt hlt9)))
        clear hb2 hlt9 e9' hbu hnc hwk
        go_wp2_with (refine store_box (.store 34 (.tmp 12) (.tmp 98)) 34 _ _ (u2.heap.size) 0 _ #[.int .u64 n.a0, .int .u16 n.a1, .int .i64 (n.a2 + (k : Int) + 1), .bool n.a3, .slice s2.A4 n.l4.length s2.c4, .slice s2.A5 n.l5.length s2.c5, .slice s2.A6 n.l6.length s2.c6, .slice s2.A7 n.l7.length s2.c7, .slice s2.A8 1 s2.c8, .slice s2.A9 n.l9.length s2.c9, .slice s2.A10 n.l10.length s2.c10, .int .u32 rid, .int .i64 n.a12, .int .i64 n.a13] 34 _ [.int .u64 n.a0, .int .u16 n.a1, .int .i64 (n.a2 + (k : Int) + 1), .bool n.a3, .slice s2.A4 n.l4.length s2.c4, .slice s2.A5 n.l5.length s2.c5, .slice s2.A6 n.l6.length s2.c6, .slice s2.A7 n.l7.length s2.c7, .slice s2.A8 1 s2.c8, .slice s2.A9 n.l9.length s2.c9, .slice s2.A10 n.l10.length s2.c10, .int .u32 rid, .int .i64 n.a12, .int .i64 n.a13] rfl rfl rfl rfl rfl rfl hz rfl (by kernel_rfl) (by simp) (by simp [Value.oneCell']) (by simp) ?_; intro u3 j1 hs; have HB3 := Aside0.mk (sto_new hs); clear hz hs j1)
        go_roundg (8 - (k + 1))
        case measure => omega
        case rel =>
          refine ⟨k + 1, by omega, Nat.le_refl _, by go_num, ⟨?_⟩, ⟨HBU.out.trans (HB3.out.mono (Nat.le_of_lt (blk_lt HEU.out)))⟩⟩
          rw [show n.a2 + ((k + 1 : Nat) : Int) = n.a2 + (k : Int) + 1 by omega]
          exact (HB3.out.block b9 (blk_lt HEU.out)).trans HEU.out
      · have hk8 : k = 8 := by omega
        subst hk8
        have hlt' : (((8 : Nat) : Int) < 8) = False := eq_false (by omega)
        have e9 : wr.heap[b9]? = some (.cells #[.int .u64 n.a0, .int .u16 n.a1, .int .i64 (n.a2 + 8), .bool n.a3, .slice s1.A4 n.l4.length s1.c4, .slice s1.A5 n.l5.length s1.c5, .slice s1.A6 n.l6.length s1.c6, .slice s1.A7 n.l7.length s1.c7, .slice s1.A8 1 s1.c8, .slice s1.A9 n.l9.length s1.c9, .slice s1.A10 n.l10.length s1.c10, .int .u32 rid, .int .i64 n.a12, .int .i64 n.a13] 34 (0, 0)) := HEk.out
        have c2 : wr.cell? ⟨b9, 2, none⟩ = some (.int .i64 (n.a2 + 8)) := (blk_cell e9 2).trans rfl
        have hwk : wrap64 (n.a2 + 8 + 1) = n.a2 + 8 + 1 := by have := HCLK.out; unfold wrap64; omega
        go_wp2_with (first
          | (refine store_box (.store 3 (.tmp 106) (.tmp 105)) 3 _ _ (b9) 2 _ #[.int .u64 n.a0, .int .u16 n.a1, .int .i64 (n.a2 + 8 + 1), .bool n.a3, .slice s1.A4 n.l4.length s1.c4, .slice s1.A5 n.l5.length s1.c5, .slice s1.A6 n.l6.length s1.c6, .slice s1.A7 n.l7.length s1.c7, .slice s1.A8 1 s1.c8, .slice s1.A9 n.l9.length s1.c9, .slice s1.A10 n.l10.length s1.c10, .int .u32 rid, .int .i64 n.a12, .int .i64 n.a13] 34 (.int .i64 (n.a2 + 8 + 1)) [.int .i64 (n.a2 + 8 + 1)] rfl rfl rfl rfl rfl rfl e9 rfl (by kernel_rfl) (by simp) (by simp [Value.oneCell']) (by simp) ?_; intro u1 e9' hs; have HSu := Aside0.mk hs; clear hs e9 c2)
          | (refine gate_ (.load 34 (.tmp 9)) rfl ?_; refine wpList_load_row rfl 34 _ rfl (b9) rfl 34 _ (0, 0) _ e9' Try.underlying34 rfl (by kernel_rfl) ?_))
        have hbu : Below b9 w4 u1 := HSu.out.on (Nat.le_refl _) HBk.out
        have hnc := HN4.out.below (by rw [HB9.out]; exact hbu)
        refine (HLATE.out u1 s1 hnc).mono ?_
        rintro e u2 ⟨s2, A2, c2', rfl, hN2, hC2, hb2⟩
        have hz := heap_alloc_new u2 (.cells #[.int .u64 0, .int .u16 0, .int .i64 0, .bool false, .slice none 0 0, .slice none 0 0, .slice none 0 0, .slice none 0 0, .slice none 0 0, .slice none 0 0, .slice none 0 0, .int .u32 0, .int .i64 0, .int .i64 0] 34)
        have hlt9 := blk_lt e9'
        have HEU := Aside0.mk ((hb2.block b9 hlt9).trans e9')
        have HBU := Aside0.mk (hbu.trans (hb2.mono (Nat.le_of_lt hlt9)))
        have HN2 := Aside0.mk hN2
        have HC2 := Aside0.mk hC2
        clear hb2 hlt9 e9' hbu hnc hwk hN2 hC2
        go_wp2_with (first
          | (refine store_box (.store 34 (.tmp 14) (.tmp 110)) 34 _ _ (u2.heap.size) 0 _ #[.int .u64 n.a0, .int .u16 n.a1, .int .i64 (n.a2 + 8 + 1), .bool n.a3, .slice s2.A4 n.l4.length s2.c4, .slice s2.A5 n.l5.length s2.c5, .slice s2.A6 n.l6.length s2.c6, .slice s2.A7 n.l7.length s2.c7, .slice s2.A8 0 s2.c8, .slice s2.A9 n.l9.length s2.c9, .slice s2.A10 n.l10.length s2.c10, .int .u32 rid, .int .i64 n.a12, .int .i64 n.a13] 34 _ [.int .u64 n.a0, .int .u16 n.a1, .int .i64 (n.a2 + 8 + 1), .bool n.a3, .slice s2.A4 n.l4.length s2.c4, .slice s2.A5 n.l5.length s2.c5, .slice s2.A6 n.l6.length s2.c6, .slice s2.A7 n.l7.length s2.c7, .slice s2.A8 0 s2.c8, .slice s2.A9 n.l9.length s2.c9, .slice s2.A10 n.l10.length s2.c10, .int .u32 rid, .int .i64 n.a12, .int .i64 n.a13] rfl rfl rfl rfl rfl rfl hz rfl (by kernel_rfl) (by simp) (by simp [Value.oneCell']) (by simp) ?_; intro u3 e14 hs; have HB3 := Aside0.mk (sto_new hs); clear hz hs)
          | (refine gate_ (.load 34 (.tmp 14)) rfl ?_; refine wpList_load_row rfl 34 _ rfl (u2.heap.size) rfl 34 _ (0, 0) _ e14 Try.underlying34 rfl (by kernel_rfl) ?_))
        refine (HAGAIN.out u3 s2 (HN2.out.below HB3.out)).mono ?_
        rintro e u4 ⟨s4, A4, c4', rfl, hb4⟩
        have HB24 := Aside0.mk (below_then HB3.out HB3.out.size hb4)
        have hz := heap_alloc_new u4 (.cells #[.int .u64 0, .int .u16 0, .int .i64 0, .bool false, .slice none 0 0, .slice none 0 0, .slice none 0 0, .slice none 0 0, .slice none 0 0, .slice none 0 0, .slice none 0 0, .int .u32 0, .int .i64 0, .int .i64 0] 34)
        clear hb4 e14
        go_wp2_with (refine store_box (.store 34 (.tmp 16) (.tmp 115)) 34 _ _ (u4.heap.size) 0 _ #[.int .u64 n.a0, .int .u16 n.a1, .int .i64 (n.a2 + 8 + 1), .bool n.a3, .slice s4.A4 n.l4.length s4.c4, .slice s4.A5 n.l5.length s4.c5, .slice s4.A6 n.l6.length s4.c6, .slice s4.A7 n.l7.length s4.c7, .slice s4.A8 0 s4.c8, .slice s4.A9 n.l9.length s4.c9, .slice s4.A10 n.l10.length s4.c10, .int .u32 rid, .int .i64 n.a12, .int .i64 n.a13] 34 _ [.int .u64 n.a0, .int .u16 n.a1, .int .i64 (n.a2 + 8 + 1), .bool n.a3, .slice s4.A4 n.l4.length s4.c4, .slice s4.A5 n.l5.length s4.c5, .slice s4.A6 n.l6.length s4.c6, .slice s4.A7 n.l7.length s4.c7, .slice s4.A8 0 s4.c8, .slice s4.A9 n.l9.length s4.c9, .slice s4.A10 n.l10.length s4.c10, .int .u32 rid, .int .i64 n.a12, .int .i64 n.a13] rfl rfl rfl rfl rfl rfl hz rfl (by kernel_rfl) (by simp) (by simp [Value.oneCell']) (by simp) ?_; intro u5 j1 hs; have HB45 := Aside0.mk (sto_new hs); clear hz hs j1; refine hold_ ?_)
        intro _
        have hb25 := below_then HB24.out HB24.out.size HB45.out
        obtain ⟨ad2, ha2, x0, _⟩ := at_T51 (Kd.C_below HC2.out hb25) 0 (by decide) (show (0 : Int) < ((1 : Nat) : Int) by decide)
        subst ha2
        rw [show ∀ a : Addr, a.add ((0 : Int).toNat * 7) = a from fun a => by simp [Addr.add]] at x0
        have x0' : u5.drew.cell? ad2 = some (.int .u32 rid) := by rw [← HP5.out.2]; exact x0
        have e9u := (hb25.block b9 (blk_lt HEU.out)).trans HEU.out
        have c11 : u5.drew.cell? ⟨b9, 11, none⟩ = some (.int .u32 rid) := (blk_cell e9u 11).trans rfl
        have hb5 : Below w.heap.size w u5.drew := by
          have h1 := HW4.out
          have h2 : Below w4.heap.size w4 u2 := by rw [HB9.out]; exact HBU.out
          exact (below_then (below_then h1 h1.size h2) (Nat.le_trans h1.size h2.size) hb25).drew
        have HBF := Aside0.mk hb5
        clear hb25 e9u hb5 x0
        go_wp2_with fail
        refine still_tail_ 18 (by kernel_rfl) (by kernel_rfl) (fun u6 hu6 => ?_)
        rw [← hu6] at HBF x0' c11
        clear hu6
        simp only [List.take_succ_cons, List.take_zero, List.drop_succ_cons, List.drop_zero]
        repeat still_step
        refine wpStill_nil ?_
        go_wp2_with fail
        refine (HAW.out u6).mono ?_
        rintro e wz ⟨rfl, hbz⟩
        have HBZ := Aside0.mk hbz
        clear hbz
        go_wp2_with fail
        go_ret
        exact ⟨rfl, below_then (HBF.out) (HBF.out).size HBZ.out⟩

-- axioms: waits_calls
end Go.Proofs.Ytfgalgeloflilaa.H
