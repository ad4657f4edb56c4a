/- Mine. Chapter 31, by hand: annuletref31.Add. -/
import Derived.Test.YtcnkmajengephaaHG
namespace Go.Proofs.Ytcnkmajengephaa.H
open Go Go.Proofs Go.RowKit Go.Lib Go.Proofs.Ytcnkmajengephaa.P Go.Proofs.YtcnkmajengephaaW.PrintWords Go.Proofs.YtcnkmajengephaaW.PrintLast Go.Proofs.YtcnkmajengephaaW.PrintMore
set_option linter.unusedVariables false
set_option linter.unusedSimpArgs false
/-- A node that reads as n, whatever it shares. -/
def NodeC (n : ND) (w : World) (e : Ending) (w' : World) : Prop := ∃ s, e = .returned (nv n s) ∧ NC w' n s ∧ Below w.heap.size w w'
def AddC (n : ND) (id en : Int) (w : World) (e : Ending) (w' : World) : Prop := ∃ s, e = .returned (.tuple #[nv n s, .int .i64 id, .int .i64 en]) ∧ NC w' n s ∧ Below w.heap.size w w'
set_option maxHeartbeats 2000000 in
theorem rnow_ok (n : ND) (s : NA) (w : World) (h : NC w n s) : Calls Try.prog 24 #[nv n s] w fun e w' => e = .returned (.int .i64 (nowF n)) ∧ Below w.heap.size w w' :=
  annuletref30_Now.calls n.a0 n.a1 n.a2 n.a3 s.A4 s.c4 n.l4 s.A5 s.c5 n.l5 s.A6 s.c6 n.l6 s.A7 s.c7 n.l7 s.A8 s.c8 n.l8 s.A9 s.c9 n.l9 s.A10 s.c10 n.l10 n.a11 n.a12 n.a13 (nowF n) w h.r4 h.q4 h.r5 h.q5 h.r6 h.q6 h.r7 h.q7 h.r8 h.q8 h.r9 h.q9 h.r10 h.q10 (by
    unfold annuletref30_Now.f nowF
    by_cases h1 : n.a2 > 0
    · rw [if_pos h1, if_neg (show ¬ n.a2 < 0 by omega)]
      by_cases h2 : n.a2 ≤ 1099511627776
      · rw [if_pos h2, if_neg (by omega)]
      · rw [if_neg h2, if_pos (by omega)]
    · rw [if_neg h1]
      by_cases h2 : n.a2 < 0
      · rw [if_pos h2]
      · rw [if_neg h2, if_neg (by omega)]; congr 1; omega)
/-- The appends' state. -/
structure RA (w : World) (B g : Nat) (C J : Array Value) (lit : Option Nat) (A : Option Addr) (c : Nat) (xs : List S36) (V : World) : Prop where
  told : ToldS g (g + 1) C J V
  res : V.heap[g + 1 + 1]? = some (.cells #[.int .u64 0, .int .u16 0, .int .i64 0, .bool false, .slice none 0 0, .slice none 0 0, .slice none 0 0, .slice none 0 0, .slice none 0 0, .slice none 0 0, .slice none 0 0, .int .u32 0, .int .i64 0, .int .i64 0] 34 (0, 0))
  bel : Below w.heap.size w V
  sz : B ≤ V.heap.size
  gB : g + 1 + 1 < B
  gw : w.heap.size ≤ g
  own : Kd.R k36 36 V B (fun k => lit ≠ some k) (.slice A xs.length c) xs
  lits : ∀ gl, lit = some gl → V.heap[gl]? = some (.cells J 36 (0, 0))
theorem RA.fresh {w : World} {B g c : Nat} {C J : Array Value} {lit : Option Nat} {A : Option Addr} {xs : List S36} {V : World} (h : RA w B g C J lit A c xs V) : ∀ k, V.heap.size ≤ k → lit ≠ some k := fun k hk e => by
  have := blk_lt (h.lits k e); omega
theorem RA.below {w : World} {B g c : Nat} {C J : Array Value} {lit : Option Nat} {A : Option Addr} {xs : List S36} {V V' : World} (h : RA w B g C J lit A c xs V) (hb : Below V.heap.size V V') : RA w B g C J lit A c xs V' :=
  ⟨h.told.go hb, (hb.block _ (blk_lt h.res)).trans h.res, below_then h.bel h.bel.size hb, Nat.le_trans h.sz hb.size, h.gB, h.gw, Kd.R_below h.own hb, fun gl hl => (hb.block _ (blk_lt (h.lits gl hl))).trans (h.lits gl hl)⟩
theorem RA.first {w : World} {B g : Nat} {C J : Array Value} {lit : Option Nat} {V : World} (h : RA w B g C J lit none 0 [] V) : ∃ V' g0, V.heap.size = g0 ∧ V.alloc (.cells #[] 36) = V' ∧ RA w B g C J lit (some ⟨g0, 0, none⟩) 0 [] V' := by
  refine ⟨_, _, rfl, rfl, ?_⟩
  have h' := h.below (below_alloc (Below.refl _ V) (.cells #[] 36))
  refine ⟨h'.told, h'.res, h'.bel, h'.sz, h.gB, h.gw, ⟨fun k hk => ?_, [], World.ownsRow_made V #[] 0 h.sz (by decide) (by simp), Reps.none _ _⟩, h'.lits⟩
  have hk' : V.heap.size = k := Option.some.inj hk
  exact h.fresh k (by omega)
theorem RA.lit1 {w : World} {B g c : Nat} {C J : Array Value} {A : Option Addr} {xs : List S36} {V : World} (h : RA w B g C J none A c xs V) : ∃ V' gl, V.heap.size = gl ∧ V.alloc (.cells J 36) = V' ∧ RA w B g C J (some gl) A c xs V' := by
  refine ⟨_, _, rfl, rfl, ?_⟩
  have hb := below_alloc (Below.refl V.heap.size V) (.cells J 36)
  have h' := h.below hb
  refine ⟨h'.told, h'.res, h'.bel, h'.sz, h.gB, h.gw, Kd.R_below (Kd.R_mono (Kd.R_bound h.own) (fun k hk e => ?_)) hb, fun gl hl => ?_⟩
  · have := hk.2.2.1
    injection e with e
    omega
  · injection hl with hl
    rw [← hl]; exact heap_alloc_new V _
theorem RA.grow {w : World} {B g c c' : Nat} {C J : Array Value} {lit : Option Nat} {A A' : Option Addr} {xs ys : List S36} {V V' : World} (h : RA w B g C J lit A c xs V) (hg : V.grownBy V' (Value.slice A xs.length c).ownBlock) (hO : Kd.R k36 36 V' B (fun k => lit ≠ some k) (.slice A' ys.length c') ys) : RA w B g C J lit A' c' ys V' := by
  have hob : ∀ k, (Value.slice A xs.length c).ownBlock = some k → B ≤ k ∧ lit ≠ some k := fun k hk => ⟨Kd.R_base h.own k hk, h.own.1 k hk⟩
  have hgB := h.gB
  have hgw := h.gw
  have hle := h.bel.size
  exact ⟨⟨(hg.block _ (blk_lt h.told.bg) (fun e => by have := (hob _ e.symm).1; omega)).trans h.told.bg, (hg.block _ (blk_lt h.told.bj) (fun e => by have := (hob _ e.symm).1; omega)).trans h.told.bj⟩, (hg.block _ (blk_lt h.res) (fun e => by have := (hob _ e.symm).1; omega)).trans h.res, ⟨hg.os.trans h.bel.os, hg.tape.trans h.bel.tape, hg.output.trans h.bel.output, Nat.le_trans hle hg.size, fun k hk => (hg.block k (by omega) (fun e => by have := (hob _ e.symm).1; omega)).trans (h.bel.block k hk)⟩, Nat.le_trans h.sz hg.size, hgB, hgw, hO, fun gl hl => (hg.block _ (blk_lt (h.lits gl hl)) (fun e => (hob _ e.symm).2 hl)).trans (h.lits gl hl)⟩
set_option maxRecDepth 100000 in
set_option maxHeartbeats 16000000 in
theorem radd_ok (n : ND) (s : NA) (j : S36) (w : World) (h : NC w n s) (hb : NB n) :
    Calls Try.prog 9 #[nv n s, jv j] w (AddC (addN n j) (addI n) (addE n) w) := by
  obtain ⟨g, hg⟩ : ∃ g, w.heap.size = g := ⟨_, rfl⟩
  obtain ⟨W, hW⟩ : ∃ W, ((w.alloc (.cells #[.int .u64 n.a0, .int .u16 n.a1, .int .i64 n.a2, .bool n.a3, .slice s.A4 n.l4.length s.c4, .slice s.A5 n.l5.length s.c5, .slice s.A6 n.l6.length s.c6, .slice s.A7 n.l7.length s.c7, .slice s.A8 n.l8.length s.c8, .slice s.A9 n.l9.length s.c9, .slice s.A10 n.l10.length s.c10, .int .u32 n.a11, .int .i64 n.a12, .int .i64 n.a13] 34)).alloc (.cells #[.int .i64 j.f0, .int .i64 j.f1, .int .i64 j.f2, .string j.f3, .string j.f4, .int .u64 j.f5, .int .u64 j.f6.f0, .int .u16 j.f6.f1, .int .u64 j.f7.f0, .int .u16 j.f7.f1, .bool j.f8, .int .i64 j.f9, .int .i64 j.f10, .int .i64 j.f11] 36)).alloc (.cells #[.int .u64 0, .int .u16 0, .int .i64 0, .bool false, .slice none 0 0, .slice none 0 0, .slice none 0 0, .slice none 0 0, .slice none 0 0, .slice none 0 0, .slice none 0 0, .int .u32 0, .int .i64 0, .int .i64 0] 34) = W := ⟨_, rfl⟩
  obtain ⟨hbW, hsW, e5, e6, e10⟩ := alloc3 hW
  rw [hg] at hsW e5 e6 e10
  have HN := Aside0.mk h
  have HBW := Aside0.mk hbW
  have HSW := Aside0.mk hsW
  have HE10 := Aside0.mk e10
  have HE6 := Aside0.mk e6
  have HGG := Aside0.mk hg
  have HB9 := Aside0.mk hb.b9
  clear h hb hbW hsW e6
  unfold addN addI addE
  by_cases hfull : 8 ≤ n.l9.length
  · rw [if_pos hfull, if_pos hfull, if_pos hfull]
    have p0 : ((7 : Int) < (n.l9.length : Int)) = True := eq_true (by omega)
    go_enter Try.func9, Try.ntmps9
    have c9 : W.cell? ⟨g, 9, none⟩ = some (.slice s.A9 n.l9.length s.c9) := (blk_cell e5 9).trans rfl
    go_wp2_with (first | (refine gate_ (.load 34 (.tmp 2)) rfl ?_; refine wpList_load_row rfl 34 _ rfl (g) rfl 34 _ (0, 0) _ e5 Try.underlying34 rfl (by kernel_rfl) ?_) | (refine store_box (.store 34 (.tmp 4) (.tmp 12)) 34 _ _ (g + 1 + 1) 0 _ #[.int .u64 n.a0, .int .u16 n.a1, .int .i64 n.a2, .bool n.a3, .slice s.A4 n.l4.length s.c4, .slice s.A5 n.l5.length s.c5, .slice s.A6 n.l6.length s.c6, .slice s.A7 n.l7.length s.c7, .slice s.A8 n.l8.length s.c8, .slice s.A9 n.l9.length s.c9, .slice s.A10 n.l10.length s.c10, .int .u32 n.a11, .int .i64 n.a12, .int .i64 n.a13] 34 _ [.int .u64 n.a0, .int .u16 n.a1, .int .i64 n.a2, .bool n.a3, .slice s.A4 n.l4.length s.c4, .slice s.A5 n.l5.length s.c5, .slice s.A6 n.l6.length s.c6, .slice s.A7 n.l7.length s.c7, .slice s.A8 n.l8.length s.c8, .slice s.A9 n.l9.length s.c9, .slice s.A10 n.l10.length s.c10, .int .u32 n.a11, .int .i64 n.a12, .int .i64 n.a13] rfl rfl rfl rfl rfl rfl e10 rfl (by kernel_rfl) (by simp) (by simp [Value.oneCell']) (by simp) ?_; intro w4 e7 hs4; have HS4 := Aside0.mk hs4; obtain ⟨y0, y1, y2, y3, y4, y5, y6, y7, y8, y9, y10, y11, y12, y13, _⟩ := box14f e7; clear hs4 e10))
    refine bodyPost_ret (v := .tuple #[nv n s, .int .i64 0, .int .i64 10]) ?hres rfl ?_
    case hres =>
      simp only [results, Try.f9]
      go_simp
    have hB := HS4.out.on (B := w.heap.size) (by have := HGG.out; omega) HBW.out
    exact ⟨s, rfl, HN.out.below hB, hB⟩
  · rw [if_neg hfull, if_neg hfull, if_neg hfull]
    have p0 : ((7 : Int) < (n.l9.length : Int)) = False := eq_false (by omega)
    obtain ⟨iv, hiv⟩ : ∃ iv, addId n = iv := ⟨_, rfl⟩
    obtain ⟨j3, hj3⟩ : ∃ j3, addJ n j = j3 := ⟨_, rfl⟩
    obtain ⟨nw, hnw⟩ : ∃ nw, nowF n = nw := ⟨_, rfl⟩
    have hnl := nowF_le n
    rw [hnw] at hnl
    have hw8 : wrap64 (nw + 200) = nw + 200 := by unfold wrap64; omega
    have hj3' : j3 = { j with f0 := iv, f11 := nw + 200 } := by rw [← hj3]; unfold addJ; rw [hiv, hnw]
    have HJ3 := Aside0.mk hj3'
    have HNW := Aside0.mk hnw
    have HW8 := Aside0.mk hw8
    have HLEN0 : Aside0 ((([] : List S36).length + n.l9.length) * 128 ≤ 140737488355328) := ⟨by simp only [List.length_nil]; omega⟩
    have HLEN : Aside0 ((n.l9.length + 1) * 128 ≤ 140737488355328) := ⟨by omega⟩
    rw [hj3]
    have hcs : (((n.a12 < 0) = True ∧ iv = 1) ∨ ((n.a12 < 0) = False ∧ (1073741824 ≤ n.a12) = True ∧ iv = 1)) ∨ ((n.a12 < 0) = False ∧ (1073741824 ≤ n.a12) = False ∧ wrap64 (n.a12 + 1) = iv) := by
      unfold addId at hiv
      by_cases h1 : n.a12 < 0
      · exact .inl (.inl ⟨eq_true h1, by rw [if_pos h1] at hiv; omega⟩)
      · by_cases h2 : n.a12 ≥ 1073741824
        · exact .inl (.inr ⟨eq_false h1, eq_true h2, by rw [if_neg h1, if_pos h2] at hiv; omega⟩)
        · exact .inr ⟨eq_false h1, eq_false (by omega), by rw [if_neg h1, if_neg h2] at hiv; unfold wrap64; omega⟩
    rw [hiv]
    clear hiv hj3 hj3' hnw hnl hfull e10 hw8
    have c9 : W.cell? ⟨g, 9, none⟩ = some (.slice s.A9 n.l9.length s.c9) := (blk_cell e5 9).trans rfl
    have c12 : W.cell? ⟨g, 12, none⟩ = some (.int .i64 n.a12) := (blk_cell e5 12).trans rfl
    rcases hcs with (⟨q1, q2⟩ | ⟨q1, q2, q3⟩) | ⟨q1, q2, q3⟩
    · have HQ := Aside0.mk q2
      clear q2
      go_enter Try.func9, Try.ntmps9
      go_wp2_with (refine store_box (.store 3 (.tmp 25) (.tmp 24)) 3 _ _ (g) 12 _ #[.int .u64 n.a0, .int .u16 n.a1, .int .i64 n.a2, .bool n.a3, .slice s.A4 n.l4.length s.c4, .slice s.A5 n.l5.length s.c5, .slice s.A6 n.l6.length s.c6, .slice s.A7 n.l7.length s.c7, .slice s.A8 n.l8.length s.c8, .slice s.A9 n.l9.length s.c9, .slice s.A10 n.l10.length s.c10, .int .u32 n.a11, .int .i64 iv, .int .i64 n.a13] 34 (.int .i64 iv) [.int .i64 iv] rfl rfl rfl rfl rfl (congrArg (Value.int .i64) HQ.out.symm) e5 rfl (by kernel_rfl) (by simp) (by simp [Value.oneCell']) (by simp) ?_; intro w3 e4 hs3; have HS3 := Aside0.mk hs3; clear hs3 c9 c12 e5 hW; refine hold_ ?_)
      intro _
      have f6 := HS3.out.blk (by omega) HE6.out
      have HN3 : Aside0 (NC w3 { n with a12 := iv } s) := ⟨by
        have hh := HN.out.below (HS3.out.on (by have := HGG.out; omega) HBW.out)
        exact ⟨hh.r4, hh.q4, hh.r5, hh.q5, hh.r6, hh.q6, hh.r7, hh.q7, hh.r8, hh.q8, hh.r9, hh.q9, hh.r10, hh.q10⟩⟩
      go_wp2_with (first | (refine store_box (.store 3 (.tmp 27) (.tmp 26)) 3 _ _ (g + 1) 0 _ #[.int .i64 iv, .int .i64 j.f1, .int .i64 j.f2, .string j.f3, .string j.f4, .int .u64 j.f5, .int .u64 j.f6.f0, .int .u16 j.f6.f1, .int .u64 j.f7.f0, .int .u16 j.f7.f1, .bool j.f8, .int .i64 j.f9, .int .i64 j.f10, .int .i64 j.f11] 36 (.int .i64 iv) [.int .i64 iv] rfl rfl rfl rfl rfl (congrArg (Value.int .i64) HQ.out.symm) f6 rfl (by kernel_rfl) (by simp) (by simp [Value.oneCell']) (by simp) ?_; intro w4 e7 hs4; have HS4 := Aside0.mk hs4; clear hs4 f6; refine hold_ ?_))
      intro _
      have e8 := HS4.out.blk (by omega) e4
      have HX8 := Aside0.mk e8
      have HN4 : Aside0 (NC w4 { n with a12 := iv } s) := ⟨by
        have hh := HN.out.below (HS4.out.on (by have := HGG.out; omega) (HS3.out.on (by have := HGG.out; omega) HBW.out))
        exact ⟨hh.r4, hh.q4, hh.r5, hh.q5, hh.r6, hh.q6, hh.r7, hh.q7, hh.r8, hh.q8, hh.r9, hh.q9, hh.r10, hh.q10⟩⟩
      clear e4
      go_wp2_with (refine gate_ (.load 34 (.tmp 2)) rfl ?_; refine wpList_load_row rfl 34 _ rfl (g) rfl 34 _ (0, 0) _ e8 Try.underlying34 rfl (by kernel_rfl) ?_)
      have hnow := rnow_ok { n with a12 := iv } s w4 HN4.out
      rw [show nowF { n with a12 := iv } = nowF n from rfl, HNW.out] at hnow
      refine hnow.mono ?_
      rintro e w5 ⟨rfl, hb5⟩
      have HB5 := Aside0.mk hb5
      have f7 := (hb5.block _ (blk_lt e7)).trans e7
      have f8 := (hb5.block _ (blk_lt HX8.out)).trans HX8.out
      clear hnow hb5 e7 e8
      go_wp2_with (refine store_box (.store 3 (.tmp 31) (.tmp 30)) 3 _ _ (g + 1) 13 _ #[.int .i64 iv, .int .i64 j.f1, .int .i64 j.f2, .string j.f3, .string j.f4, .int .u64 j.f5, .int .u64 j.f6.f0, .int .u16 j.f6.f1, .int .u64 j.f7.f0, .int .u16 j.f7.f1, .bool j.f8, .int .i64 j.f9, .int .i64 j.f10, .int .i64 (nw + 200)] 36 (.int .i64 (nw + 200)) [.int .i64 (nw + 200)] rfl rfl rfl rfl rfl (congrArg (Value.int .i64) HW8.out) f7 rfl (by kernel_rfl) (by simp) (by simp [Value.oneCell']) (by simp) ?_; intro w6 e9 hs6; have HS6 := Aside0.mk hs6; clear hs6 f7; refine hold_ ?_)
      intro _
      have HI6 : Aside0 (RA w W.heap.size g #[.int .u64 n.a0, .int .u16 n.a1, .int .i64 n.a2, .bool n.a3, .slice s.A4 n.l4.length s.c4, .slice s.A5 n.l5.length s.c5, .slice s.A6 n.l6.length s.c6, .slice s.A7 n.l7.length s.c7, .slice s.A8 n.l8.length s.c8, .slice s.A9 n.l9.length s.c9, .slice s.A10 n.l10.length s.c10, .int .u32 n.a11, .int .i64 iv, .int .i64 n.a13] #[.int .i64 iv, .int .i64 j.f1, .int .i64 j.f2, .string j.f3, .string j.f4, .int .u64 j.f5, .int .u64 j.f6.f0, .int .u16 j.f6.f1, .int .u64 j.f7.f0, .int .u16 j.f7.f1, .bool j.f8, .int .i64 j.f9, .int .i64 j.f10, .int .i64 (nw + 200)] none none 0 [] w6) := ⟨by
        have hb3 := HS3.out.on (B := w.heap.size) (by have := HGG.out; omega) HBW.out
        have hb4 := HS4.out.on (B := w.heap.size) (by have := HGG.out; omega) hb3
        have hb5 := below_then hb4 hb4.size HB5.out
        have hb6 := HS6.out.on (B := w.heap.size) (by have := HGG.out; omega) hb5
        have hz3 := HS3.out.size
        have hz4 := HS4.out.size
        have hz5 := HB5.out.size
        have hz6 := HS6.out.size
        have r3 := HS3.out.blk (by omega) HE10.out
        have r4 := HS4.out.blk (by omega) r3
        have r5 := (HB5.out.block _ (blk_lt r4)).trans r4
        exact ⟨⟨HS6.out.blk (by omega) f8, e9⟩, HS6.out.blk (by omega) r5, hb6, by omega, by have := HSW.out; omega, by have := HGG.out; omega, Kd.R_nil _ _ _ _ _, fun _ h => by cases h⟩⟩
      obtain ⟨w7, hw7⟩ : ∃ w7, w6.drew = w7 := ⟨_, rfl⟩
      have HI : Aside0 (RA w W.heap.size g #[.int .u64 n.a0, .int .u16 n.a1, .int .i64 n.a2, .bool n.a3, .slice s.A4 n.l4.length s.c4, .slice s.A5 n.l5.length s.c5, .slice s.A6 n.l6.length s.c6, .slice s.A7 n.l7.length s.c7, .slice s.A8 n.l8.length s.c8, .slice s.A9 n.l9.length s.c9, .slice s.A10 n.l10.length s.c10, .int .u32 n.a11, .int .i64 iv, .int .i64 n.a13] #[.int .i64 iv, .int .i64 j.f1, .int .i64 j.f2, .string j.f3, .string j.f4, .int .u64 j.f5, .int .u64 j.f6.f0, .int .u16 j.f6.f1, .int .u64 j.f7.f0, .int .u16 j.f7.f1, .bool j.f8, .int .i64 j.f9, .int .i64 j.f10, .int .i64 (nw + 200)] none none 0 [] w7) := ⟨by rw [← hw7]; exact HI6.out.below (Below.refl _ _).drew⟩
      have hs0 : ToldS g (g + 1) #[.int .u64 n.a0, .int .u16 n.a1, .int .i64 n.a2, .bool n.a3, .slice s.A4 n.l4.length s.c4, .slice s.A5 n.l5.length s.c5, .slice s.A6 n.l6.length s.c6, .slice s.A7 n.l7.length s.c7, .slice s.A8 n.l8.length s.c8, .slice s.A9 n.l9.length s.c9, .slice s.A10 n.l10.length s.c10, .int .u32 n.a11, .int .i64 iv, .int .i64 n.a13] #[.int .i64 iv, .int .i64 j.f1, .int .i64 j.f2, .string j.f3, .string j.f4, .int .u64 j.f5, .int .u64 j.f6.f0, .int .u16 j.f6.f1, .int .u64 j.f7.f0, .int .u16 j.f7.f1, .bool j.f8, .int .i64 j.f9, .int .i64 j.f10, .int .i64 (nw + 200)] w6.drew := by rw [hw7]; exact HI.out.told
      clear f8 e9 HI6
      go_wp2_with fail
      refine start_ (n := 9) (S := ToldS g (g + 1) #[.int .u64 n.a0, .int .u16 n.a1, .int .i64 n.a2, .bool n.a3, .slice s.A4 n.l4.length s.c4, .slice s.A5 n.l5.length s.c5, .slice s.A6 n.l6.length s.c6, .slice s.A7 n.l7.length s.c7, .slice s.A8 n.l8.length s.c8, .slice s.A9 n.l9.length s.c9, .slice s.A10 n.l10.length s.c10, .int .u32 n.a11, .int .i64 iv, .int .i64 n.a13] #[.int .i64 iv, .int .i64 j.f1, .int .i64 j.f2, .string j.f3, .string j.f4, .int .u64 j.f5, .int .u64 j.f6.f0, .int .u16 j.f6.f1, .int .u64 j.f7.f0, .int .u16 j.f7.f1, .bool j.f8, .int .i64 j.f9, .int .i64 j.f10, .int .i64 (nw + 200)]) (ds := [8]) #[false, false, false, false, false, false, false, false, false] (by kernel_rfl) rfl rfl hs0 (fun hH => ?_)
      rw [hw7] at hH ⊢
      clear hs0 hw7
      refine pure_ (i := 1) (N := some 33) (v := ?_) (a' := ?_) #[false, true, false, false, false, false, false, false, false] rfl rfl (by kernel_rfl) (fun _ _ _ h => h) (Or.inl ⟨by rfl, ?_⟩) ?_ ?_
      rotate_left
      · intro w'
        go_simp
        with_reducible rfl
      rotate_left
      · simp only [Act.put, List.setIfInBounds_toArray, List.set_cons_zero, List.set_cons_succ, i64_w, i32_w]
        rfl
      refine take_ (i := 2) (N := some 34) (v := ?_) (a' := ?_) #[false, true, true, false, false, false, false, false, false] rfl rfl (by kernel_rfl) (fun _ _ _ h => h) (Or.inl ⟨by rfl, ?_⟩) hH ?_ ?_
      rotate_left
      · rintro w' ⟨s0, s1_⟩
        have c_ : _ = some _ := (blk_cell s0 9).trans rfl
        go_simp
        with_reducible rfl
      rotate_left
      · simp only [Act.put, List.setIfInBounds_toArray, List.set_cons_zero, List.set_cons_succ, i64_w, i32_w]
        rfl
      refine take_ (i := 4) (N := some 36) (v := ?_) (a' := ?_) #[false, true, true, false, true, false, false, false, false] rfl rfl (by kernel_rfl) (fun _ _ _ h => h) (Or.inl ⟨by rfl, ?_⟩) hH ?_ ?_
      rotate_left
      · rintro w' ⟨s0, s1_⟩
        refine load_yields (x := .tmp 3) ?_ ?_ s1_ Try.underlying36 rfl (by kernel_rfl)
        · rfl
        · rfl
      rotate_left
      · simp only [Act.put, List.setIfInBounds_toArray, List.set_cons_zero, List.set_cons_succ, i64_w, i32_w]
        rfl
      refine two_ (i := 0) (j := 5) (Ni := some 32) (Nj := some 37) #[true, true, true, false, true, false, false, false, false] #[false, true, true, false, true, true, false, false, false] rfl rfl rfl rfl (by kernel_rfl) (by decide) (by decide) (fun K hK => ?_) (fun K hK => ?_)
      · obtain ⟨w5, g5, hg5, hw5, hi⟩ := HI.out.first
        have HI := Aside0.mk hi
        clear hi
        refine event_step (w1 := w5) (v := .slice (some ⟨g5, 0, none⟩) 0 0) (by rfl) (by rw [← hw5, ← hg5]; go_simp; try rfl) ?_
        clear hw5 hg5
        have hS_ := HI.out.told
        refine hK.out _ _ hS_ (fun hH_0 => ?_)
        clear hS_
        clear hK K
        refine norm_ (a' := ?_) ?_ ?_
        rotate_left
        · show Act.put _ (some 32) _ = _
          simp only [Act.put, List.setIfInBounds_toArray, List.set_cons_zero, List.set_cons_succ, i64_w, i32_w]
          rfl
        refine two_ (i := 3) (j := 5) (Ni := some 35) (Nj := some 37) #[true, true, true, true, true, false, false, false, false] #[true, true, true, false, true, true, false, false, false] rfl rfl rfl rfl (by kernel_rfl) (by decide) (by decide) (fun K hK => ?_) (fun K hK => ?_)
        · refine Kd.R_append_rows_step k36 (w0 := _) W.heap.size (by rfl) _ _ 30 36 _ 128 rfl Try.underlying30 info36 rfl (by decide) (by decide) (.slice (some ⟨g5, 0, none⟩) 0 0) [] n.l9 _ n.l9.length _ _ (fun _ => False) rfl rfl HI.out.own (Kd.C_below HN.out.r9 HI.out.bel) (fun _ _ h => h) (fun _ h => h.elim) HI.out.fresh (Below.refl _ _) HI.out.sz HLEN0.out ?_
          intro v6 w6 hO6 hb6 hg6 _
          obtain ⟨A6, c6, rfl, _, _⟩ := Kd.R_reads hO6
          have HI := Aside0.mk (HI.out.grow (ys := n.l9) hg6 hO6)
          clear hO6 hb6 hg6
          have hS_ := HI.out.told
          refine hK.out _ _ hS_ (fun hH_0_3 => ?_)
          clear hS_
          clear hK K
          refine norm_ (a' := ?_) ?_ ?_
          rotate_left
          · show Act.put _ (some 35) _ = _
            simp only [Act.put, List.setIfInBounds_toArray, List.set_cons_zero, List.set_cons_succ, i64_w, i32_w]
            rfl
          refine one_ (i := 5) (N := some 37) #[true, true, true, true, true, true, false, false, false] rfl rfl (by kernel_rfl) (by decide) (fun K hK => ?_)
          obtain ⟨w8, g8, hg8, hw8, hi⟩ := HI.out.lit1
          have HI := Aside0.mk hi
          clear hi
          refine event_step (w1 := w8) (v := .slice (some ⟨g8, 0, none⟩) 1 1) (by rfl) (by rw [← hw8, ← hg8]; go_simp; try rfl) ?_
          clear hw8 hg8
          have hS_ := HI.out.told
          refine hK.out _ _ hS_ (fun hH_0_3_5 => ?_)
          clear hS_
          clear hK K
          refine norm_ (a' := ?_) ?_ ?_
          rotate_left
          · show Act.put _ (some 37) _ = _
            simp only [Act.put, List.setIfInBounds_toArray, List.set_cons_zero, List.set_cons_succ, i64_w, i32_w]
            rfl
          refine one_ (i := 6) (N := some 38) #[true, true, true, true, true, true, true, false, false] rfl rfl (by kernel_rfl) (by decide) (fun K hK => ?_)
          have HLIT := Aside0.mk (lit1 (k36_mk _ j3) (HI.out.lits _ rfl) (by rw [HJ3.out]))
          refine Kd.R_append_rows_step k36 (w0 := _) W.heap.size (by rfl) _ _ 30 36 _ 128 rfl Try.underlying30 info36 rfl (by decide) (by decide) _ n.l9 [j3] _ 1 1 _ (fun _ => False) rfl rfl HI.out.own HLIT.out (fun _ _ h => h) (fun _ h => h.elim) HI.out.fresh (Below.refl _ _) HI.out.sz HLEN.out ?_
          intro v9 w9 hO9 hb9 hg9 _
          obtain ⟨A9, c9, rfl, _, _⟩ := Kd.R_reads hO9
          have HI := Aside0.mk (HI.out.grow (ys := n.l9 ++ [j3]) hg9 hO9)
          clear hO9 hb9 hg9 HLIT
          have hS_ := HI.out.told
          refine hK.out _ _ hS_ (fun hH_0_3_5_6 => ?_)
          clear hS_
          clear hK K
          refine norm_ (a' := ?_) ?_ ?_
          rotate_left
          · show Act.put _ (some 38) _ = _
            simp only [Act.put, List.setIfInBounds_toArray, List.set_cons_zero, List.set_cons_succ, i64_w, i32_w]
            rfl
          refine pure_ (i := 7) (N := some 39) (v := ?_) (a' := ?_) #[true, true, true, true, true, true, true, true, false] rfl rfl (by kernel_rfl) (fun _ _ _ h => h) (Or.inl ⟨by rfl, ?_⟩) ?_ ?_
          rotate_left
          · intro w'
            go_simp
            with_reducible rfl
          rotate_left
          · simp only [Act.put, List.setIfInBounds_toArray, List.set_cons_zero, List.set_cons_succ, i64_w, i32_w]
            rfl
          refine last_ (i := 8) (N := none) #[true, true, true, true, true, true, true, true, true] rfl rfl (by kernel_rfl) (by decide) (fun K hK => ?_)
          refine store_step 30 _ _ g 9 _ #[.int .u64 n.a0, .int .u16 n.a1, .int .i64 n.a2, .bool n.a3, .slice s.A4 n.l4.length s.c4, .slice s.A5 n.l5.length s.c5, .slice s.A6 n.l6.length s.c6, .slice s.A7 n.l7.length s.c7, .slice s.A8 n.l8.length s.c8, .slice A9 (n.l9 ++ [j3]).length c9, .slice s.A10 n.l10.length s.c10, .int .u32 n.a11, .int .i64 iv, .int .i64 n.a13] 34 (.slice A9 (n.l9 ++ [j3]).length c9) [.slice A9 (n.l9 ++ [j3]).length c9] (by rfl) rfl rfl rfl HI.out.told.bg rfl (by kernel_rfl) (by simp) (by simp [Value.oneCell']) (by simp) ?_
          intro w10 e10 hs10
          have HS10 := Aside0.mk hs10
          clear hs10
          refine hK.out _ _ ?_
          clear hK K
          refine norm_ (a' := ?_) ?_ ?_
          rotate_left
          · show Act.put _ (none) _ = _
            simp only [Act.put, List.setIfInBounds_toArray, List.set_cons_zero, List.set_cons_succ, i64_w, i32_w]
            rfl
          refine done_ (by kernel_rfl) ?_
          obtain ⟨ln, hln⟩ : ∃ ln, (n.l9 ++ [j3]).length = ln := ⟨_, rfl⟩
          rw [hln] at e10
          have F10 := Aside0.mk (HS10.out.blk (by omega) HI.out.res)
          have HLN := Aside0.mk hln
          have hgB := HI.out.gB
          
          go_wp2_with (first | (refine gate_ (.load 34 (.tmp 2)) rfl ?_; refine wpList_load_row rfl 34 _ rfl (g) rfl 34 _ (0, 0) _ e10 Try.underlying34 rfl (by kernel_rfl) ?_) | (refine store_box (.store 34 (.tmp 4) (.tmp 40)) 34 _ _ (g + 1 + 1) 0 _ #[.int .u64 n.a0, .int .u16 n.a1, .int .i64 n.a2, .bool n.a3, .slice s.A4 n.l4.length s.c4, .slice s.A5 n.l5.length s.c5, .slice s.A6 n.l6.length s.c6, .slice s.A7 n.l7.length s.c7, .slice s.A8 n.l8.length s.c8, .slice A9 ln c9, .slice s.A10 n.l10.length s.c10, .int .u32 n.a11, .int .i64 iv, .int .i64 n.a13] 34 _ [.int .u64 n.a0, .int .u16 n.a1, .int .i64 n.a2, .bool n.a3, .slice s.A4 n.l4.length s.c4, .slice s.A5 n.l5.length s.c5, .slice s.A6 n.l6.length s.c6, .slice s.A7 n.l7.length s.c7, .slice s.A8 n.l8.length s.c8, .slice A9 ln c9, .slice s.A10 n.l10.length s.c10, .int .u32 n.a11, .int .i64 iv, .int .i64 n.a13] rfl rfl rfl rfl rfl rfl F10.out rfl (by kernel_rfl) (by simp) (by simp [Value.oneCell']) (by simp) ?_; intro w13 e13 hs13; have HS13 := Aside0.mk hs13; clear hs13 e10; refine hold_ ?_))
          intro _
          obtain ⟨y0, y1, y2, y3, y4, y5, y6, y7, y8, y9, y10, y11, y12, y13, _⟩ := box14f e13
          go_wp2_with fail
          refine bodyPost_ret (v := .tuple #[.agg #[.int .u64 n.a0, .int .u16 n.a1, .int .i64 n.a2, .bool n.a3, .slice s.A4 n.l4.length s.c4, .slice s.A5 n.l5.length s.c5, .slice s.A6 n.l6.length s.c6, .slice s.A7 n.l7.length s.c7, .slice s.A8 n.l8.length s.c8, .slice A9 ln c9, .slice s.A10 n.l10.length s.c10, .int .u32 n.a11, .int .i64 iv, .int .i64 n.a13], .int .i64 iv, .int .i64 0]) ?hres rfl ?_
          case hres =>
            simp only [results, Try.f9]
            go_simp
            first | done | exact HQ.out.symm | exact HQ.out
          have hB10 : Below w.heap.size w w10 := HS10.out.on (by have := HI.out.gw; omega) HI.out.bel
          have hB13 : Below w.heap.size w w13 := HS13.out.on (by have := HI.out.gw; omega) hB10
          refine ⟨{ s with A9 := A9, c9 := c9 }, by rw [← HLN.out], ?_, hB13⟩
          have hn := HN.out.below hB13
          have hR := Kd.R_step (Kd.R_step (Kd.R_bound HI.out.own) (fun k hk hlt => HS10.out.far k (by have := hk.2.1; omega))) (fun k hk hlt => HS13.out.far k (by have := hk.2.1; omega))
          exact ⟨hn.r4, hn.q4, hn.r5, hn.q5, hn.r6, hn.q6, hn.r7, hn.q7, hn.r8, hn.q8, (Kd.R_reads' hR).2.2, (Kd.R_reads' hR).2.1, hn.r10, hn.q10⟩
        · obtain ⟨w8, g8, hg8, hw8, hi⟩ := HI.out.lit1
          have HI := Aside0.mk hi
          clear hi
          refine event_step (w1 := w8) (v := .slice (some ⟨g8, 0, none⟩) 1 1) (by rfl) (by rw [← hw8, ← hg8]; go_simp; try rfl) ?_
          clear hw8 hg8
          have hS_ := HI.out.told
          refine hK.out _ _ hS_ (fun hH_0_5 => ?_)
          clear hS_
          clear hK K
          refine norm_ (a' := ?_) ?_ ?_
          rotate_left
          · show Act.put _ (some 37) _ = _
            simp only [Act.put, List.setIfInBounds_toArray, List.set_cons_zero, List.set_cons_succ, i64_w, i32_w]
            rfl
          refine one_ (i := 3) (N := some 35) #[true, true, true, true, true, true, false, false, false] rfl rfl (by kernel_rfl) (by decide) (fun K hK => ?_)
          refine Kd.R_append_rows_step k36 (w0 := _) W.heap.size (by rfl) _ _ 30 36 _ 128 rfl Try.underlying30 info36 rfl (by decide) (by decide) (.slice (some ⟨g5, 0, none⟩) 0 0) [] n.l9 _ n.l9.length _ _ (fun _ => False) rfl rfl HI.out.own (Kd.C_below HN.out.r9 HI.out.bel) (fun _ _ h => h) (fun _ h => h.elim) HI.out.fresh (Below.refl _ _) HI.out.sz HLEN0.out ?_
          intro v6 w6 hO6 hb6 hg6 _
          obtain ⟨A6, c6, rfl, _, _⟩ := Kd.R_reads hO6
          have HI := Aside0.mk (HI.out.grow (ys := n.l9) hg6 hO6)
          clear hO6 hb6 hg6
          have hS_ := HI.out.told
          refine hK.out _ _ hS_ (fun hH_0_5_3 => ?_)
          clear hS_
          clear hK K
          refine norm_ (a' := ?_) ?_ ?_
          rotate_left
          · show Act.put _ (some 35) _ = _
            simp only [Act.put, List.setIfInBounds_toArray, List.set_cons_zero, List.set_cons_succ, i64_w, i32_w]
            rfl
          refine one_ (i := 6) (N := some 38) #[true, true, true, true, true, true, true, false, false] rfl rfl (by kernel_rfl) (by decide) (fun K hK => ?_)
          have HLIT := Aside0.mk (lit1 (k36_mk _ j3) (HI.out.lits _ rfl) (by rw [HJ3.out]))
          refine Kd.R_append_rows_step k36 (w0 := _) W.heap.size (by rfl) _ _ 30 36 _ 128 rfl Try.underlying30 info36 rfl (by decide) (by decide) _ n.l9 [j3] _ 1 1 _ (fun _ => False) rfl rfl HI.out.own HLIT.out (fun _ _ h => h) (fun _ h => h.elim) HI.out.fresh (Below.refl _ _) HI.out.sz HLEN.out ?_
          intro v9 w9 hO9 hb9 hg9 _
          obtain ⟨A9, c9, rfl, _, _⟩ := Kd.R_reads hO9
          have HI := Aside0.mk (HI.out.grow (ys := n.l9 ++ [j3]) hg9 hO9)
          clear hO9 hb9 hg9 HLIT
          have hS_ := HI.out.told
          refine hK.out _ _ hS_ (fun hH_0_5_3_6 => ?_)
          clear hS_
          clear hK K
          refine norm_ (a' := ?_) ?_ ?_
          rotate_left
          · show Act.put _ (some 38) _ = _
            simp only [Act.put, List.setIfInBounds_toArray, List.set_cons_zero, List.set_cons_succ, i64_w, i32_w]
            rfl
          refine pure_ (i := 7) (N := some 39) (v := ?_) (a' := ?_) #[true, true, true, true, true, true, true, true, false] rfl rfl (by kernel_rfl) (fun _ _ _ h => h) (Or.inl ⟨by rfl, ?_⟩) ?_ ?_
          rotate_left
          · intro w'
            go_simp
            with_reducible rfl
          rotate_left
          · simp only [Act.put, List.setIfInBounds_toArray, List.set_cons_zero, List.set_cons_succ, i64_w, i32_w]
            rfl
          refine last_ (i := 8) (N := none) #[true, true, true, true, true, true, true, true, true] rfl rfl (by kernel_rfl) (by decide) (fun K hK => ?_)
          refine store_step 30 _ _ g 9 _ #[.int .u64 n.a0, .int .u16 n.a1, .int .i64 n.a2, .bool n.a3, .slice s.A4 n.l4.length s.c4, .slice s.A5 n.l5.length s.c5, .slice s.A6 n.l6.length s.c6, .slice s.A7 n.l7.length s.c7, .slice s.A8 n.l8.length s.c8, .slice A9 (n.l9 ++ [j3]).length c9, .slice s.A10 n.l10.length s.c10, .int .u32 n.a11, .int .i64 iv, .int .i64 n.a13] 34 (.slice A9 (n.l9 ++ [j3]).length c9) [.slice A9 (n.l9 ++ [j3]).length c9] (by rfl) rfl rfl rfl HI.out.told.bg rfl (by kernel_rfl) (by simp) (by simp [Value.oneCell']) (by simp) ?_
          intro w10 e10 hs10
          have HS10 := Aside0.mk hs10
          clear hs10
          refine hK.out _ _ ?_
          clear hK K
          refine norm_ (a' := ?_) ?_ ?_
          rotate_left
          · show Act.put _ (none) _ = _
            simp only [Act.put, List.setIfInBounds_toArray, List.set_cons_zero, List.set_cons_succ, i64_w, i32_w]
            rfl
          refine done_ (by kernel_rfl) ?_
          obtain ⟨ln, hln⟩ : ∃ ln, (n.l9 ++ [j3]).length = ln := ⟨_, rfl⟩
          rw [hln] at e10
          have F10 := Aside0.mk (HS10.out.blk (by omega) HI.out.res)
          have HLN := Aside0.mk hln
          have hgB := HI.out.gB
          
          go_wp2_with (first | (refine gate_ (.load 34 (.tmp 2)) rfl ?_; refine wpList_load_row rfl 34 _ rfl (g) rfl 34 _ (0, 0) _ e10 Try.underlying34 rfl (by kernel_rfl) ?_) | (refine store_box (.store 34 (.tmp 4) (.tmp 40)) 34 _ _ (g + 1 + 1) 0 _ #[.int .u64 n.a0, .int .u16 n.a1, .int .i64 n.a2, .bool n.a3, .slice s.A4 n.l4.length s.c4, .slice s.A5 n.l5.length s.c5, .slice s.A6 n.l6.length s.c6, .slice s.A7 n.l7.length s.c7, .slice s.A8 n.l8.length s.c8, .slice A9 ln c9, .slice s.A10 n.l10.length s.c10, .int .u32 n.a11, .int .i64 iv, .int .i64 n.a13] 34 _ [.int .u64 n.a0, .int .u16 n.a1, .int .i64 n.a2, .bool n.a3, .slice s.A4 n.l4.length s.c4, .slice s.A5 n.l5.length s.c5, .slice s.A6 n.l6.length s.c6, .slice s.A7 n.l7.length s.c7, .slice s.A8 n.l8.length s.c8, .slice A9 ln c9, .slice s.A10 n.l10.length s.c10, .int .u32 n.a11, .int .i64 iv, .int .i64 n.a13] rfl rfl rfl rfl rfl rfl F10.out rfl (by kernel_rfl) (by simp) (by simp [Value.oneCell']) (by simp) ?_; intro w13 e13 hs13; have HS13 := Aside0.mk hs13; clear hs13 e10; refine hold_ ?_))
          intro _
          obtain ⟨y0, y1, y2, y3, y4, y5, y6, y7, y8, y9, y10, y11, y12, y13, _⟩ := box14f e13
          go_wp2_with fail
          refine bodyPost_ret (v := .tuple #[.agg #[.int .u64 n.a0, .int .u16 n.a1, .int .i64 n.a2, .bool n.a3, .slice s.A4 n.l4.length s.c4, .slice s.A5 n.l5.length s.c5, .slice s.A6 n.l6.length s.c6, .slice s.A7 n.l7.length s.c7, .slice s.A8 n.l8.length s.c8, .slice A9 ln c9, .slice s.A10 n.l10.length s.c10, .int .u32 n.a11, .int .i64 iv, .int .i64 n.a13], .int .i64 iv, .int .i64 0]) ?hres rfl ?_
          case hres =>
            simp only [results, Try.f9]
            go_simp
            first | done | exact HQ.out.symm | exact HQ.out
          have hB10 : Below w.heap.size w w10 := HS10.out.on (by have := HI.out.gw; omega) HI.out.bel
          have hB13 : Below w.heap.size w w13 := HS13.out.on (by have := HI.out.gw; omega) hB10
          refine ⟨{ s with A9 := A9, c9 := c9 }, by rw [← HLN.out], ?_, hB13⟩
          have hn := HN.out.below hB13
          have hR := Kd.R_step (Kd.R_step (Kd.R_bound HI.out.own) (fun k hk hlt => HS10.out.far k (by have := hk.2.1; omega))) (fun k hk hlt => HS13.out.far k (by have := hk.2.1; omega))
          exact ⟨hn.r4, hn.q4, hn.r5, hn.q5, hn.r6, hn.q6, hn.r7, hn.q7, hn.r8, hn.q8, (Kd.R_reads' hR).2.2, (Kd.R_reads' hR).2.1, hn.r10, hn.q10⟩
      · obtain ⟨w8, g8, hg8, hw8, hi⟩ := HI.out.lit1
        have HI := Aside0.mk hi
        clear hi
        refine event_step (w1 := w8) (v := .slice (some ⟨g8, 0, none⟩) 1 1) (by rfl) (by rw [← hw8, ← hg8]; go_simp; try rfl) ?_
        clear hw8 hg8
        have hS_ := HI.out.told
        refine hK.out _ _ hS_ (fun hH_5 => ?_)
        clear hS_
        clear hK K
        refine norm_ (a' := ?_) ?_ ?_
        rotate_left
        · show Act.put _ (some 37) _ = _
          simp only [Act.put, List.setIfInBounds_toArray, List.set_cons_zero, List.set_cons_succ, i64_w, i32_w]
          rfl
        refine one_ (i := 0) (N := some 32) #[true, true, true, false, true, true, false, false, false] rfl rfl (by kernel_rfl) (by decide) (fun K hK => ?_)
        obtain ⟨w5, g5, hg5, hw5, hi⟩ := HI.out.first
        have HI := Aside0.mk hi
        clear hi
        refine event_step (w1 := w5) (v := .slice (some ⟨g5, 0, none⟩) 0 0) (by rfl) (by rw [← hw5, ← hg5]; go_simp; try rfl) ?_
        clear hw5 hg5
        have hS_ := HI.out.told
        refine hK.out _ _ hS_ (fun hH_5_0 => ?_)
        clear hS_
        clear hK K
        refine norm_ (a' := ?_) ?_ ?_
        rotate_left
        · show Act.put _ (some 32) _ = _
          simp only [Act.put, List.setIfInBounds_toArray, List.set_cons_zero, List.set_cons_succ, i64_w, i32_w]
          rfl
        refine one_ (i := 3) (N := some 35) #[true, true, true, true, true, true, false, false, false] rfl rfl (by kernel_rfl) (by decide) (fun K hK => ?_)
        refine Kd.R_append_rows_step k36 (w0 := _) W.heap.size (by rfl) _ _ 30 36 _ 128 rfl Try.underlying30 info36 rfl (by decide) (by decide) (.slice (some ⟨g5, 0, none⟩) 0 0) [] n.l9 _ n.l9.length _ _ (fun _ => False) rfl rfl HI.out.own (Kd.C_below HN.out.r9 HI.out.bel) (fun _ _ h => h) (fun _ h => h.elim) HI.out.fresh (Below.refl _ _) HI.out.sz HLEN0.out ?_
        intro v6 w6 hO6 hb6 hg6 _
        obtain ⟨A6, c6, rfl, _, _⟩ := Kd.R_reads hO6
        have HI := Aside0.mk (HI.out.grow (ys := n.l9) hg6 hO6)
        clear hO6 hb6 hg6
        have hS_ := HI.out.told
        refine hK.out _ _ hS_ (fun hH_5_0_3 => ?_)
        clear hS_
        clear hK K
        refine norm_ (a' := ?_) ?_ ?_
        rotate_left
        · show Act.put _ (some 35) _ = _
          simp only [Act.put, List.setIfInBounds_toArray, List.set_cons_zero, List.set_cons_succ, i64_w, i32_w]
          rfl
        refine one_ (i := 6) (N := some 38) #[true, true, true, true, true, true, true, false, false] rfl rfl (by kernel_rfl) (by decide) (fun K hK => ?_)
        have HLIT := Aside0.mk (lit1 (k36_mk _ j3) (HI.out.lits _ rfl) (by rw [HJ3.out]))
        refine Kd.R_append_rows_step k36 (w0 := _) W.heap.size (by rfl) _ _ 30 36 _ 128 rfl Try.underlying30 info36 rfl (by decide) (by decide) _ n.l9 [j3] _ 1 1 _ (fun _ => False) rfl rfl HI.out.own HLIT.out (fun _ _ h => h) (fun _ h => h.elim) HI.out.fresh (Below.refl _ _) HI.out.sz HLEN.out ?_
        intro v9 w9 hO9 hb9 hg9 _
        obtain ⟨A9, c9, rfl, _, _⟩ := Kd.R_reads hO9
        have HI := Aside0.mk (HI.out.grow (ys := n.l9 ++ [j3]) hg9 hO9)
        clear hO9 hb9 hg9 HLIT
        have hS_ := HI.out.told
        refine hK.out _ _ hS_ (fun hH_5_0_3_6 => ?_)
        clear hS_
        clear hK K
        refine norm_ (a' := ?_) ?_ ?_
        rotate_left
        · show Act.put _ (some 38) _ = _
          simp only [Act.put, List.setIfInBounds_toArray, List.set_cons_zero, List.set_cons_succ, i64_w, i32_w]
          rfl
        refine pure_ (i := 7) (N := some 39) (v := ?_) (a' := ?_) #[true, true, true, true, true, true, true, true, false] rfl rfl (by kernel_rfl) (fun _ _ _ h => h) (Or.inl ⟨by rfl, ?_⟩) ?_ ?_
        rotate_left
        · intro w'
          go_simp
          with_reducible rfl
        rotate_left
        · simp only [Act.put, List.setIfInBounds_toArray, List.set_cons_zero, List.set_cons_succ, i64_w, i32_w]
          rfl
        refine last_ (i := 8) (N := none) #[true, true, true, true, true, true, true, true, true] rfl rfl (by kernel_rfl) (by decide) (fun K hK => ?_)
        refine store_step 30 _ _ g 9 _ #[.int .u64 n.a0, .int .u16 n.a1, .int .i64 n.a2, .bool n.a3, .slice s.A4 n.l4.length s.c4, .slice s.A5 n.l5.length s.c5, .slice s.A6 n.l6.length s.c6, .slice s.A7 n.l7.length s.c7, .slice s.A8 n.l8.length s.c8, .slice A9 (n.l9 ++ [j3]).length c9, .slice s.A10 n.l10.length s.c10, .int .u32 n.a11, .int .i64 iv, .int .i64 n.a13] 34 (.slice A9 (n.l9 ++ [j3]).length c9) [.slice A9 (n.l9 ++ [j3]).length c9] (by rfl) rfl rfl rfl HI.out.told.bg rfl (by kernel_rfl) (by simp) (by simp [Value.oneCell']) (by simp) ?_
        intro w10 e10 hs10
        have HS10 := Aside0.mk hs10
        clear hs10
        refine hK.out _ _ ?_
        clear hK K
        refine norm_ (a' := ?_) ?_ ?_
        rotate_left
        · show Act.put _ (none) _ = _
          simp only [Act.put, List.setIfInBounds_toArray, List.set_cons_zero, List.set_cons_succ, i64_w, i32_w]
          rfl
        refine done_ (by kernel_rfl) ?_
        obtain ⟨ln, hln⟩ : ∃ ln, (n.l9 ++ [j3]).length = ln := ⟨_, rfl⟩
        rw [hln] at e10
        have F10 := Aside0.mk (HS10.out.blk (by omega) HI.out.res)
        have HLN := Aside0.mk hln
        have hgB := HI.out.gB
        
        go_wp2_with (first | (refine gate_ (.load 34 (.tmp 2)) rfl ?_; refine wpList_load_row rfl 34 _ rfl (g) rfl 34 _ (0, 0) _ e10 Try.underlying34 rfl (by kernel_rfl) ?_) | (refine store_box (.store 34 (.tmp 4) (.tmp 40)) 34 _ _ (g + 1 + 1) 0 _ #[.int .u64 n.a0, .int .u16 n.a1, .int .i64 n.a2, .bool n.a3, .slice s.A4 n.l4.length s.c4, .slice s.A5 n.l5.length s.c5, .slice s.A6 n.l6.length s.c6, .slice s.A7 n.l7.length s.c7, .slice s.A8 n.l8.length s.c8, .slice A9 ln c9, .slice s.A10 n.l10.length s.c10, .int .u32 n.a11, .int .i64 iv, .int .i64 n.a13] 34 _ [.int .u64 n.a0, .int .u16 n.a1, .int .i64 n.a2, .bool n.a3, .slice s.A4 n.l4.length s.c4, .slice s.A5 n.l5.length s.c5, .slice s.A6 n.l6.length s.c6, .slice s.A7 n.l7.length s.c7, .slice s.A8 n.l8.length s.c8, .slice A9 ln c9, .slice s.A10 n.l10.length s.c10, .int .u32 n.a11, .int .i64 iv, .int .i64 n.a13] rfl rfl rfl rfl rfl rfl F10.out rfl (by kernel_rfl) (by simp) (by simp [Value.oneCell']) (by simp) ?_; intro w13 e13 hs13; have HS13 := Aside0.mk hs13; clear hs13 e10; refine hold_ ?_))
        intro _
        obtain ⟨y0, y1, y2, y3, y4, y5, y6, y7, y8, y9, y10, y11, y12, y13, _⟩ := box14f e13
        go_wp2_with fail
        refine bodyPost_ret (v := .tuple #[.agg #[.int .u64 n.a0, .int .u16 n.a1, .int .i64 n.a2, .bool n.a3, .slice s.A4 n.l4.length s.c4, .slice s.A5 n.l5.length s.c5, .slice s.A6 n.l6.length s.c6, .slice s.A7 n.l7.length s.c7, .slice s.A8 n.l8.length s.c8, .slice A9 ln c9, .slice s.A10 n.l10.length s.c10, .int .u32 n.a11, .int .i64 iv, .int .i64 n.a13], .int .i64 iv, .int .i64 0]) ?hres rfl ?_
        case hres =>
          simp only [results, Try.f9]
          go_simp
          first | done | exact HQ.out.symm | exact HQ.out
        have hB10 : Below w.heap.size w w10 := HS10.out.on (by have := HI.out.gw; omega) HI.out.bel
        have hB13 : Below w.heap.size w w13 := HS13.out.on (by have := HI.out.gw; omega) hB10
        refine ⟨{ s with A9 := A9, c9 := c9 }, by rw [← HLN.out], ?_, hB13⟩
        have hn := HN.out.below hB13
        have hR := Kd.R_step (Kd.R_step (Kd.R_bound HI.out.own) (fun k hk hlt => HS10.out.far k (by have := hk.2.1; omega))) (fun k hk hlt => HS13.out.far k (by have := hk.2.1; omega))
        exact ⟨hn.r4, hn.q4, hn.r5, hn.q5, hn.r6, hn.q6, hn.r7, hn.q7, hn.r8, hn.q8, (Kd.R_reads' hR).2.2, (Kd.R_reads' hR).2.1, hn.r10, hn.q10⟩
    · have HQ := Aside0.mk q3
      clear q3
      go_enter Try.func9, Try.ntmps9
      go_wp2_with (refine store_box (.store 3 (.tmp 25) (.tmp 24)) 3 _ _ (g) 12 _ #[.int .u64 n.a0, .int .u16 n.a1, .int .i64 n.a2, .bool n.a3, .slice s.A4 n.l4.length s.c4, .slice s.A5 n.l5.length s.c5, .slice s.A6 n.l6.length s.c6, .slice s.A7 n.l7.length s.c7, .slice s.A8 n.l8.length s.c8, .slice s.A9 n.l9.length s.c9, .slice s.A10 n.l10.length s.c10, .int .u32 n.a11, .int .i64 iv, .int .i64 n.a13] 34 (.int .i64 iv) [.int .i64 iv] rfl rfl rfl rfl rfl (congrArg (Value.int .i64) HQ.out.symm) e5 rfl (by kernel_rfl) (by simp) (by simp [Value.oneCell']) (by simp) ?_; intro w3 e4 hs3; have HS3 := Aside0.mk hs3; clear hs3 c9 c12 e5 hW; refine hold_ ?_)
      intro _
      have f6 := HS3.out.blk (by omega) HE6.out
      have HN3 : Aside0 (NC w3 { n with a12 := iv } s) := ⟨by
        have hh := HN.out.below (HS3.out.on (by have := HGG.out; omega) HBW.out)
        exact ⟨hh.r4, hh.q4, hh.r5, hh.q5, hh.r6, hh.q6, hh.r7, hh.q7, hh.r8, hh.q8, hh.r9, hh.q9, hh.r10, hh.q10⟩⟩
      go_wp2_with (first | (refine store_box (.store 3 (.tmp 27) (.tmp 26)) 3 _ _ (g + 1) 0 _ #[.int .i64 iv, .int .i64 j.f1, .int .i64 j.f2, .string j.f3, .string j.f4, .int .u64 j.f5, .int .u64 j.f6.f0, .int .u16 j.f6.f1, .int .u64 j.f7.f0, .int .u16 j.f7.f1, .bool j.f8, .int .i64 j.f9, .int .i64 j.f10, .int .i64 j.f11] 36 (.int .i64 iv) [.int .i64 iv] rfl rfl rfl rfl rfl (congrArg (Value.int .i64) HQ.out.symm) f6 rfl (by kernel_rfl) (by simp) (by simp [Value.oneCell']) (by simp) ?_; intro w4 e7 hs4; have HS4 := Aside0.mk hs4; clear hs4 f6; refine hold_ ?_))
      intro _
      have e8 := HS4.out.blk (by omega) e4
      have HX8 := Aside0.mk e8
      have HN4 : Aside0 (NC w4 { n with a12 := iv } s) := ⟨by
        have hh := HN.out.below (HS4.out.on (by have := HGG.out; omega) (HS3.out.on (by have := HGG.out; omega) HBW.out))
        exact ⟨hh.r4, hh.q4, hh.r5, hh.q5, hh.r6, hh.q6, hh.r7, hh.q7, hh.r8, hh.q8, hh.r9, hh.q9, hh.r10, hh.q10⟩⟩
      clear e4
      go_wp2_with (refine gate_ (.load 34 (.tmp 2)) rfl ?_; refine wpList_load_row rfl 34 _ rfl (g) rfl 34 _ (0, 0) _ e8 Try.underlying34 rfl (by kernel_rfl) ?_)
      have hnow := rnow_ok { n with a12 := iv } s w4 HN4.out
      rw [show nowF { n with a12 := iv } = nowF n from rfl, HNW.out] at hnow
      refine hnow.mono ?_
      rintro e w5 ⟨rfl, hb5⟩
      have HB5 := Aside0.mk hb5
      have f7 := (hb5.block _ (blk_lt e7)).trans e7
      have f8 := (hb5.block _ (blk_lt HX8.out)).trans HX8.out
      clear hnow hb5 e7 e8
      go_wp2_with (refine store_box (.store 3 (.tmp 31) (.tmp 30)) 3 _ _ (g + 1) 13 _ #[.int .i64 iv, .int .i64 j.f1, .int .i64 j.f2, .string j.f3, .string j.f4, .int .u64 j.f5, .int .u64 j.f6.f0, .int .u16 j.f6.f1, .int .u64 j.f7.f0, .int .u16 j.f7.f1, .bool j.f8, .int .i64 j.f9, .int .i64 j.f10, .int .i64 (nw + 200)] 36 (.int .i64 (nw + 200)) [.int .i64 (nw + 200)] rfl rfl rfl rfl rfl (congrArg (Value.int .i64) HW8.out) f7 rfl (by kernel_rfl) (by simp) (by simp [Value.oneCell']) (by simp) ?_; intro w6 e9 hs6; have HS6 := Aside0.mk hs6; clear hs6 f7; refine hold_ ?_)
      intro _
      have HI6 : Aside0 (RA w W.heap.size g #[.int .u64 n.a0, .int .u16 n.a1, .int .i64 n.a2, .bool n.a3, .slice s.A4 n.l4.length s.c4, .slice s.A5 n.l5.length s.c5, .slice s.A6 n.l6.length s.c6, .slice s.A7 n.l7.length s.c7, .slice s.A8 n.l8.length s.c8, .slice s.A9 n.l9.length s.c9, .slice s.A10 n.l10.length s.c10, .int .u32 n.a11, .int .i64 iv, .int .i64 n.a13] #[.int .i64 iv, .int .i64 j.f1, .int .i64 j.f2, .string j.f3, .string j.f4, .int .u64 j.f5, .int .u64 j.f6.f0, .int .u16 j.f6.f1, .int .u64 j.f7.f0, .int .u16 j.f7.f1, .bool j.f8, .int .i64 j.f9, .int .i64 j.f10, .int .i64 (nw + 200)] none none 0 [] w6) := ⟨by
        have hb3 := HS3.out.on (B := w.heap.size) (by have := HGG.out; omega) HBW.out
        have hb4 := HS4.out.on (B := w.heap.size) (by have := HGG.out; omega) hb3
        have hb5 := below_then hb4 hb4.size HB5.out
        have hb6 := HS6.out.on (B := w.heap.size) (by have := HGG.out; omega) hb5
        have hz3 := HS3.out.size
        have hz4 := HS4.out.size
        have hz5 := HB5.out.size
        have hz6 := HS6.out.size
        have r3 := HS3.out.blk (by omega) HE10.out
        have r4 := HS4.out.blk (by omega) r3
        have r5 := (HB5.out.block _ (blk_lt r4)).trans r4
        exact ⟨⟨HS6.out.blk (by omega) f8, e9⟩, HS6.out.blk (by omega) r5, hb6, by omega, by have := HSW.out; omega, by have := HGG.out; omega, Kd.R_nil _ _ _ _ _, fun _ h => by cases h⟩⟩
      obtain ⟨w7, hw7⟩ : ∃ w7, w6.drew = w7 := ⟨_, rfl⟩
      have HI : Aside0 (RA w W.heap.size g #[.int .u64 n.a0, .int .u16 n.a1, .int .i64 n.a2, .bool n.a3, .slice s.A4 n.l4.length s.c4, .slice s.A5 n.l5.length s.c5, .slice s.A6 n.l6.length s.c6, .slice s.A7 n.l7.length s.c7, .slice s.A8 n.l8.length s.c8, .slice s.A9 n.l9.length s.c9, .slice s.A10 n.l10.length s.c10, .int .u32 n.a11, .int .i64 iv, .int .i64 n.a13] #[.int .i64 iv, .int .i64 j.f1, .int .i64 j.f2, .string j.f3, .string j.f4, .int .u64 j.f5, .int .u64 j.f6.f0, .int .u16 j.f6.f1, .int .u64 j.f7.f0, .int .u16 j.f7.f1, .bool j.f8, .int .i64 j.f9, .int .i64 j.f10, .int .i64 (nw + 200)] none none 0 [] w7) := ⟨by rw [← hw7]; exact HI6.out.below (Below.refl _ _).drew⟩
      have hs0 : ToldS g (g + 1) #[.int .u64 n.a0, .int .u16 n.a1, .int .i64 n.a2, .bool n.a3, .slice s.A4 n.l4.length s.c4, .slice s.A5 n.l5.length s.c5, .slice s.A6 n.l6.length s.c6, .slice s.A7 n.l7.length s.c7, .slice s.A8 n.l8.length s.c8, .slice s.A9 n.l9.length s.c9, .slice s.A10 n.l10.length s.c10, .int .u32 n.a11, .int .i64 iv, .int .i64 n.a13] #[.int .i64 iv, .int .i64 j.f1, .int .i64 j.f2, .string j.f3, .string j.f4, .int .u64 j.f5, .int .u64 j.f6.f0, .int .u16 j.f6.f1, .int .u64 j.f7.f0, .int .u16 j.f7.f1, .bool j.f8, .int .i64 j.f9, .int .i64 j.f10, .int .i64 (nw + 200)] w6.drew := by rw [hw7]; exact HI.out.told
      clear f8 e9 HI6
      go_wp2_with fail
      refine start_ (n := 9) (S := ToldS g (g + 1) #[.int .u64 n.a0, .int .u16 n.a1, .int .i64 n.a2, .bool n.a3, .slice s.A4 n.l4.length s.c4, .slice s.A5 n.l5.length s.c5, .slice s.A6 n.l6.length s.c6, .slice s.A7 n.l7.length s.c7, .slice s.A8 n.l8.length s.c8, .slice s.A9 n.l9.length s.c9, .slice s.A10 n.l10.length s.c10, .int .u32 n.a11, .int .i64 iv, .int .i64 n.a13] #[.int .i64 iv, .int .i64 j.f1, .int .i64 j.f2, .string j.f3, .string j.f4, .int .u64 j.f5, .int .u64 j.f6.f0, .int .u16 j.f6.f1, .int .u64 j.f7.f0, .int .u16 j.f7.f1, .bool j.f8, .int .i64 j.f9, .int .i64 j.f10, .int .i64 (nw + 200)]) (ds := [8]) #[false, false, false, false, false, false, false, false, false] (by kernel_rfl) rfl rfl hs0 (fun hH => ?_)
      rw [hw7] at hH ⊢
      clear hs0 hw7
      refine pure_ (i := 1) (N := some 33) (v := ?_) (a' := ?_) #[false, true, false, false, false, false, false, false, false] rfl rfl (by kernel_rfl) (fun _ _ _ h => h) (Or.inl ⟨by rfl, ?_⟩) ?_ ?_
      rotate_left
      · intro w'
        go_simp
        with_reducible rfl
      rotate_left
      · simp only [Act.put, List.setIfInBounds_toArray, List.set_cons_zero, List.set_cons_succ, i64_w, i32_w]
        rfl
      refine take_ (i := 2) (N := some 34) (v := ?_) (a' := ?_) #[false, true, true, false, false, false, false, false, false] rfl rfl (by kernel_rfl) (fun _ _ _ h => h) (Or.inl ⟨by rfl, ?_⟩) hH ?_ ?_
      rotate_left
      · rintro w' ⟨s0, s1_⟩
        have c_ : _ = some _ := (blk_cell s0 9).trans rfl
        go_simp
        with_reducible rfl
      rotate_left
      · simp only [Act.put, List.setIfInBounds_toArray, List.set_cons_zero, List.set_cons_succ, i64_w, i32_w]
        rfl
      refine take_ (i := 4) (N := some 36) (v := ?_) (a' := ?_) #[false, true, true, false, true, false, false, false, false] rfl rfl (by kernel_rfl) (fun _ _ _ h => h) (Or.inl ⟨by rfl, ?_⟩) hH ?_ ?_
      rotate_left
      · rintro w' ⟨s0, s1_⟩
        refine load_yields (x := .tmp 3) ?_ ?_ s1_ Try.underlying36 rfl (by kernel_rfl)
        · rfl
        · rfl
      rotate_left
      · simp only [Act.put, List.setIfInBounds_toArray, List.set_cons_zero, List.set_cons_succ, i64_w, i32_w]
        rfl
      refine two_ (i := 0) (j := 5) (Ni := some 32) (Nj := some 37) #[true, true, true, false, true, false, false, false, false] #[false, true, true, false, true, true, false, false, false] rfl rfl rfl rfl (by kernel_rfl) (by decide) (by decide) (fun K hK => ?_) (fun K hK => ?_)
      · obtain ⟨w5, g5, hg5, hw5, hi⟩ := HI.out.first
        have HI := Aside0.mk hi
        clear hi
        refine event_step (w1 := w5) (v := .slice (some ⟨g5, 0, none⟩) 0 0) (by rfl) (by rw [← hw5, ← hg5]; go_simp; try rfl) ?_
        clear hw5 hg5
        have hS_ := HI.out.told
        refine hK.out _ _ hS_ (fun hH_0 => ?_)
        clear hS_
        clear hK K
        refine norm_ (a' := ?_) ?_ ?_
        rotate_left
        · show Act.put _ (some 32) _ = _
          simp only [Act.put, List.setIfInBounds_toArray, List.set_cons_zero, List.set_cons_succ, i64_w, i32_w]
          rfl
        refine two_ (i := 3) (j := 5) (Ni := some 35) (Nj := some 37) #[true, true, true, true, true, false, false, false, false] #[true, true, true, false, true, true, false, false, false] rfl rfl rfl rfl (by kernel_rfl) (by decide) (by decide) (fun K hK => ?_) (fun K hK => ?_)
        · refine Kd.R_append_rows_step k36 (w0 := _) W.heap.size (by rfl) _ _ 30 36 _ 128 rfl Try.underlying30 info36 rfl (by decide) (by decide) (.slice (some ⟨g5, 0, none⟩) 0 0) [] n.l9 _ n.l9.length _ _ (fun _ => False) rfl rfl HI.out.own (Kd.C_below HN.out.r9 HI.out.bel) (fun _ _ h => h) (fun _ h => h.elim) HI.out.fresh (Below.refl _ _) HI.out.sz HLEN0.out ?_
          intro v6 w6 hO6 hb6 hg6 _
          obtain ⟨A6, c6, rfl, _, _⟩ := Kd.R_reads hO6
          have HI := Aside0.mk (HI.out.grow (ys := n.l9) hg6 hO6)
          clear hO6 hb6 hg6
          have hS_ := HI.out.told
          refine hK.out _ _ hS_ (fun hH_0_3 => ?_)
          clear hS_
          clear hK K
          refine norm_ (a' := ?_) ?_ ?_
          rotate_left
          · show Act.put _ (some 35) _ = _
            simp only [Act.put, List.setIfInBounds_toArray, List.set_cons_zero, List.set_cons_succ, i64_w, i32_w]
            rfl
          refine one_ (i := 5) (N := some 37) #[true, true, true, true, true, true, false, false, false] rfl rfl (by kernel_rfl) (by decide) (fun K hK => ?_)
          obtain ⟨w8, g8, hg8, hw8, hi⟩ := HI.out.lit1
          have HI := Aside0.mk hi
          clear hi
          refine event_step (w1 := w8) (v := .slice (some ⟨g8, 0, none⟩) 1 1) (by rfl) (by rw [← hw8, ← hg8]; go_simp; try rfl) ?_
          clear hw8 hg8
          have hS_ := HI.out.told
          refine hK.out _ _ hS_ (fun hH_0_3_5 => ?_)
          clear hS_
          clear hK K
          refine norm_ (a' := ?_) ?_ ?_
          rotate_left
          · show Act.put _ (some 37) _ = _
            simp only [Act.put, List.setIfInBounds_toArray, List.set_cons_zero, List.set_cons_succ, i64_w, i32_w]
            rfl
          refine one_ (i := 6) (N := some 38) #[true, true, true, true, true, true, true, false, false] rfl rfl (by kernel_rfl) (by decide) (fun K hK => ?_)
          have HLIT := Aside0.mk (lit1 (k36_mk _ j3) (HI.out.lits _ rfl) (by rw [HJ3.out]))
          refine Kd.R_append_rows_step k36 (w0 := _) W.heap.size (by rfl) _ _ 30 36 _ 128 rfl Try.underlying30 info36 rfl (by decide) (by decide) _ n.l9 [j3] _ 1 1 _ (fun _ => False) rfl rfl HI.out.own HLIT.out (fun _ _ h => h) (fun _ h => h.elim) HI.out.fresh (Below.refl _ _) HI.out.sz HLEN.out ?_
          intro v9 w9 hO9 hb9 hg9 _
          obtain ⟨A9, c9, rfl, _, _⟩ := Kd.R_reads hO9
          have HI := Aside0.mk (HI.out.grow (ys := n.l9 ++ [j3]) hg9 hO9)
          clear hO9 hb9 hg9 HLIT
          have hS_ := HI.out.told
          refine hK.out _ _ hS_ (fun hH_0_3_5_6 => ?_)
          clear hS_
          clear hK K
          refine norm_ (a' := ?_) ?_ ?_
          rotate_left
          · show Act.put _ (some 38) _ = _
            simp only [Act.put, List.setIfInBounds_toArray, List.set_cons_zero, List.set_cons_succ, i64_w, i32_w]
            rfl
          refine pure_ (i := 7) (N := some 39) (v := ?_) (a' := ?_) #[true, true, true, true, true, true, true, true, false] rfl rfl (by kernel_rfl) (fun _ _ _ h => h) (Or.inl ⟨by rfl, ?_⟩) ?_ ?_
          rotate_left
          · intro w'
            go_simp
            with_reducible rfl
          rotate_left
          · simp only [Act.put, List.setIfInBounds_toArray, List.set_cons_zero, List.set_cons_succ, i64_w, i32_w]
            rfl
          refine last_ (i := 8) (N := none) #[true, true, true, true, true, true, true, true, true] rfl rfl (by kernel_rfl) (by decide) (fun K hK => ?_)
          refine store_step 30 _ _ g 9 _ #[.int .u64 n.a0, .int .u16 n.a1, .int .i64 n.a2, .bool n.a3, .slice s.A4 n.l4.length s.c4, .slice s.A5 n.l5.length s.c5, .slice s.A6 n.l6.length s.c6, .slice s.A7 n.l7.length s.c7, .slice s.A8 n.l8.length s.c8, .slice A9 (n.l9 ++ [j3]).length c9, .slice s.A10 n.l10.length s.c10, .int .u32 n.a11, .int .i64 iv, .int .i64 n.a13] 34 (.slice A9 (n.l9 ++ [j3]).length c9) [.slice A9 (n.l9 ++ [j3]).length c9] (by rfl) rfl rfl rfl HI.out.told.bg rfl (by kernel_rfl) (by simp) (by simp [Value.oneCell']) (by simp) ?_
          intro w10 e10 hs10
          have HS10 := Aside0.mk hs10
          clear hs10
          refine hK.out _ _ ?_
          clear hK K
          refine norm_ (a' := ?_) ?_ ?_
          rotate_left
          · show Act.put _ (none) _ = _
            simp only [Act.put, List.setIfInBounds_toArray, List.set_cons_zero, List.set_cons_succ, i64_w, i32_w]
            rfl
          refine done_ (by kernel_rfl) ?_
          obtain ⟨ln, hln⟩ : ∃ ln, (n.l9 ++ [j3]).length = ln := ⟨_, rfl⟩
          rw [hln] at e10
          have F10 := Aside0.mk (HS10.out.blk (by omega) HI.out.res)
          have HLN := Aside0.mk hln
          have hgB := HI.out.gB
          
          go_wp2_with (first | (refine gate_ (.load 34 (.tmp 2)) rfl ?_; refine wpList_load_row rfl 34 _ rfl (g) rfl 34 _ (0, 0) _ e10 Try.underlying34 rfl (by kernel_rfl) ?_) | (refine store_box (.store 34 (.tmp 4) (.tmp 40)) 34 _ _ (g + 1 + 1) 0 _ #[.int .u64 n.a0, .int .u16 n.a1, .int .i64 n.a2, .bool n.a3, .slice s.A4 n.l4.length s.c4, .slice s.A5 n.l5.length s.c5, .slice s.A6 n.l6.length s.c6, .slice s.A7 n.l7.length s.c7, .slice s.A8 n.l8.length s.c8, .slice A9 ln c9, .slice s.A10 n.l10.length s.c10, .int .u32 n.a11, .int .i64 iv, .int .i64 n.a13] 34 _ [.int .u64 n.a0, .int .u16 n.a1, .int .i64 n.a2, .bool n.a3, .slice s.A4 n.l4.length s.c4, .slice s.A5 n.l5.length s.c5, .slice s.A6 n.l6.length s.c6, .slice s.A7 n.l7.length s.c7, .slice s.A8 n.l8.length s.c8, .slice A9 ln c9, .slice s.A10 n.l10.length s.c10, .int .u32 n.a11, .int .i64 iv, .int .i64 n.a13] rfl rfl rfl rfl rfl rfl F10.out rfl (by kernel_rfl) (by simp) (by simp [Value.oneCell']) (by simp) ?_; intro w13 e13 hs13; have HS13 := Aside0.mk hs13; clear hs13 e10; refine hold_ ?_))
          intro _
          obtain ⟨y0, y1, y2, y3, y4, y5, y6, y7, y8, y9, y10, y11, y12, y13, _⟩ := box14f e13
          go_wp2_with fail
          refine bodyPost_ret (v := .tuple #[.agg #[.int .u64 n.a0, .int .u16 n.a1, .int .i64 n.a2, .bool n.a3, .slice s.A4 n.l4.length s.c4, .slice s.A5 n.l5.length s.c5, .slice s.A6 n.l6.length s.c6, .slice s.A7 n.l7.length s.c7, .slice s.A8 n.l8.length s.c8, .slice A9 ln c9, .slice s.A10 n.l10.length s.c10, .int .u32 n.a11, .int .i64 iv, .int .i64 n.a13], .int .i64 iv, .int .i64 0]) ?hres rfl ?_
          case hres =>
            simp only [results, Try.f9]
            go_simp
            first | done | exact HQ.out.symm | exact HQ.out
          have hB10 : Below w.heap.size w w10 := HS10.out.on (by have := HI.out.gw; omega) HI.out.bel
          have hB13 : Below w.heap.size w w13 := HS13.out.on (by have := HI.out.gw; omega) hB10
          refine ⟨{ s with A9 := A9, c9 := c9 }, by rw [← HLN.out], ?_, hB13⟩
          have hn := HN.out.below hB13
          have hR := Kd.R_step (Kd.R_step (Kd.R_bound HI.out.own) (fun k hk hlt => HS10.out.far k (by have := hk.2.1; omega))) (fun k hk hlt => HS13.out.far k (by have := hk.2.1; omega))
          exact ⟨hn.r4, hn.q4, hn.r5, hn.q5, hn.r6, hn.q6, hn.r7, hn.q7, hn.r8, hn.q8, (Kd.R_reads' hR).2.2, (Kd.R_reads' hR).2.1, hn.r10, hn.q10⟩
        · obtain ⟨w8, g8, hg8, hw8, hi⟩ := HI.out.lit1
          have HI := Aside0.mk hi
          clear hi
          refine event_step (w1 := w8) (v := .slice (some ⟨g8, 0, none⟩) 1 1) (by rfl) (by rw [← hw8, ← hg8]; go_simp; try rfl) ?_
          clear hw8 hg8
          have hS_ := HI.out.told
          refine hK.out _ _ hS_ (fun hH_0_5 => ?_)
          clear hS_
          clear hK K
          refine norm_ (a' := ?_) ?_ ?_
          rotate_left
          · show Act.put _ (some 37) _ = _
            simp only [Act.put, List.setIfInBounds_toArray, List.set_cons_zero, List.set_cons_succ, i64_w, i32_w]
            rfl
          refine one_ (i := 3) (N := some 35) #[true, true, true, true, true, true, false, false, false] rfl rfl (by kernel_rfl) (by decide) (fun K hK => ?_)
          refine Kd.R_append_rows_step k36 (w0 := _) W.heap.size (by rfl) _ _ 30 36 _ 128 rfl Try.underlying30 info36 rfl (by decide) (by decide) (.slice (some ⟨g5, 0, none⟩) 0 0) [] n.l9 _ n.l9.length _ _ (fun _ => False) rfl rfl HI.out.own (Kd.C_below HN.out.r9 HI.out.bel) (fun _ _ h => h) (fun _ h => h.elim) HI.out.fresh (Below.refl _ _) HI.out.sz HLEN0.out ?_
          intro v6 w6 hO6 hb6 hg6 _
          obtain ⟨A6, c6, rfl, _, _⟩ := Kd.R_reads hO6
          have HI := Aside0.mk (HI.out.grow (ys := n.l9) hg6 hO6)
          clear hO6 hb6 hg6
          have hS_ := HI.out.told
          refine hK.out _ _ hS_ (fun hH_0_5_3 => ?_)
          clear hS_
          clear hK K
          refine norm_ (a' := ?_) ?_ ?_
          rotate_left
          · show Act.put _ (some 35) _ = _
            simp only [Act.put, List.setIfInBounds_toArray, List.set_cons_zero, List.set_cons_succ, i64_w, i32_w]
            rfl
          refine one_ (i := 6) (N := some 38) #[true, true, true, true, true, true, true, false, false] rfl rfl (by kernel_rfl) (by decide) (fun K hK => ?_)
          have HLIT := Aside0.mk (lit1 (k36_mk _ j3) (HI.out.lits _ rfl) (by rw [HJ3.out]))
          refine Kd.R_append_rows_step k36 (w0 := _) W.heap.size (by rfl) _ _ 30 36 _ 128 rfl Try.underlying30 info36 rfl (by decide) (by decide) _ n.l9 [j3] _ 1 1 _ (fun _ => False) rfl rfl HI.out.own HLIT.out (fun _ _ h => h) (fun _ h => h.elim) HI.out.fresh (Below.refl _ _) HI.out.sz HLEN.out ?_
          intro v9 w9 hO9 hb9 hg9 _
          obtain ⟨A9, c9, rfl, _, _⟩ := Kd.R_reads hO9
          have HI := Aside0.mk (HI.out.grow (ys := n.l9 ++ [j3]) hg9 hO9)
          clear hO9 hb9 hg9 HLIT
          have hS_ := HI.out.told
          refine hK.out _ _ hS_ (fun hH_0_5_3_6 => ?_)
          clear hS_
          clear hK K
          refine norm_ (a' := ?_) ?_ ?_
          rotate_left
          · show Act.put _ (some 38) _ = _
            simp only [Act.put, List.setIfInBounds_toArray, List.set_cons_zero, List.set_cons_succ, i64_w, i32_w]
            rfl
          refine pure_ (i := 7) (N := some 39) (v := ?_) (a' := ?_) #[true, true, true, true, true, true, true, true, false] rfl rfl (by kernel_rfl) (fun _ _ _ h => h) (Or.inl ⟨by rfl, ?_⟩) ?_ ?_
          rotate_left
          · intro w'
            go_simp
            with_reducible rfl
          rotate_left
          · simp only [Act.put, List.setIfInBounds_toArray, List.set_cons_zero, List.set_cons_succ, i64_w, i32_w]
            rfl
          refine last_ (i := 8) (N := none) #[true, true, true, true, true, true, true, true, true] rfl rfl (by kernel_rfl) (by decide) (fun K hK => ?_)
          refine store_step 30 _ _ g 9 _ #[.int .u64 n.a0, .int .u16 n.a1, .int .i64 n.a2, .bool n.a3, .slice s.A4 n.l4.length s.c4, .slice s.A5 n.l5.length s.c5, .slice s.A6 n.l6.length s.c6, .slice s.A7 n.l7.length s.c7, .slice s.A8 n.l8.length s.c8, .slice A9 (n.l9 ++ [j3]).length c9, .slice s.A10 n.l10.length s.c10, .int .u32 n.a11, .int .i64 iv, .int .i64 n.a13] 34 (.slice A9 (n.l9 ++ [j3]).length c9) [.slice A9 (n.l9 ++ [j3]).length c9] (by rfl) rfl rfl rfl HI.out.told.bg rfl (by kernel_rfl) (by simp) (by simp [Value.oneCell']) (by simp) ?_
          intro w10 e10 hs10
          have HS10 := Aside0.mk hs10
          clear hs10
          refine hK.out _ _ ?_
          clear hK K
          refine norm_ (a' := ?_) ?_ ?_
          rotate_left
          · show Act.put _ (none) _ = _
            simp only [Act.put, List.setIfInBounds_toArray, List.set_cons_zero, List.set_cons_succ, i64_w, i32_w]
            rfl
          refine done_ (by kernel_rfl) ?_
          obtain ⟨ln, hln⟩ : ∃ ln, (n.l9 ++ [j3]).length = ln := ⟨_, rfl⟩
          rw [hln] at e10
          have F10 := Aside0.mk (HS10.out.blk (by omega) HI.out.res)
          have HLN := Aside0.mk hln
          have hgB := HI.out.gB
          
          go_wp2_with (first | (refine gate_ (.load 34 (.tmp 2)) rfl ?_; refine wpList_load_row rfl 34 _ rfl (g) rfl 34 _ (0, 0) _ e10 Try.underlying34 rfl (by kernel_rfl) ?_) | (refine store_box (.store 34 (.tmp 4) (.tmp 40)) 34 _ _ (g + 1 + 1) 0 _ #[.int .u64 n.a0, .int .u16 n.a1, .int .i64 n.a2, .bool n.a3, .slice s.A4 n.l4.length s.c4, .slice s.A5 n.l5.length s.c5, .slice s.A6 n.l6.length s.c6, .slice s.A7 n.l7.length s.c7, .slice s.A8 n.l8.length s.c8, .slice A9 ln c9, .slice s.A10 n.l10.length s.c10, .int .u32 n.a11, .int .i64 iv, .int .i64 n.a13] 34 _ [.int .u64 n.a0, .int .u16 n.a1, .int .i64 n.a2, .bool n.a3, .slice s.A4 n.l4.length s.c4, .slice s.A5 n.l5.length s.c5, .slice s.A6 n.l6.length s.c6, .slice s.A7 n.l7.length s.c7, .slice s.A8 n.l8.length s.c8, .slice A9 ln c9, .slice s.A10 n.l10.length s.c10, .int .u32 n.a11, .int .i64 iv, .int .i64 n.a13] rfl rfl rfl rfl rfl rfl F10.out rfl (by kernel_rfl) (by simp) (by simp [Value.oneCell']) (by simp) ?_; intro w13 e13 hs13; have HS13 := Aside0.mk hs13; clear hs13 e10; refine hold_ ?_))
          intro _
          obtain ⟨y0, y1, y2, y3, y4, y5, y6, y7, y8, y9, y10, y11, y12, y13, _⟩ := box14f e13
          go_wp2_with fail
          refine bodyPost_ret (v := .tuple #[.agg #[.int .u64 n.a0, .int .u16 n.a1, .int .i64 n.a2, .bool n.a3, .slice s.A4 n.l4.length s.c4, .slice s.A5 n.l5.length s.c5, .slice s.A6 n.l6.length s.c6, .slice s.A7 n.l7.length s.c7, .slice s.A8 n.l8.length s.c8, .slice A9 ln c9, .slice s.A10 n.l10.length s.c10, .int .u32 n.a11, .int .i64 iv, .int .i64 n.a13], .int .i64 iv, .int .i64 0]) ?hres rfl ?_
          case hres =>
            simp only [results, Try.f9]
            go_simp
            first | done | exact HQ.out.symm | exact HQ.out
          have hB10 : Below w.heap.size w w10 := HS10.out.on (by have := HI.out.gw; omega) HI.out.bel
          have hB13 : Below w.heap.size w w13 := HS13.out.on (by have := HI.out.gw; omega) hB10
          refine ⟨{ s with A9 := A9, c9 := c9 }, by rw [← HLN.out], ?_, hB13⟩
          have hn := HN.out.below hB13
          have hR := Kd.R_step (Kd.R_step (Kd.R_bound HI.out.own) (fun k hk hlt => HS10.out.far k (by have := hk.2.1; omega))) (fun k hk hlt => HS13.out.far k (by have := hk.2.1; omega))
          exact ⟨hn.r4, hn.q4, hn.r5, hn.q5, hn.r6, hn.q6, hn.r7, hn.q7, hn.r8, hn.q8, (Kd.R_reads' hR).2.2, (Kd.R_reads' hR).2.1, hn.r10, hn.q10⟩
      · obtain ⟨w8, g8, hg8, hw8, hi⟩ := HI.out.lit1
        have HI := Aside0.mk hi
        clear hi
        refine event_step (w1 := w8) (v := .slice (some ⟨g8, 0, none⟩) 1 1) (by rfl) (by rw [← hw8, ← hg8]; go_simp; try rfl) ?_
        clear hw8 hg8
        have hS_ := HI.out.told
        refine hK.out _ _ hS_ (fun hH_5 => ?_)
        clear hS_
        clear hK K
        refine norm_ (a' := ?_) ?_ ?_
        rotate_left
        · show Act.put _ (some 37) _ = _
          simp only [Act.put, List.setIfInBounds_toArray, List.set_cons_zero, List.set_cons_succ, i64_w, i32_w]
          rfl
        refine one_ (i := 0) (N := some 32) #[true, true, true, false, true, true, false, false, false] rfl rfl (by kernel_rfl) (by decide) (fun K hK => ?_)
        obtain ⟨w5, g5, hg5, hw5, hi⟩ := HI.out.first
        have HI := Aside0.mk hi
        clear hi
        refine event_step (w1 := w5) (v := .slice (some ⟨g5, 0, none⟩) 0 0) (by rfl) (by rw [← hw5, ← hg5]; go_simp; try rfl) ?_
        clear hw5 hg5
        have hS_ := HI.out.told
        refine hK.out _ _ hS_ (fun hH_5_0 => ?_)
        clear hS_
        clear hK K
        refine norm_ (a' := ?_) ?_ ?_
        rotate_left
        · show Act.put _ (some 32) _ = _
          simp only [Act.put, List.setIfInBounds_toArray, List.set_cons_zero, List.set_cons_succ, i64_w, i32_w]
          rfl
        refine one_ (i := 3) (N := some 35) #[true, true, true, true, true, true, false, false, false] rfl rfl (by kernel_rfl) (by decide) (fun K hK => ?_)
        refine Kd.R_append_rows_step k36 (w0 := _) W.heap.size (by rfl) _ _ 30 36 _ 128 rfl Try.underlying30 info36 rfl (by decide) (by decide) (.slice (some ⟨g5, 0, none⟩) 0 0) [] n.l9 _ n.l9.length _ _ (fun _ => False) rfl rfl HI.out.own (Kd.C_below HN.out.r9 HI.out.bel) (fun _ _ h => h) (fun _ h => h.elim) HI.out.fresh (Below.refl _ _) HI.out.sz HLEN0.out ?_
        intro v6 w6 hO6 hb6 hg6 _
        obtain ⟨A6, c6, rfl, _, _⟩ := Kd.R_reads hO6
        have HI := Aside0.mk (HI.out.grow (ys := n.l9) hg6 hO6)
        clear hO6 hb6 hg6
        have hS_ := HI.out.told
        refine hK.out _ _ hS_ (fun hH_5_0_3 => ?_)
        clear hS_
        clear hK K
        refine norm_ (a' := ?_) ?_ ?_
        rotate_left
        · show Act.put _ (some 35) _ = _
          simp only [Act.put, List.setIfInBounds_toArray, List.set_cons_zero, List.set_cons_succ, i64_w, i32_w]
          rfl
        refine one_ (i := 6) (N := some 38) #[true, true, true, true, true, true, true, false, false] rfl rfl (by kernel_rfl) (by decide) (fun K hK => ?_)
        have HLIT := Aside0.mk (lit1 (k36_mk _ j3) (HI.out.lits _ rfl) (by rw [HJ3.out]))
        refine Kd.R_append_rows_step k36 (w0 := _) W.heap.size (by rfl) _ _ 30 36 _ 128 rfl Try.underlying30 info36 rfl (by decide) (by decide) _ n.l9 [j3] _ 1 1 _ (fun _ => False) rfl rfl HI.out.own HLIT.out (fun _ _ h => h) (fun _ h => h.elim) HI.out.fresh (Below.refl _ _) HI.out.sz HLEN.out ?_
        intro v9 w9 hO9 hb9 hg9 _
        obtain ⟨A9, c9, rfl, _, _⟩ := Kd.R_reads hO9
        have HI := Aside0.mk (HI.out.grow (ys := n.l9 ++ [j3]) hg9 hO9)
        clear hO9 hb9 hg9 HLIT
        have hS_ := HI.out.told
        refine hK.out _ _ hS_ (fun hH_5_0_3_6 => ?_)
        clear hS_
        clear hK K
        refine norm_ (a' := ?_) ?_ ?_
        rotate_left
        · show Act.put _ (some 38) _ = _
          simp only [Act.put, List.setIfInBounds_toArray, List.set_cons_zero, List.set_cons_succ, i64_w, i32_w]
          rfl
        refine pure_ (i := 7) (N := some 39) (v := ?_) (a' := ?_) #[true, true, true, true, true, true, true, true, false] rfl rfl (by kernel_rfl) (fun _ _ _ h => h) (Or.inl ⟨by rfl, ?_⟩) ?_ ?_
        rotate_left
        · intro w'
          go_simp
          with_reducible rfl
        rotate_left
        · simp only [Act.put, List.setIfInBounds_toArray, List.set_cons_zero, List.set_cons_succ, i64_w, i32_w]
          rfl
        refine last_ (i := 8) (N := none) #[true, true, true, true, true, true, true, true, true] rfl rfl (by kernel_rfl) (by decide) (fun K hK => ?_)
        refine store_step 30 _ _ g 9 _ #[.int .u64 n.a0, .int .u16 n.a1, .int .i64 n.a2, .bool n.a3, .slice s.A4 n.l4.length s.c4, .slice s.A5 n.l5.length s.c5, .slice s.A6 n.l6.length s.c6, .slice s.A7 n.l7.length s.c7, .slice s.A8 n.l8.length s.c8, .slice A9 (n.l9 ++ [j3]).length c9, .slice s.A10 n.l10.length s.c10, .int .u32 n.a11, .int .i64 iv, .int .i64 n.a13] 34 (.slice A9 (n.l9 ++ [j3]).length c9) [.slice A9 (n.l9 ++ [j3]).length c9] (by rfl) rfl rfl rfl HI.out.told.bg rfl (by kernel_rfl) (by simp) (by simp [Value.oneCell']) (by simp) ?_
        intro w10 e10 hs10
        have HS10 := Aside0.mk hs10
        clear hs10
        refine hK.out _ _ ?_
        clear hK K
        refine norm_ (a' := ?_) ?_ ?_
        rotate_left
        · show Act.put _ (none) _ = _
          simp only [Act.put, List.setIfInBounds_toArray, List.set_cons_zero, List.set_cons_succ, i64_w, i32_w]
          rfl
        refine done_ (by kernel_rfl) ?_
        obtain ⟨ln, hln⟩ : ∃ ln, (n.l9 ++ [j3]).length = ln := ⟨_, rfl⟩
        rw [hln] at e10
        have F10 := Aside0.mk (HS10.out.blk (by omega) HI.out.res)
        have HLN := Aside0.mk hln
        have hgB := HI.out.gB
        
        go_wp2_with (first | (refine gate_ (.load 34 (.tmp 2)) rfl ?_; refine wpList_load_row rfl 34 _ rfl (g) rfl 34 _ (0, 0) _ e10 Try.underlying34 rfl (by kernel_rfl) ?_) | (refine store_box (.store 34 (.tmp 4) (.tmp 40)) 34 _ _ (g + 1 + 1) 0 _ #[.int .u64 n.a0, .int .u16 n.a1, .int .i64 n.a2, .bool n.a3, .slice s.A4 n.l4.length s.c4, .slice s.A5 n.l5.length s.c5, .slice s.A6 n.l6.length s.c6, .slice s.A7 n.l7.length s.c7, .slice s.A8 n.l8.length s.c8, .slice A9 ln c9, .slice s.A10 n.l10.length s.c10, .int .u32 n.a11, .int .i64 iv, .int .i64 n.a13] 34 _ [.int .u64 n.a0, .int .u16 n.a1, .int .i64 n.a2, .bool n.a3, .slice s.A4 n.l4.length s.c4, .slice s.A5 n.l5.length s.c5, .slice s.A6 n.l6.length s.c6, .slice s.A7 n.l7.length s.c7, .slice s.A8 n.l8.length s.c8, .slice A9 ln c9, .slice s.A10 n.l10.length s.c10, .int .u32 n.a11, .int .i64 iv, .int .i64 n.a13] rfl rfl rfl rfl rfl rfl F10.out rfl (by kernel_rfl) (by simp) (by simp [Value.oneCell']) (by simp) ?_; intro w13 e13 hs13; have HS13 := Aside0.mk hs13; clear hs13 e10; refine hold_ ?_))
        intro _
        obtain ⟨y0, y1, y2, y3, y4, y5, y6, y7, y8, y9, y10, y11, y12, y13, _⟩ := box14f e13
        go_wp2_with fail
        refine bodyPost_ret (v := .tuple #[.agg #[.int .u64 n.a0, .int .u16 n.a1, .int .i64 n.a2, .bool n.a3, .slice s.A4 n.l4.length s.c4, .slice s.A5 n.l5.length s.c5, .slice s.A6 n.l6.length s.c6, .slice s.A7 n.l7.length s.c7, .slice s.A8 n.l8.length s.c8, .slice A9 ln c9, .slice s.A10 n.l10.length s.c10, .int .u32 n.a11, .int .i64 iv, .int .i64 n.a13], .int .i64 iv, .int .i64 0]) ?hres rfl ?_
        case hres =>
          simp only [results, Try.f9]
          go_simp
          first | done | exact HQ.out.symm | exact HQ.out
        have hB10 : Below w.heap.size w w10 := HS10.out.on (by have := HI.out.gw; omega) HI.out.bel
        have hB13 : Below w.heap.size w w13 := HS13.out.on (by have := HI.out.gw; omega) hB10
        refine ⟨{ s with A9 := A9, c9 := c9 }, by rw [← HLN.out], ?_, hB13⟩
        have hn := HN.out.below hB13
        have hR := Kd.R_step (Kd.R_step (Kd.R_bound HI.out.own) (fun k hk hlt => HS10.out.far k (by have := hk.2.1; omega))) (fun k hk hlt => HS13.out.far k (by have := hk.2.1; omega))
        exact ⟨hn.r4, hn.q4, hn.r5, hn.q5, hn.r6, hn.q6, hn.r7, hn.q7, hn.r8, hn.q8, (Kd.R_reads' hR).2.2, (Kd.R_reads' hR).2.1, hn.r10, hn.q10⟩
    · have HQ := Aside0.mk q3
      clear q3
      go_enter Try.func9, Try.ntmps9
      go_wp2_with (refine store_box (.store 3 (.tmp 25) (.tmp 24)) 3 _ _ (g) 12 _ #[.int .u64 n.a0, .int .u16 n.a1, .int .i64 n.a2, .bool n.a3, .slice s.A4 n.l4.length s.c4, .slice s.A5 n.l5.length s.c5, .slice s.A6 n.l6.length s.c6, .slice s.A7 n.l7.length s.c7, .slice s.A8 n.l8.length s.c8, .slice s.A9 n.l9.length s.c9, .slice s.A10 n.l10.length s.c10, .int .u32 n.a11, .int .i64 iv, .int .i64 n.a13] 34 (.int .i64 iv) [.int .i64 iv] rfl rfl rfl rfl rfl (congrArg (Value.int .i64) HQ.out) e5 rfl (by kernel_rfl) (by simp) (by simp [Value.oneCell']) (by simp) ?_; intro w3 e4 hs3; have HS3 := Aside0.mk hs3; clear hs3 c9 c12 e5 hW; refine hold_ ?_)
      intro _
      have f6 := HS3.out.blk (by omega) HE6.out
      have HN3 : Aside0 (NC w3 { n with a12 := iv } s) := ⟨by
        have hh := HN.out.below (HS3.out.on (by have := HGG.out; omega) HBW.out)
        exact ⟨hh.r4, hh.q4, hh.r5, hh.q5, hh.r6, hh.q6, hh.r7, hh.q7, hh.r8, hh.q8, hh.r9, hh.q9, hh.r10, hh.q10⟩⟩
      go_wp2_with (first | (refine store_box (.store 3 (.tmp 27) (.tmp 26)) 3 _ _ (g + 1) 0 _ #[.int .i64 iv, .int .i64 j.f1, .int .i64 j.f2, .string j.f3, .string j.f4, .int .u64 j.f5, .int .u64 j.f6.f0, .int .u16 j.f6.f1, .int .u64 j.f7.f0, .int .u16 j.f7.f1, .bool j.f8, .int .i64 j.f9, .int .i64 j.f10, .int .i64 j.f11] 36 (.int .i64 iv) [.int .i64 iv] rfl rfl rfl rfl rfl (congrArg (Value.int .i64) HQ.out) f6 rfl (by kernel_rfl) (by simp) (by simp [Value.oneCell']) (by simp) ?_; intro w4 e7 hs4; have HS4 := Aside0.mk hs4; clear hs4 f6; refine hold_ ?_))
      intro _
      have e8 := HS4.out.blk (by omega) e4
      have HX8 := Aside0.mk e8
      have HN4 : Aside0 (NC w4 { n with a12 := iv } s) := ⟨by
        have hh := HN.out.below (HS4.out.on (by have := HGG.out; omega) (HS3.out.on (by have := HGG.out; omega) HBW.out))
        exact ⟨hh.r4, hh.q4, hh.r5, hh.q5, hh.r6, hh.q6, hh.r7, hh.q7, hh.r8, hh.q8, hh.r9, hh.q9, hh.r10, hh.q10⟩⟩
      clear e4
      go_wp2_with (refine gate_ (.load 34 (.tmp 2)) rfl ?_; refine wpList_load_row rfl 34 _ rfl (g) rfl 34 _ (0, 0) _ e8 Try.underlying34 rfl (by kernel_rfl) ?_)
      have hnow := rnow_ok { n with a12 := iv } s w4 HN4.out
      rw [show nowF { n with a12 := iv } = nowF n from rfl, HNW.out] at hnow
      refine hnow.mono ?_
      rintro e w5 ⟨rfl, hb5⟩
      have HB5 := Aside0.mk hb5
      have f7 := (hb5.block _ (blk_lt e7)).trans e7
      have f8 := (hb5.block _ (blk_lt HX8.out)).trans HX8.out
      clear hnow hb5 e7 e8
      go_wp2_with (refine store_box (.store 3 (.tmp 31) (.tmp 30)) 3 _ _ (g + 1) 13 _ #[.int .i64 iv, .int .i64 j.f1, .int .i64 j.f2, .string j.f3, .string j.f4, .int .u64 j.f5, .int .u64 j.f6.f0, .int .u16 j.f6.f1, .int .u64 j.f7.f0, .int .u16 j.f7.f1, .bool j.f8, .int .i64 j.f9, .int .i64 j.f10, .int .i64 (nw + 200)] 36 (.int .i64 (nw + 200)) [.int .i64 (nw + 200)] rfl rfl rfl rfl rfl (congrArg (Value.int .i64) HW8.out) f7 rfl (by kernel_rfl) (by simp) (by simp [Value.oneCell']) (by simp) ?_; intro w6 e9 hs6; have HS6 := Aside0.mk hs6; clear hs6 f7; refine hold_ ?_)
      intro _
      have HI6 : Aside0 (RA w W.heap.size g #[.int .u64 n.a0, .int .u16 n.a1, .int .i64 n.a2, .bool n.a3, .slice s.A4 n.l4.length s.c4, .slice s.A5 n.l5.length s.c5, .slice s.A6 n.l6.length s.c6, .slice s.A7 n.l7.length s.c7, .slice s.A8 n.l8.length s.c8, .slice s.A9 n.l9.length s.c9, .slice s.A10 n.l10.length s.c10, .int .u32 n.a11, .int .i64 iv, .int .i64 n.a13] #[.int .i64 iv, .int .i64 j.f1, .int .i64 j.f2, .string j.f3, .string j.f4, .int .u64 j.f5, .int .u64 j.f6.f0, .int .u16 j.f6.f1, .int .u64 j.f7.f0, .int .u16 j.f7.f1, .bool j.f8, .int .i64 j.f9, .int .i64 j.f10, .int .i64 (nw + 200)] none none 0 [] w6) := ⟨by
        have hb3 := HS3.out.on (B := w.heap.size) (by have := HGG.out; omega) HBW.out
        have hb4 := HS4.out.on (B := w.heap.size) (by have := HGG.out; omega) hb3
        have hb5 := below_then hb4 hb4.size HB5.out
        have hb6 := HS6.out.on (B := w.heap.size) (by have := HGG.out; omega) hb5
        have hz3 := HS3.out.size
        have hz4 := HS4.out.size
        have hz5 := HB5.out.size
        have hz6 := HS6.out.size
        have r3 := HS3.out.blk (by omega) HE10.out
        have r4 := HS4.out.blk (by omega) r3
        have r5 := (HB5.out.block _ (blk_lt r4)).trans r4
        exact ⟨⟨HS6.out.blk (by omega) f8, e9⟩, HS6.out.blk (by omega) r5, hb6, by omega, by have := HSW.out; omega, by have := HGG.out; omega, Kd.R_nil _ _ _ _ _, fun _ h => by cases h⟩⟩
      obtain ⟨w7, hw7⟩ : ∃ w7, w6.drew = w7 := ⟨_, rfl⟩
      have HI : Aside0 (RA w W.heap.size g #[.int .u64 n.a0, .int .u16 n.a1, .int .i64 n.a2, .bool n.a3, .slice s.A4 n.l4.length s.c4, .slice s.A5 n.l5.length s.c5, .slice s.A6 n.l6.length s.c6, .slice s.A7 n.l7.length s.c7, .slice s.A8 n.l8.length s.c8, .slice s.A9 n.l9.length s.c9, .slice s.A10 n.l10.length s.c10, .int .u32 n.a11, .int .i64 iv, .int .i64 n.a13] #[.int .i64 iv, .int .i64 j.f1, .int .i64 j.f2, .string j.f3, .string j.f4, .int .u64 j.f5, .int .u64 j.f6.f0, .int .u16 j.f6.f1, .int .u64 j.f7.f0, .int .u16 j.f7.f1, .bool j.f8, .int .i64 j.f9, .int .i64 j.f10, .int .i64 (nw + 200)] none none 0 [] w7) := ⟨by rw [← hw7]; exact HI6.out.below (Below.refl _ _).drew⟩
      have hs0 : ToldS g (g + 1) #[.int .u64 n.a0, .int .u16 n.a1, .int .i64 n.a2, .bool n.a3, .slice s.A4 n.l4.length s.c4, .slice s.A5 n.l5.length s.c5, .slice s.A6 n.l6.length s.c6, .slice s.A7 n.l7.length s.c7, .slice s.A8 n.l8.length s.c8, .slice s.A9 n.l9.length s.c9, .slice s.A10 n.l10.length s.c10, .int .u32 n.a11, .int .i64 iv, .int .i64 n.a13] #[.int .i64 iv, .int .i64 j.f1, .int .i64 j.f2, .string j.f3, .string j.f4, .int .u64 j.f5, .int .u64 j.f6.f0, .int .u16 j.f6.f1, .int .u64 j.f7.f0, .int .u16 j.f7.f1, .bool j.f8, .int .i64 j.f9, .int .i64 j.f10, .int .i64 (nw + 200)] w6.drew := by rw [hw7]; exact HI.out.told
      clear f8 e9 HI6
      go_wp2_with fail
      refine start_ (n := 9) (S := ToldS g (g + 1) #[.int .u64 n.a0, .int .u16 n.a1, .int .i64 n.a2, .bool n.a3, .slice s.A4 n.l4.length s.c4, .slice s.A5 n.l5.length s.c5, .slice s.A6 n.l6.length s.c6, .slice s.A7 n.l7.length s.c7, .slice s.A8 n.l8.length s.c8, .slice s.A9 n.l9.length s.c9, .slice s.A10 n.l10.length s.c10, .int .u32 n.a11, .int .i64 iv, .int .i64 n.a13] #[.int .i64 iv, .int .i64 j.f1, .int .i64 j.f2, .string j.f3, .string j.f4, .int .u64 j.f5, .int .u64 j.f6.f0, .int .u16 j.f6.f1, .int .u64 j.f7.f0, .int .u16 j.f7.f1, .bool j.f8, .int .i64 j.f9, .int .i64 j.f10, .int .i64 (nw + 200)]) (ds := [8]) #[false, false, false, false, false, false, false, false, false] (by kernel_rfl) rfl rfl hs0 (fun hH => ?_)
      rw [hw7] at hH ⊢
      clear hs0 hw7
      refine pure_ (i := 1) (N := some 33) (v := ?_) (a' := ?_) #[false, true, false, false, false, false, false, false, false] rfl rfl (by kernel_rfl) (fun _ _ _ h => h) (Or.inl ⟨by rfl, ?_⟩) ?_ ?_
      rotate_left
      · intro w'
        go_simp
        with_reducible rfl
      rotate_left
      · simp only [Act.put, List.setIfInBounds_toArray, List.set_cons_zero, List.set_cons_succ, i64_w, i32_w]
        rfl
      refine take_ (i := 2) (N := some 34) (v := ?_) (a' := ?_) #[false, true, true, false, false, false, false, false, false] rfl rfl (by kernel_rfl) (fun _ _ _ h => h) (Or.inl ⟨by rfl, ?_⟩) hH ?_ ?_
      rotate_left
      · rintro w' ⟨s0, s1_⟩
        have c_ : _ = some _ := (blk_cell s0 9).trans rfl
        go_simp
        with_reducible rfl
      rotate_left
      · simp only [Act.put, List.setIfInBounds_toArray, List.set_cons_zero, List.set_cons_succ, i64_w, i32_w]
        rfl
      refine take_ (i := 4) (N := some 36) (v := ?_) (a' := ?_) #[false, true, true, false, true, false, false, false, false] rfl rfl (by kernel_rfl) (fun _ _ _ h => h) (Or.inl ⟨by rfl, ?_⟩) hH ?_ ?_
      rotate_left
      · rintro w' ⟨s0, s1_⟩
        refine load_yields (x := .tmp 3) ?_ ?_ s1_ Try.underlying36 rfl (by kernel_rfl)
        · rfl
        · rfl
      rotate_left
      · simp only [Act.put, List.setIfInBounds_toArray, List.set_cons_zero, List.set_cons_succ, i64_w, i32_w]
        rfl
      refine two_ (i := 0) (j := 5) (Ni := some 32) (Nj := some 37) #[true, true, true, false, true, false, false, false, false] #[false, true, true, false, true, true, false, false, false] rfl rfl rfl rfl (by kernel_rfl) (by decide) (by decide) (fun K hK => ?_) (fun K hK => ?_)
      · obtain ⟨w5, g5, hg5, hw5, hi⟩ := HI.out.first
        have HI := Aside0.mk hi
        clear hi
        refine event_step (w1 := w5) (v := .slice (some ⟨g5, 0, none⟩) 0 0) (by rfl) (by rw [← hw5, ← hg5]; go_simp; try rfl) ?_
        clear hw5 hg5
        have hS_ := HI.out.told
        refine hK.out _ _ hS_ (fun hH_0 => ?_)
        clear hS_
        clear hK K
        refine norm_ (a' := ?_) ?_ ?_
        rotate_left
        · show Act.put _ (some 32) _ = _
          simp only [Act.put, List.setIfInBounds_toArray, List.set_cons_zero, List.set_cons_succ, i64_w, i32_w]
          rfl
        refine two_ (i := 3) (j := 5) (Ni := some 35) (Nj := some 37) #[true, true, true, true, true, false, false, false, false] #[true, true, true, false, true, true, false, false, false] rfl rfl rfl rfl (by kernel_rfl) (by decide) (by decide) (fun K hK => ?_) (fun K hK => ?_)
        · refine Kd.R_append_rows_step k36 (w0 := _) W.heap.size (by rfl) _ _ 30 36 _ 128 rfl Try.underlying30 info36 rfl (by decide) (by decide) (.slice (some ⟨g5, 0, none⟩) 0 0) [] n.l9 _ n.l9.length _ _ (fun _ => False) rfl rfl HI.out.own (Kd.C_below HN.out.r9 HI.out.bel) (fun _ _ h => h) (fun _ h => h.elim) HI.out.fresh (Below.refl _ _) HI.out.sz HLEN0.out ?_
          intro v6 w6 hO6 hb6 hg6 _
          obtain ⟨A6, c6, rfl, _, _⟩ := Kd.R_reads hO6
          have HI := Aside0.mk (HI.out.grow (ys := n.l9) hg6 hO6)
          clear hO6 hb6 hg6
          have hS_ := HI.out.told
          refine hK.out _ _ hS_ (fun hH_0_3 => ?_)
          clear hS_
          clear hK K
          refine norm_ (a' := ?_) ?_ ?_
          rotate_left
          · show Act.put _ (some 35) _ = _
            simp only [Act.put, List.setIfInBounds_toArray, List.set_cons_zero, List.set_cons_succ, i64_w, i32_w]
            rfl
          refine one_ (i := 5) (N := some 37) #[true, true, true, true, true, true, false, false, false] rfl rfl (by kernel_rfl) (by decide) (fun K hK => ?_)
          obtain ⟨w8, g8, hg8, hw8, hi⟩ := HI.out.lit1
          have HI := Aside0.mk hi
          clear hi
          refine event_step (w1 := w8) (v := .slice (some ⟨g8, 0, none⟩) 1 1) (by rfl) (by rw [← hw8, ← hg8]; go_simp; try rfl) ?_
          clear hw8 hg8
          have hS_ := HI.out.told
          refine hK.out _ _ hS_ (fun hH_0_3_5 => ?_)
          clear hS_
          clear hK K
          refine norm_ (a' := ?_) ?_ ?_
          rotate_left
          · show Act.put _ (some 37) _ = _
            simp only [Act.put, List.setIfInBounds_toArray, List.set_cons_zero, List.set_cons_succ, i64_w, i32_w]
            rfl
          refine one_ (i := 6) (N := some 38) #[true, true, true, true, true, true, true, false, false] rfl rfl (by kernel_rfl) (by decide) (fun K hK => ?_)
          have HLIT := Aside0.mk (lit1 (k36_mk _ j3) (HI.out.lits _ rfl) (by rw [HJ3.out]))
          refine Kd.R_append_rows_step k36 (w0 := _) W.heap.size (by rfl) _ _ 30 36 _ 128 rfl Try.underlying30 info36 rfl (by decide) (by decide) _ n.l9 [j3] _ 1 1 _ (fun _ => False) rfl rfl HI.out.own HLIT.out (fun _ _ h => h) (fun _ h => h.elim) HI.out.fresh (Below.refl _ _) HI.out.sz HLEN.out ?_
          intro v9 w9 hO9 hb9 hg9 _
          obtain ⟨A9, c9, rfl, _, _⟩ := Kd.R_reads hO9
          have HI := Aside0.mk (HI.out.grow (ys := n.l9 ++ [j3]) hg9 hO9)
          clear hO9 hb9 hg9 HLIT
          have hS_ := HI.out.told
          refine hK.out _ _ hS_ (fun hH_0_3_5_6 => ?_)
          clear hS_
          clear hK K
          refine norm_ (a' := ?_) ?_ ?_
          rotate_left
          · show Act.put _ (some 38) _ = _
            simp only [Act.put, List.setIfInBounds_toArray, List.set_cons_zero, List.set_cons_succ, i64_w, i32_w]
            rfl
          refine pure_ (i := 7) (N := some 39) (v := ?_) (a' := ?_) #[true, true, true, true, true, true, true, true, false] rfl rfl (by kernel_rfl) (fun _ _ _ h => h) (Or.inl ⟨by rfl, ?_⟩) ?_ ?_
          rotate_left
          · intro w'
            go_simp
            with_reducible rfl
          rotate_left
          · simp only [Act.put, List.setIfInBounds_toArray, List.set_cons_zero, List.set_cons_succ, i64_w, i32_w]
            rfl
          refine last_ (i := 8) (N := none) #[true, true, true, true, true, true, true, true, true] rfl rfl (by kernel_rfl) (by decide) (fun K hK => ?_)
          refine store_step 30 _ _ g 9 _ #[.int .u64 n.a0, .int .u16 n.a1, .int .i64 n.a2, .bool n.a3, .slice s.A4 n.l4.length s.c4, .slice s.A5 n.l5.length s.c5, .slice s.A6 n.l6.length s.c6, .slice s.A7 n.l7.length s.c7, .slice s.A8 n.l8.length s.c8, .slice A9 (n.l9 ++ [j3]).length c9, .slice s.A10 n.l10.length s.c10, .int .u32 n.a11, .int .i64 iv, .int .i64 n.a13] 34 (.slice A9 (n.l9 ++ [j3]).length c9) [.slice A9 (n.l9 ++ [j3]).length c9] (by rfl) rfl rfl rfl HI.out.told.bg rfl (by kernel_rfl) (by simp) (by simp [Value.oneCell']) (by simp) ?_
          intro w10 e10 hs10
          have HS10 := Aside0.mk hs10
          clear hs10
          refine hK.out _ _ ?_
          clear hK K
          refine norm_ (a' := ?_) ?_ ?_
          rotate_left
          · show Act.put _ (none) _ = _
            simp only [Act.put, List.setIfInBounds_toArray, List.set_cons_zero, List.set_cons_succ, i64_w, i32_w]
            rfl
          refine done_ (by kernel_rfl) ?_
          obtain ⟨ln, hln⟩ : ∃ ln, (n.l9 ++ [j3]).length = ln := ⟨_, rfl⟩
          rw [hln] at e10
          have F10 := Aside0.mk (HS10.out.blk (by omega) HI.out.res)
          have HLN := Aside0.mk hln
          have hgB := HI.out.gB
          
          go_wp2_with (first | (refine gate_ (.load 34 (.tmp 2)) rfl ?_; refine wpList_load_row rfl 34 _ rfl (g) rfl 34 _ (0, 0) _ e10 Try.underlying34 rfl (by kernel_rfl) ?_) | (refine store_box (.store 34 (.tmp 4) (.tmp 40)) 34 _ _ (g + 1 + 1) 0 _ #[.int .u64 n.a0, .int .u16 n.a1, .int .i64 n.a2, .bool n.a3, .slice s.A4 n.l4.length s.c4, .slice s.A5 n.l5.length s.c5, .slice s.A6 n.l6.length s.c6, .slice s.A7 n.l7.length s.c7, .slice s.A8 n.l8.length s.c8, .slice A9 ln c9, .slice s.A10 n.l10.length s.c10, .int .u32 n.a11, .int .i64 iv, .int .i64 n.a13] 34 _ [.int .u64 n.a0, .int .u16 n.a1, .int .i64 n.a2, .bool n.a3, .slice s.A4 n.l4.length s.c4, .slice s.A5 n.l5.length s.c5, .slice s.A6 n.l6.length s.c6, .slice s.A7 n.l7.length s.c7, .slice s.A8 n.l8.length s.c8, .slice A9 ln c9, .slice s.A10 n.l10.length s.c10, .int .u32 n.a11, .int .i64 iv, .int .i64 n.a13] rfl rfl rfl rfl rfl rfl F10.out rfl (by kernel_rfl) (by simp) (by simp [Value.oneCell']) (by simp) ?_; intro w13 e13 hs13; have HS13 := Aside0.mk hs13; clear hs13 e10; refine hold_ ?_))
          intro _
          obtain ⟨y0, y1, y2, y3, y4, y5, y6, y7, y8, y9, y10, y11, y12, y13, _⟩ := box14f e13
          go_wp2_with fail
          refine bodyPost_ret (v := .tuple #[.agg #[.int .u64 n.a0, .int .u16 n.a1, .int .i64 n.a2, .bool n.a3, .slice s.A4 n.l4.length s.c4, .slice s.A5 n.l5.length s.c5, .slice s.A6 n.l6.length s.c6, .slice s.A7 n.l7.length s.c7, .slice s.A8 n.l8.length s.c8, .slice A9 ln c9, .slice s.A10 n.l10.length s.c10, .int .u32 n.a11, .int .i64 iv, .int .i64 n.a13], .int .i64 iv, .int .i64 0]) ?hres rfl ?_
          case hres =>
            simp only [results, Try.f9]
            go_simp
            first | done | exact HQ.out.symm | exact HQ.out
          have hB10 : Below w.heap.size w w10 := HS10.out.on (by have := HI.out.gw; omega) HI.out.bel
          have hB13 : Below w.heap.size w w13 := HS13.out.on (by have := HI.out.gw; omega) hB10
          refine ⟨{ s with A9 := A9, c9 := c9 }, by rw [← HLN.out], ?_, hB13⟩
          have hn := HN.out.below hB13
          have hR := Kd.R_step (Kd.R_step (Kd.R_bound HI.out.own) (fun k hk hlt => HS10.out.far k (by have := hk.2.1; omega))) (fun k hk hlt => HS13.out.far k (by have := hk.2.1; omega))
          exact ⟨hn.r4, hn.q4, hn.r5, hn.q5, hn.r6, hn.q6, hn.r7, hn.q7, hn.r8, hn.q8, (Kd.R_reads' hR).2.2, (Kd.R_reads' hR).2.1, hn.r10, hn.q10⟩
        · obtain ⟨w8, g8, hg8, hw8, hi⟩ := HI.out.lit1
          have HI := Aside0.mk hi
          clear hi
          refine event_step (w1 := w8) (v := .slice (some ⟨g8, 0, none⟩) 1 1) (by rfl) (by rw [← hw8, ← hg8]; go_simp; try rfl) ?_
          clear hw8 hg8
          have hS_ := HI.out.told
          refine hK.out _ _ hS_ (fun hH_0_5 => ?_)
          clear hS_
          clear hK K
          refine norm_ (a' := ?_) ?_ ?_
          rotate_left
          · show Act.put _ (some 37) _ = _
            simp only [Act.put, List.setIfInBounds_toArray, List.set_cons_zero, List.set_cons_succ, i64_w, i32_w]
            rfl
          refine one_ (i := 3) (N := some 35) #[true, true, true, true, true, true, false, false, false] rfl rfl (by kernel_rfl) (by decide) (fun K hK => ?_)
          refine Kd.R_append_rows_step k36 (w0 := _) W.heap.size (by rfl) _ _ 30 36 _ 128 rfl Try.underlying30 info36 rfl (by decide) (by decide) (.slice (some ⟨g5, 0, none⟩) 0 0) [] n.l9 _ n.l9.length _ _ (fun _ => False) rfl rfl HI.out.own (Kd.C_below HN.out.r9 HI.out.bel) (fun _ _ h => h) (fun _ h => h.elim) HI.out.fresh (Below.refl _ _) HI.out.sz HLEN0.out ?_
          intro v6 w6 hO6 hb6 hg6 _
          obtain ⟨A6, c6, rfl, _, _⟩ := Kd.R_reads hO6
          have HI := Aside0.mk (HI.out.grow (ys := n.l9) hg6 hO6)
          clear hO6 hb6 hg6
          have hS_ := HI.out.told
          refine hK.out _ _ hS_ (fun hH_0_5_3 => ?_)
          clear hS_
          clear hK K
          refine norm_ (a' := ?_) ?_ ?_
          rotate_left
          · show Act.put _ (some 35) _ = _
            simp only [Act.put, List.setIfInBounds_toArray, List.set_cons_zero, List.set_cons_succ, i64_w, i32_w]
            rfl
          refine one_ (i := 6) (N := some 38) #[true, true, true, true, true, true, true, false, false] rfl rfl (by kernel_rfl) (by decide) (fun K hK => ?_)
          have HLIT := Aside0.mk (lit1 (k36_mk _ j3) (HI.out.lits _ rfl) (by rw [HJ3.out]))
          refine Kd.R_append_rows_step k36 (w0 := _) W.heap.size (by rfl) _ _ 30 36 _ 128 rfl Try.underlying30 info36 rfl (by decide) (by decide) _ n.l9 [j3] _ 1 1 _ (fun _ => False) rfl rfl HI.out.own HLIT.out (fun _ _ h => h) (fun _ h => h.elim) HI.out.fresh (Below.refl _ _) HI.out.sz HLEN.out ?_
          intro v9 w9 hO9 hb9 hg9 _
          obtain ⟨A9, c9, rfl, _, _⟩ := Kd.R_reads hO9
          have HI := Aside0.mk (HI.out.grow (ys := n.l9 ++ [j3]) hg9 hO9)
          clear hO9 hb9 hg9 HLIT
          have hS_ := HI.out.told
          refine hK.out _ _ hS_ (fun hH_0_5_3_6 => ?_)
          clear hS_
          clear hK K
          refine norm_ (a' := ?_) ?_ ?_
          rotate_left
          · show Act.put _ (some 38) _ = _
            simp only [Act.put, List.setIfInBounds_toArray, List.set_cons_zero, List.set_cons_succ, i64_w, i32_w]
            rfl
          refine pure_ (i := 7) (N := some 39) (v := ?_) (a' := ?_) #[true, true, true, true, true, true, true, true, false] rfl rfl (by kernel_rfl) (fun _ _ _ h => h) (Or.inl ⟨by rfl, ?_⟩) ?_ ?_
          rotate_left
          · intro w'
            go_simp
            with_reducible rfl
          rotate_left
          · simp only [Act.put, List.setIfInBounds_toArray, List.set_cons_zero, List.set_cons_succ, i64_w, i32_w]
            rfl
          refine last_ (i := 8) (N := none) #[true, true, true, true, true, true, true, true, true] rfl rfl (by kernel_rfl) (by decide) (fun K hK => ?_)
          refine store_step 30 _ _ g 9 _ #[.int .u64 n.a0, .int .u16 n.a1, .int .i64 n.a2, .bool n.a3, .slice s.A4 n.l4.length s.c4, .slice s.A5 n.l5.length s.c5, .slice s.A6 n.l6.length s.c6, .slice s.A7 n.l7.length s.c7, .slice s.A8 n.l8.length s.c8, .slice A9 (n.l9 ++ [j3]).length c9, .slice s.A10 n.l10.length s.c10, .int .u32 n.a11, .int .i64 iv, .int .i64 n.a13] 34 (.slice A9 (n.l9 ++ [j3]).length c9) [.slice A9 (n.l9 ++ [j3]).length c9] (by rfl) rfl rfl rfl HI.out.told.bg rfl (by kernel_rfl) (by simp) (by simp [Value.oneCell']) (by simp) ?_
          intro w10 e10 hs10
          have HS10 := Aside0.mk hs10
          clear hs10
          refine hK.out _ _ ?_
          clear hK K
          refine norm_ (a' := ?_) ?_ ?_
          rotate_left
          · show Act.put _ (none) _ = _
            simp only [Act.put, List.setIfInBounds_toArray, List.set_cons_zero, List.set_cons_succ, i64_w, i32_w]
            rfl
          refine done_ (by kernel_rfl) ?_
          obtain ⟨ln, hln⟩ : ∃ ln, (n.l9 ++ [j3]).length = ln := ⟨_, rfl⟩
          rw [hln] at e10
          have F10 := Aside0.mk (HS10.out.blk (by omega) HI.out.res)
          have HLN := Aside0.mk hln
          have hgB := HI.out.gB
          
          go_wp2_with (first | (refine gate_ (.load 34 (.tmp 2)) rfl ?_; refine wpList_load_row rfl 34 _ rfl (g) rfl 34 _ (0, 0) _ e10 Try.underlying34 rfl (by kernel_rfl) ?_) | (refine store_box (.store 34 (.tmp 4) (.tmp 40)) 34 _ _ (g + 1 + 1) 0 _ #[.int .u64 n.a0, .int .u16 n.a1, .int .i64 n.a2, .bool n.a3, .slice s.A4 n.l4.length s.c4, .slice s.A5 n.l5.length s.c5, .slice s.A6 n.l6.length s.c6, .slice s.A7 n.l7.length s.c7, .slice s.A8 n.l8.length s.c8, .slice A9 ln c9, .slice s.A10 n.l10.length s.c10, .int .u32 n.a11, .int .i64 iv, .int .i64 n.a13] 34 _ [.int .u64 n.a0, .int .u16 n.a1, .int .i64 n.a2, .bool n.a3, .slice s.A4 n.l4.length s.c4, .slice s.A5 n.l5.length s.c5, .slice s.A6 n.l6.length s.c6, .slice s.A7 n.l7.length s.c7, .slice s.A8 n.l8.length s.c8, .slice A9 ln c9, .slice s.A10 n.l10.length s.c10, .int .u32 n.a11, .int .i64 iv, .int .i64 n.a13] rfl rfl rfl rfl rfl rfl F10.out rfl (by kernel_rfl) (by simp) (by simp [Value.oneCell']) (by simp) ?_; intro w13 e13 hs13; have HS13 := Aside0.mk hs13; clear hs13 e10; refine hold_ ?_))
          intro _
          obtain ⟨y0, y1, y2, y3, y4, y5, y6, y7, y8, y9, y10, y11, y12, y13, _⟩ := box14f e13
          go_wp2_with fail
          refine bodyPost_ret (v := .tuple #[.agg #[.int .u64 n.a0, .int .u16 n.a1, .int .i64 n.a2, .bool n.a3, .slice s.A4 n.l4.length s.c4, .slice s.A5 n.l5.length s.c5, .slice s.A6 n.l6.length s.c6, .slice s.A7 n.l7.length s.c7, .slice s.A8 n.l8.length s.c8, .slice A9 ln c9, .slice s.A10 n.l10.length s.c10, .int .u32 n.a11, .int .i64 iv, .int .i64 n.a13], .int .i64 iv, .int .i64 0]) ?hres rfl ?_
          case hres =>
            simp only [results, Try.f9]
            go_simp
            first | done | exact HQ.out.symm | exact HQ.out
          have hB10 : Below w.heap.size w w10 := HS10.out.on (by have := HI.out.gw; omega) HI.out.bel
          have hB13 : Below w.heap.size w w13 := HS13.out.on (by have := HI.out.gw; omega) hB10
          refine ⟨{ s with A9 := A9, c9 := c9 }, by rw [← HLN.out], ?_, hB13⟩
          have hn := HN.out.below hB13
          have hR := Kd.R_step (Kd.R_step (Kd.R_bound HI.out.own) (fun k hk hlt => HS10.out.far k (by have := hk.2.1; omega))) (fun k hk hlt => HS13.out.far k (by have := hk.2.1; omega))
          exact ⟨hn.r4, hn.q4, hn.r5, hn.q5, hn.r6, hn.q6, hn.r7, hn.q7, hn.r8, hn.q8, (Kd.R_reads' hR).2.2, (Kd.R_reads' hR).2.1, hn.r10, hn.q10⟩
      · obtain ⟨w8, g8, hg8, hw8, hi⟩ := HI.out.lit1
        have HI := Aside0.mk hi
        clear hi
        refine event_step (w1 := w8) (v := .slice (some ⟨g8, 0, none⟩) 1 1) (by rfl) (by rw [← hw8, ← hg8]; go_simp; try rfl) ?_
        clear hw8 hg8
        have hS_ := HI.out.told
        refine hK.out _ _ hS_ (fun hH_5 => ?_)
        clear hS_
        clear hK K
        refine norm_ (a' := ?_) ?_ ?_
        rotate_left
        · show Act.put _ (some 37) _ = _
          simp only [Act.put, List.setIfInBounds_toArray, List.set_cons_zero, List.set_cons_succ, i64_w, i32_w]
          rfl
        refine one_ (i := 0) (N := some 32) #[true, true, true, false, true, true, false, false, false] rfl rfl (by kernel_rfl) (by decide) (fun K hK => ?_)
        obtain ⟨w5, g5, hg5, hw5, hi⟩ := HI.out.first
        have HI := Aside0.mk hi
        clear hi
        refine event_step (w1 := w5) (v := .slice (some ⟨g5, 0, none⟩) 0 0) (by rfl) (by rw [← hw5, ← hg5]; go_simp; try rfl) ?_
        clear hw5 hg5
        have hS_ := HI.out.told
        refine hK.out _ _ hS_ (fun hH_5_0 => ?_)
        clear hS_
        clear hK K
        refine norm_ (a' := ?_) ?_ ?_
        rotate_left
        · show Act.put _ (some 32) _ = _
          simp only [Act.put, List.setIfInBounds_toArray, List.set_cons_zero, List.set_cons_succ, i64_w, i32_w]
          rfl
        refine one_ (i := 3) (N := some 35) #[true, true, true, true, true, true, false, false, false] rfl rfl (by kernel_rfl) (by decide) (fun K hK => ?_)
        refine Kd.R_append_rows_step k36 (w0 := _) W.heap.size (by rfl) _ _ 30 36 _ 128 rfl Try.underlying30 info36 rfl (by decide) (by decide) (.slice (some ⟨g5, 0, none⟩) 0 0) [] n.l9 _ n.l9.length _ _ (fun _ => False) rfl rfl HI.out.own (Kd.C_below HN.out.r9 HI.out.bel) (fun _ _ h => h) (fun _ h => h.elim) HI.out.fresh (Below.refl _ _) HI.out.sz HLEN0.out ?_
        intro v6 w6 hO6 hb6 hg6 _
        obtain ⟨A6, c6, rfl, _, _⟩ := Kd.R_reads hO6
        have HI := Aside0.mk (HI.out.grow (ys := n.l9) hg6 hO6)
        clear hO6 hb6 hg6
        have hS_ := HI.out.told
        refine hK.out _ _ hS_ (fun hH_5_0_3 => ?_)
        clear hS_
        clear hK K
        refine norm_ (a' := ?_) ?_ ?_
        rotate_left
        · show Act.put _ (some 35) _ = _
          simp only [Act.put, List.setIfInBounds_toArray, List.set_cons_zero, List.set_cons_succ, i64_w, i32_w]
          rfl
        refine one_ (i := 6) (N := some 38) #[true, true, true, true, true, true, true, false, false] rfl rfl (by kernel_rfl) (by decide) (fun K hK => ?_)
        have HLIT := Aside0.mk (lit1 (k36_mk _ j3) (HI.out.lits _ rfl) (by rw [HJ3.out]))
        refine Kd.R_append_rows_step k36 (w0 := _) W.heap.size (by rfl) _ _ 30 36 _ 128 rfl Try.underlying30 info36 rfl (by decide) (by decide) _ n.l9 [j3] _ 1 1 _ (fun _ => False) rfl rfl HI.out.own HLIT.out (fun _ _ h => h) (fun _ h => h.elim) HI.out.fresh (Below.refl _ _) HI.out.sz HLEN.out ?_
        intro v9 w9 hO9 hb9 hg9 _
        obtain ⟨A9, c9, rfl, _, _⟩ := Kd.R_reads hO9
        have HI := Aside0.mk (HI.out.grow (ys := n.l9 ++ [j3]) hg9 hO9)
        clear hO9 hb9 hg9 HLIT
        have hS_ := HI.out.told
        refine hK.out _ _ hS_ (fun hH_5_0_3_6 => ?_)
        clear hS_
        clear hK K
        refine norm_ (a' := ?_) ?_ ?_
        rotate_left
        · show Act.put _ (some 38) _ = _
          simp only [Act.put, List.setIfInBounds_toArray, List.set_cons_zero, List.set_cons_succ, i64_w, i32_w]
          rfl
        refine pure_ (i := 7) (N := some 39) (v := ?_) (a' := ?_) #[true, true, true, true, true, true, true, true, false] rfl rfl (by kernel_rfl) (fun _ _ _ h => h) (Or.inl ⟨by rfl, ?_⟩) ?_ ?_
        rotate_left
        · intro w'
          go_simp
          with_reducible rfl
        rotate_left
        · simp only [Act.put, List.setIfInBounds_toArray, List.set_cons_zero, List.set_cons_succ, i64_w, i32_w]
          rfl
        refine last_ (i := 8) (N := none) #[true, true, true, true, true, true, true, true, true] rfl rfl (by kernel_rfl) (by decide) (fun K hK => ?_)
        refine store_step 30 _ _ g 9 _ #[.int .u64 n.a0, .int .u16 n.a1, .int .i64 n.a2, .bool n.a3, .slice s.A4 n.l4.length s.c4, .slice s.A5 n.l5.length s.c5, .slice s.A6 n.l6.length s.c6, .slice s.A7 n.l7.length s.c7, .slice s.A8 n.l8.length s.c8, .slice A9 (n.l9 ++ [j3]).length c9, .slice s.A10 n.l10.length s.c10, .int .u32 n.a11, .int .i64 iv, .int .i64 n.a13] 34 (.slice A9 (n.l9 ++ [j3]).length c9) [.slice A9 (n.l9 ++ [j3]).length c9] (by rfl) rfl rfl rfl HI.out.told.bg rfl (by kernel_rfl) (by simp) (by simp [Value.oneCell']) (by simp) ?_
        intro w10 e10 hs10
        have HS10 := Aside0.mk hs10
        clear hs10
        refine hK.out _ _ ?_
        clear hK K
        refine norm_ (a' := ?_) ?_ ?_
        rotate_left
        · show Act.put _ (none) _ = _
          simp only [Act.put, List.setIfInBounds_toArray, List.set_cons_zero, List.set_cons_succ, i64_w, i32_w]
          rfl
        refine done_ (by kernel_rfl) ?_
        obtain ⟨ln, hln⟩ : ∃ ln, (n.l9 ++ [j3]).length = ln := ⟨_, rfl⟩
        rw [hln] at e10
        have F10 := Aside0.mk (HS10.out.blk (by omega) HI.out.res)
        have HLN := Aside0.mk hln
        have hgB := HI.out.gB
        
        go_wp2_with (first | (refine gate_ (.load 34 (.tmp 2)) rfl ?_; refine wpList_load_row rfl 34 _ rfl (g) rfl 34 _ (0, 0) _ e10 Try.underlying34 rfl (by kernel_rfl) ?_) | (refine store_box (.store 34 (.tmp 4) (.tmp 40)) 34 _ _ (g + 1 + 1) 0 _ #[.int .u64 n.a0, .int .u16 n.a1, .int .i64 n.a2, .bool n.a3, .slice s.A4 n.l4.length s.c4, .slice s.A5 n.l5.length s.c5, .slice s.A6 n.l6.length s.c6, .slice s.A7 n.l7.length s.c7, .slice s.A8 n.l8.length s.c8, .slice A9 ln c9, .slice s.A10 n.l10.length s.c10, .int .u32 n.a11, .int .i64 iv, .int .i64 n.a13] 34 _ [.int .u64 n.a0, .int .u16 n.a1, .int .i64 n.a2, .bool n.a3, .slice s.A4 n.l4.length s.c4, .slice s.A5 n.l5.length s.c5, .slice s.A6 n.l6.length s.c6, .slice s.A7 n.l7.length s.c7, .slice s.A8 n.l8.length s.c8, .slice A9 ln c9, .slice s.A10 n.l10.length s.c10, .int .u32 n.a11, .int .i64 iv, .int .i64 n.a13] rfl rfl rfl rfl rfl rfl F10.out rfl (by kernel_rfl) (by simp) (by simp [Value.oneCell']) (by simp) ?_; intro w13 e13 hs13; have HS13 := Aside0.mk hs13; clear hs13 e10; refine hold_ ?_))
        intro _
        obtain ⟨y0, y1, y2, y3, y4, y5, y6, y7, y8, y9, y10, y11, y12, y13, _⟩ := box14f e13
        go_wp2_with fail
        refine bodyPost_ret (v := .tuple #[.agg #[.int .u64 n.a0, .int .u16 n.a1, .int .i64 n.a2, .bool n.a3, .slice s.A4 n.l4.length s.c4, .slice s.A5 n.l5.length s.c5, .slice s.A6 n.l6.length s.c6, .slice s.A7 n.l7.length s.c7, .slice s.A8 n.l8.length s.c8, .slice A9 ln c9, .slice s.A10 n.l10.length s.c10, .int .u32 n.a11, .int .i64 iv, .int .i64 n.a13], .int .i64 iv, .int .i64 0]) ?hres rfl ?_
        case hres =>
          simp only [results, Try.f9]
          go_simp
          first | done | exact HQ.out.symm | exact HQ.out
        have hB10 : Below w.heap.size w w10 := HS10.out.on (by have := HI.out.gw; omega) HI.out.bel
        have hB13 : Below w.heap.size w w13 := HS13.out.on (by have := HI.out.gw; omega) hB10
        refine ⟨{ s with A9 := A9, c9 := c9 }, by rw [← HLN.out], ?_, hB13⟩
        have hn := HN.out.below hB13
        have hR := Kd.R_step (Kd.R_step (Kd.R_bound HI.out.own) (fun k hk hlt => HS10.out.far k (by have := hk.2.1; omega))) (fun k hk hlt => HS13.out.far k (by have := hk.2.1; omega))
        exact ⟨hn.r4, hn.q4, hn.r5, hn.q5, hn.r6, hn.q6, hn.r7, hn.q7, hn.r8, hn.q8, (Kd.R_reads' hR).2.2, (Kd.R_reads' hR).2.1, hn.r10, hn.q10⟩
#print axioms radd_ok
end Go.Proofs.Ytcnkmajengephaa.H
