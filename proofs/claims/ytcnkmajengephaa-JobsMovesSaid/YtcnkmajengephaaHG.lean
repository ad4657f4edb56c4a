/- Mine. Chapter 31, by hand: jobs.Add. -/
import Derived.Test.YtcnkmajengephaaHF
namespace Go.Proofs.Ytcnkmajengephaa.H
open Go Go.Proofs Go.RowKit Go.Lib Go.Proofs.Ytcnkmajengephaa.P Go.Proofs.YtcnkmajengephaaW.PrintWords Go.Proofs.YtcnkmajengephaaW.PrintLast Go.Proofs.YtcnkmajengephaaW.PrintMore
set_option linter.unusedVariables false
set_option linter.unusedSimpArgs false
theorem alloc3 {w W : World} {a b c : Obj} (h : ((w.alloc a).alloc b).alloc c = W) : Below w.heap.size w W ∧ W.heap.size = w.heap.size + 1 + 1 + 1 ∧ W.heap[w.heap.size]? = some a ∧ W.heap[w.heap.size + 1]? = some b ∧ W.heap[w.heap.size + 1 + 1]? = some c := by
  obtain ⟨V, hV⟩ : ∃ V, (w.alloc a).alloc b = V := ⟨_, rfl⟩
  rw [hV] at h
  subst h
  obtain ⟨h1, h2, h3, h4⟩ := alloc2 hV
  have n3 := heap_alloc_new V c
  have s3 : (V.alloc c).heap.size = V.heap.size + 1 := by show (V.heap.push c).size = _; simp
  refine ⟨h1.alloc h1.size c, by omega, ?_, ?_, ?_⟩
  · rw [heap_alloc_old _ c (by omega)]; exact h3
  · rw [heap_alloc_old _ c (by omega)]; exact h4
  · rw [← h2]; exact n3
theorem Sto.trans {w w1 w2 : World} {g : Nat} (h : Sto w w1 g) (h' : Sto w1 w2 g) : Sto w w2 g := ⟨h'.os.trans h.os, h'.tape.trans h.tape, h'.output.trans h.output, h'.size.trans h.size, fun k hk => (h'.far k hk).trans (h.far k hk)⟩
theorem grow_low {V V' : World} {B g n c : Nat} {A : Option Addr} {ok : Nat → Prop} {xs : List S36} (hR : Kd.R k36 36 V B ok (.slice A n c) xs) (hg : V.grownBy V' (Value.slice A n c).ownBlock) : Tf 36 B g V V' ∧ ∀ q, q < B → q < V.heap.size → V'.heap[q]? = V.heap[q]? := by
  have hrow : ∀ q, (Value.slice A n c).ownBlock = some q → B ≤ q ∧ ∃ c, V.heap[q]? = some (.cells c 36 (0, 0)) := fun q hq => by
    obtain ⟨_, h2, _, q', hq', c', hc'⟩ := (Kd.R_bound hR).1 q hq
    have h36 : q' = 36 := by
      have : q' ∈ [36] := hq'
      simpa using this
    rw [h36] at hc'
    exact ⟨h2, c', hc'⟩
  exact ⟨Tf.grown hg hrow, fun q h1 h2 => hg.block q h2 (fun e => by have := (hrow q e.symm).1; omega)⟩
def nowF (n : ND) : Int := if n.a2 < 0 then 0 else if n.a2 > 1099511627776 then 0 else n.a2
theorem nowF_le (n : ND) : 0 ≤ nowF n ∧ nowF n ≤ 1099511627776 := by unfold nowF; split <;> (try split) <;> omega
set_option maxHeartbeats 2000000 in
theorem now_ok (n : ND) (s : NA) (w : World) (h : NC w n s) : Calls Try.prog 23 #[nv n s] w fun e w' => e = .returned (.int .i64 (nowF n)) ∧ Below w.heap.size w w' :=
  pend_Now.calls n.a0 n.a1 n.a2 n.a3 s.A4 s.c4 n.l4 s.A5 s.c5 n.l5 s.A6 s.c6 n.l6 s.A7 s.c7 n.l7 s.A8 s.c8 n.l8 s.A9 s.c9 n.l9 s.A10 s.c10 n.l10 n.a11 n.a12 n.a13 (nowF n) w h.r4 h.q4 h.r5 h.q5 h.r6 h.q6 h.r7 h.q7 h.r8 h.q8 h.r9 h.q9 h.r10 h.q10 (by unfold pend_Now.f nowF; split <;> (try split) <;> rfl)
def addId (n : ND) : Int := (if n.a12 < 0 then 0 else if n.a12 ≥ 1073741824 then 0 else n.a12) + 1
def addJ (n : ND) (j : S36) : S36 := { j with f0 := addId n, f11 := nowF n + 200 }
def addN (n : ND) (j : S36) : ND := if 8 ≤ n.l9.length then n else { n with a12 := addId n, l9 := n.l9 ++ [addJ n j] }
def addI (n : ND) : Int := if 8 ≤ n.l9.length then 0 else addId n
def addE (n : ND) : Int := if 8 ≤ n.l9.length then 10 else 0
/-- A node, a number and an error. -/
def AddP (n : ND) (id en : Int) (w : World) (e : Ending) (w' : World) : Prop := ∃ s, e = .returned (.tuple #[nv n s, .int .i64 id, .int .i64 en]) ∧ NR w' w.heap.size n s ∧ Below w.heap.size w w'
set_option maxRecDepth 100000 in
set_option maxHeartbeats 8000000 in
theorem add_ok (n : ND) (s : NA) (j : S36) (w : World) (h : NC w n s) (hb : NB n) :
    Calls Try.prog 8 #[nv n s, jv j] w (AddP (addN n j) (addI n) (addE n) w) := by
  obtain ⟨g, hg⟩ : ∃ g, w.heap.size = g := ⟨_, rfl⟩
  obtain ⟨W, hW⟩ : ∃ W, ((w.alloc (.cells #[.int .u64 n.a0, .int .u16 n.a1, .int .i64 n.a2, .bool n.a3, .slice s.A4 n.l4.length s.c4, .slice s.A5 n.l5.length s.c5, .slice s.A6 n.l6.length s.c6, .slice s.A7 n.l7.length s.c7, .slice s.A8 n.l8.length s.c8, .slice s.A9 n.l9.length s.c9, .slice s.A10 n.l10.length s.c10, .int .u32 n.a11, .int .i64 n.a12, .int .i64 n.a13] 34)).alloc (.cells #[.int .i64 j.f0, .int .i64 j.f1, .int .i64 j.f2, .string j.f3, .string j.f4, .int .u64 j.f5, .int .u64 j.f6.f0, .int .u16 j.f6.f1, .int .u64 j.f7.f0, .int .u16 j.f7.f1, .bool j.f8, .int .i64 j.f9, .int .i64 j.f10, .int .i64 j.f11] 36)).alloc (.cells #[.int .u64 0, .int .u16 0, .int .i64 0, .bool false, .slice none 0 0, .slice none 0 0, .slice none 0 0, .slice none 0 0, .slice none 0 0, .slice none 0 0, .slice none 0 0, .int .u32 0, .int .i64 0, .int .i64 0] 34) = W := ⟨_, rfl⟩
  obtain ⟨hbW, hsW, e5, e6, e10⟩ := alloc3 hW
  rw [hg] at hsW e5 e6 e10
  have HCP := Aside0.mk (copy_ok n s W (h.below hbW) hb)
  have HBW := Aside0.mk hbW
  have HSW := Aside0.mk hsW
  have HE10 := Aside0.mk e10
  have HE6 := Aside0.mk e6
  have HE5 := Aside0.mk e5
  have HGG := Aside0.mk hg
  clear h hb hbW hsW e10 e6
  unfold addN addI addE
  by_cases hfull : 8 ≤ n.l9.length
  · rw [if_pos hfull, if_pos hfull, if_pos hfull]
    have p0 : ((8 : Int) ≤ (n.l9.length : Int)) = True := eq_true (by omega)
    go_enter Try.func8, Try.ntmps8
    go_wp2_with (refine gate_ (.load 34 (.tmp 2)) rfl ?_; refine wpList_load_row rfl 34 _ rfl (g) rfl 34 _ (0, 0) _ e5 Try.underlying34 rfl (by kernel_rfl) ?_)
    refine HCP.out.mono ?_
    rintro e w1 ⟨s1, rfl, hR1, hb1⟩
    have HR1 := Aside0.mk hR1
    have HB1 := Aside0.mk hb1
    have f5 := (hb1.block g (blk_lt HE5.out)).trans HE5.out
    have F10 := Aside0.mk ((hb1.block _ (blk_lt HE10.out)).trans HE10.out)
    clear hR1 hb1 e5 hW
    go_wp2_with ((refine store_box (.store 34 (.tmp 2) (.tmp 8)) 34 _ _ (g) 0 _ #[.int .u64 n.a0, .int .u16 n.a1, .int .i64 n.a2, .bool n.a3, .slice s1.A4 n.l4.length s1.c4, .slice s1.A5 n.l5.length s1.c5, .slice s1.A6 n.l6.length s1.c6, .slice s1.A7 n.l7.length s1.c7, .slice s1.A8 n.l8.length s1.c8, .slice s1.A9 n.l9.length s1.c9, .slice s1.A10 n.l10.length s1.c10, .int .u32 n.a11, .int .i64 n.a12, .int .i64 n.a13] 34 _ [.int .u64 n.a0, .int .u16 n.a1, .int .i64 n.a2, .bool n.a3, .slice s1.A4 n.l4.length s1.c4, .slice s1.A5 n.l5.length s1.c5, .slice s1.A6 n.l6.length s1.c6, .slice s1.A7 n.l7.length s1.c7, .slice s1.A8 n.l8.length s1.c8, .slice s1.A9 n.l9.length s1.c9, .slice s1.A10 n.l10.length s1.c10, .int .u32 n.a11, .int .i64 n.a12, .int .i64 n.a13] rfl rfl rfl rfl rfl rfl f5 rfl (by kernel_rfl) (by simp) (by simp [Value.oneCell']) (by simp) ?_; intro w2 e5 hs2; have HS2 := Aside0.mk hs2; clear hs2 f5; refine hold_ ?_))
    intro _
    have c9 : w2.cell? ⟨g, 9, none⟩ = some (.slice s1.A9 n.l9.length s1.c9) := (blk_cell e5 9).trans rfl
    have f10 := HS2.out.blk (by omega) F10.out
    go_wp2_with (first | (refine gate_ (.load 34 (.tmp 2)) rfl ?_; refine wpList_load_row rfl 34 _ rfl (g) rfl 34 _ (0, 0) _ e5 Try.underlying34 rfl (by kernel_rfl) ?_) | (refine store_box (.store 34 (.tmp 4) (.tmp 13)) 34 _ _ (g + 1 + 1) 0 _ #[.int .u64 n.a0, .int .u16 n.a1, .int .i64 n.a2, .bool n.a3, .slice s1.A4 n.l4.length s1.c4, .slice s1.A5 n.l5.length s1.c5, .slice s1.A6 n.l6.length s1.c6, .slice s1.A7 n.l7.length s1.c7, .slice s1.A8 n.l8.length s1.c8, .slice s1.A9 n.l9.length s1.c9, .slice s1.A10 n.l10.length s1.c10, .int .u32 n.a11, .int .i64 n.a12, .int .i64 n.a13] 34 _ [.int .u64 n.a0, .int .u16 n.a1, .int .i64 n.a2, .bool n.a3, .slice s1.A4 n.l4.length s1.c4, .slice s1.A5 n.l5.length s1.c5, .slice s1.A6 n.l6.length s1.c6, .slice s1.A7 n.l7.length s1.c7, .slice s1.A8 n.l8.length s1.c8, .slice s1.A9 n.l9.length s1.c9, .slice s1.A10 n.l10.length s1.c10, .int .u32 n.a11, .int .i64 n.a12, .int .i64 n.a13] rfl rfl rfl rfl rfl rfl f10 rfl (by kernel_rfl) (by simp) (by simp [Value.oneCell']) (by simp) ?_; intro w4 e7 hs4; have HS4 := Aside0.mk hs4; obtain ⟨y0, y1, y2, y3, y4, y5, y6, y7, y8, y9, y10, y11, y12, y13, _⟩ := box14f e7; clear hs4 f10))
    refine bodyPost_ret (v := .tuple #[nv n s1, .int .i64 0, .int .i64 10]) ?hres rfl ?_
    case hres =>
      simp only [results, Try.f8]
      go_simp
    exact ⟨s1, rfl, ((HR1.out.step (fun k hk hlt => HS2.out.far k (by have := HSW.out; omega))).step (fun k hk hlt => HS4.out.far k (by have := HSW.out; omega))).lower HBW.out.size, HS4.out.on (by have := HGG.out; omega) (HS2.out.on (by have := HGG.out; omega) (below_then HBW.out HBW.out.size HB1.out))⟩
  · rw [if_neg hfull, if_neg hfull, if_neg hfull]
    have p0 : ((8 : Int) ≤ (n.l9.length : Int)) = False := eq_false (by omega)
    have HFU := Aside0.mk hfull
    obtain ⟨iv, hiv⟩ : ∃ iv, addId n = iv := ⟨_, rfl⟩
    obtain ⟨j3, hj3⟩ : ∃ j3, addJ n j = j3 := ⟨_, rfl⟩
    obtain ⟨nw, hnw⟩ : ∃ nw, nowF n = nw := ⟨_, rfl⟩
    have hnl := nowF_le n
    rw [hnw] at hnl
    have hw8 : wrap64 (nw + 200) = nw + 200 := by unfold wrap64; omega
    have hj3' : j3 = { j with f0 := iv, f11 := nw + 200 } := by rw [← hj3]; unfold addJ; rw [hiv, hnw]
    have HJ3 := Aside0.mk hj3'
    have HNW := Aside0.mk hnw
    rw [hj3]
    have hcs : (((n.a12 < 0) = True ∧ iv = 1) ∨ ((n.a12 < 0) = False ∧ (1073741824 ≤ n.a12) = True ∧ iv = 1)) ∨ ((n.a12 < 0) = False ∧ (1073741824 ≤ n.a12) = False ∧ wrap64 (n.a12 + 1) = iv) := by
      unfold addId at hiv
      by_cases h1 : n.a12 < 0
      · exact .inl (.inl ⟨eq_true h1, by rw [if_pos h1] at hiv; omega⟩)
      · by_cases h2 : n.a12 ≥ 1073741824
        · exact .inl (.inr ⟨eq_false h1, eq_true h2, by rw [if_neg h1, if_pos h2] at hiv; omega⟩)
        · exact .inr ⟨eq_false h1, eq_false (by omega), by rw [if_neg h1, if_neg h2] at hiv; unfold wrap64; omega⟩
    rw [hiv]
    clear hfull hiv hj3 hj3' hnw hnl
    go_enter Try.func8, Try.ntmps8
    go_wp2_with (refine gate_ (.load 34 (.tmp 2)) rfl ?_; refine wpList_load_row rfl 34 _ rfl (g) rfl 34 _ (0, 0) _ e5 Try.underlying34 rfl (by kernel_rfl) ?_)
    refine HCP.out.mono ?_
    rintro e w1 ⟨s1, rfl, hR1, hb1⟩
    have HR1 := Aside0.mk hR1
    have HB1 := Aside0.mk hb1
    have f5 := (hb1.block g (blk_lt HE5.out)).trans HE5.out
    have F6 := Aside0.mk ((hb1.block _ (blk_lt HE6.out)).trans HE6.out)
    have F10 := Aside0.mk ((hb1.block _ (blk_lt HE10.out)).trans HE10.out)
    clear hR1 hb1 e5 hW
    go_wp2_with ((refine store_box (.store 34 (.tmp 2) (.tmp 8)) 34 _ _ (g) 0 _ #[.int .u64 n.a0, .int .u16 n.a1, .int .i64 n.a2, .bool n.a3, .slice s1.A4 n.l4.length s1.c4, .slice s1.A5 n.l5.length s1.c5, .slice s1.A6 n.l6.length s1.c6, .slice s1.A7 n.l7.length s1.c7, .slice s1.A8 n.l8.length s1.c8, .slice s1.A9 n.l9.length s1.c9, .slice s1.A10 n.l10.length s1.c10, .int .u32 n.a11, .int .i64 n.a12, .int .i64 n.a13] 34 _ [.int .u64 n.a0, .int .u16 n.a1, .int .i64 n.a2, .bool n.a3, .slice s1.A4 n.l4.length s1.c4, .slice s1.A5 n.l5.length s1.c5, .slice s1.A6 n.l6.length s1.c6, .slice s1.A7 n.l7.length s1.c7, .slice s1.A8 n.l8.length s1.c8, .slice s1.A9 n.l9.length s1.c9, .slice s1.A10 n.l10.length s1.c10, .int .u32 n.a11, .int .i64 n.a12, .int .i64 n.a13] rfl rfl rfl rfl rfl rfl f5 rfl (by kernel_rfl) (by simp) (by simp [Value.oneCell']) (by simp) ?_; intro w2 e5 hs2; have HS2 := Aside0.mk hs2; clear hs2 f5; refine hold_ ?_))
    intro _
    have c9 : w2.cell? ⟨g, 9, none⟩ = some (.slice s1.A9 n.l9.length s1.c9) := (blk_cell e5 9).trans rfl
    have c12 : w2.cell? ⟨g, 12, none⟩ = some (.int .i64 n.a12) := (blk_cell e5 12).trans rfl
    rcases hcs with (⟨q1, rfl⟩ | ⟨q1, q2, rfl⟩) | ⟨q1, q2, q3⟩
    iterate 2
      · go_wp2_with ((refine store_box (.store 3 (.tmp 22) (.const (.int .i64 0))) 3 _ _ (g) 12 _ #[.int .u64 n.a0, .int .u16 n.a1, .int .i64 n.a2, .bool n.a3, .slice s1.A4 n.l4.length s1.c4, .slice s1.A5 n.l5.length s1.c5, .slice s1.A6 n.l6.length s1.c6, .slice s1.A7 n.l7.length s1.c7, .slice s1.A8 n.l8.length s1.c8, .slice s1.A9 n.l9.length s1.c9, .slice s1.A10 n.l10.length s1.c10, .int .u32 n.a11, .int .i64 0, .int .i64 n.a13] 34 (.int .i64 0) [.int .i64 0] rfl rfl rfl rfl rfl rfl e5 rfl (by kernel_rfl) (by simp) (by simp [Value.oneCell']) (by simp) ?_; intro wb eb hsb; have HSB := Aside0.mk hsb; clear hsb c12; refine hold_ ?_))
        intro _
        have c12 : wb.cell? ⟨g, 12, none⟩ = some (.int .i64 0) := (blk_cell eb 12).trans rfl
        go_wp2_with ((refine store_box (.store 3 (.tmp 26) (.tmp 25)) 3 _ _ (g) 12 _ #[.int .u64 n.a0, .int .u16 n.a1, .int .i64 n.a2, .bool n.a3, .slice s1.A4 n.l4.length s1.c4, .slice s1.A5 n.l5.length s1.c5, .slice s1.A6 n.l6.length s1.c6, .slice s1.A7 n.l7.length s1.c7, .slice s1.A8 n.l8.length s1.c8, .slice s1.A9 n.l9.length s1.c9, .slice s1.A10 n.l10.length s1.c10, .int .u32 n.a11, .int .i64 1, .int .i64 n.a13] 34 (.int .i64 1) [.int .i64 1] rfl rfl rfl rfl rfl rfl eb rfl (by kernel_rfl) (by simp) (by simp [Value.oneCell']) (by simp) ?_; intro w3 e7 hs3; have HS3 := Aside0.mk (HSB.out.trans hs3); clear hs3 e5 eb c12; refine hold_ ?_))
        intro _
        have HB3 : Aside0 (Below w.heap.size w w3) := ⟨HS3.out.on (by have := HGG.out; omega) (HS2.out.on (by have := HGG.out; omega) (below_then HBW.out HBW.out.size HB1.out))⟩
        have HR3 : Aside0 (NR w3 W.heap.size n s1) := ⟨(HR1.out.step (fun k hk hlt => HS2.out.far k (by have := HSW.out; omega))).step (fun k hk hlt => HS3.out.far k (by have := HSW.out; omega))⟩
        have F10 := Aside0.mk (HS3.out.blk (by omega) (HS2.out.blk (by omega) F10.out))
        obtain ⟨w4, hw4⟩ : ∃ w4, w3.drew = w4 := ⟨_, rfl⟩
        have HB4 : Aside0 (Below w3.heap.size w3 w4) := ⟨by rw [← hw4]; exact (Below.refl _ _).drew⟩
        have hs0 : ToldS g (g + 1) #[.int .u64 n.a0, .int .u16 n.a1, .int .i64 n.a2, .bool n.a3, .slice s1.A4 n.l4.length s1.c4, .slice s1.A5 n.l5.length s1.c5, .slice s1.A6 n.l6.length s1.c6, .slice s1.A7 n.l7.length s1.c7, .slice s1.A8 n.l8.length s1.c8, .slice s1.A9 n.l9.length s1.c9, .slice s1.A10 n.l10.length s1.c10, .int .u32 n.a11, .int .i64 1, .int .i64 n.a13] #[.int .i64 j.f0, .int .i64 j.f1, .int .i64 j.f2, .string j.f3, .string j.f4, .int .u64 j.f5, .int .u64 j.f6.f0, .int .u16 j.f6.f1, .int .u64 j.f7.f0, .int .u16 j.f7.f1, .bool j.f8, .int .i64 j.f9, .int .i64 j.f10, .int .i64 j.f11] w3.drew := ⟨e7, HS3.out.blk (by omega) (HS2.out.blk (by omega) F6.out)⟩
        have HR4 := Aside0.mk (HR3.out.below HB4.out)
        have HNOW : Aside0 (Calls Try.prog 23 #[.agg #[.int .u64 n.a0, .int .u16 n.a1, .int .i64 n.a2, .bool n.a3, .slice s1.A4 n.l4.length s1.c4, .slice s1.A5 n.l5.length s1.c5, .slice s1.A6 n.l6.length s1.c6, .slice s1.A7 n.l7.length s1.c7, .slice s1.A8 n.l8.length s1.c8, .slice s1.A9 n.l9.length s1.c9, .slice s1.A10 n.l10.length s1.c10, .int .u32 n.a11, .int .i64 1, .int .i64 n.a13]] w4 fun e w' => e = .returned (.int .i64 nw) ∧ Below w4.heap.size w4 w') := ⟨by
          have hh := HR4.out.reads
          have h := now_ok { n with a12 := 1 } s1 w4 ⟨hh.r4, hh.q4, hh.r5, hh.q5, hh.r6, hh.q6, hh.r7, hh.q7, hh.r8, hh.q8, hh.r9, hh.q9, hh.r10, hh.q10⟩
          rw [show nowF { n with a12 := 1 } = nowF n from rfl, HNW.out] at h
          exact h⟩
        clear c9 e7
        go_wp2_with fail
        refine start_ (n := 9) (S := ToldS g (g + 1) #[.int .u64 n.a0, .int .u16 n.a1, .int .i64 n.a2, .bool n.a3, .slice s1.A4 n.l4.length s1.c4, .slice s1.A5 n.l5.length s1.c5, .slice s1.A6 n.l6.length s1.c6, .slice s1.A7 n.l7.length s1.c7, .slice s1.A8 n.l8.length s1.c8, .slice s1.A9 n.l9.length s1.c9, .slice s1.A10 n.l10.length s1.c10, .int .u32 n.a11, .int .i64 1, .int .i64 n.a13] #[.int .i64 j.f0, .int .i64 j.f1, .int .i64 j.f2, .string j.f3, .string j.f4, .int .u64 j.f5, .int .u64 j.f6.f0, .int .u16 j.f6.f1, .int .u64 j.f7.f0, .int .u16 j.f7.f1, .bool j.f8, .int .i64 j.f9, .int .i64 j.f10, .int .i64 j.f11]) (ds := [6, 8]) #[false, false, false, false, false, false, false, false, false] (by kernel_rfl) rfl rfl hs0 (fun hH => ?_)
        rw [hw4] at hH ⊢
        clear hs0 hw4
        refine pure_ (i := 0) (N := some 27) (v := ?_) (a' := ?_) #[true, false, false, false, false, false, false, false, false] rfl rfl (by kernel_rfl) (fun _ _ _ h => h) (Or.inl ⟨by rfl, ?_⟩) ?_ ?_
        rotate_left
        · intro w'
          go_simp
          with_reducible rfl
        rotate_left
        · simp only [Act.put, List.setIfInBounds_toArray, List.set_cons_zero, List.set_cons_succ, i64_w, i32_w]
          rfl
        refine take_ (i := 1) (N := some 28) (v := ?_) (a' := ?_) #[true, true, false, false, false, false, false, false, false] rfl rfl (by kernel_rfl) (fun _ _ _ h => h) (Or.inl ⟨by rfl, ?_⟩) hH ?_ ?_
        rotate_left
        · rintro w' ⟨s0, s1_⟩
          have c_ : _ = some _ := (blk_cell s0 12).trans rfl
          go_simp
          with_reducible rfl
        rotate_left
        · simp only [Act.put, List.setIfInBounds_toArray, List.set_cons_zero, List.set_cons_succ, i64_w, i32_w]
          rfl
        refine take_ (i := 2) (N := some 29) (v := ?_) (a' := ?_) #[true, true, true, false, false, false, false, false, false] rfl rfl (by kernel_rfl) (fun _ _ _ h => h) (Or.inl ⟨by rfl, ?_⟩) hH ?_ ?_
        rotate_left
        · rintro w' ⟨s0, s1_⟩
          refine load_yields (x := .tmp 2) ?_ ?_ s0 Try.underlying34 rfl (by kernel_rfl)
          · rfl
          · rfl
        rotate_left
        · simp only [Act.put, List.setIfInBounds_toArray, List.set_cons_zero, List.set_cons_succ, i64_w, i32_w]
          rfl
        refine pure_ (i := 5) (N := some 32) (v := ?_) (a' := ?_) #[true, true, true, false, false, true, false, false, false] rfl rfl (by kernel_rfl) (fun _ _ _ h => h) (Or.inl ⟨by rfl, ?_⟩) ?_ ?_
        rotate_left
        · intro w'
          go_simp
          with_reducible rfl
        rotate_left
        · simp only [Act.put, List.setIfInBounds_toArray, List.set_cons_zero, List.set_cons_succ, i64_w, i32_w]
          rfl
        refine one_ (i := 3) (N := some 30) #[true, true, true, true, false, true, false, false, false] rfl rfl (by kernel_rfl) (by decide) (fun K hK => ?_)
        refine goes_ Try.func23 (by kernel_rfl) rfl #[.agg #[.int .u64 n.a0, .int .u16 n.a1, .int .i64 n.a2, .bool n.a3, .slice s1.A4 n.l4.length s1.c4, .slice s1.A5 n.l5.length s1.c5, .slice s1.A6 n.l6.length s1.c6, .slice s1.A7 n.l7.length s1.c7, .slice s1.A8 n.l8.length s1.c8, .slice s1.A9 n.l9.length s1.c9, .slice s1.A10 n.l10.length s1.c10, .int .u32 n.a11, .int .i64 1, .int .i64 n.a13]] (by rfl) rfl rfl (by (try simp only [List.map_toArray, List.map_cons, List.map_nil]); first | done | rfl) ?_
        refine HNOW.out.mono ?_
        rintro e7 w7 ⟨rfl, hb7⟩
        refine ⟨_, rfl, ?_⟩
        have hS_ := hH.go hb7
        have HB7 := Aside0.mk hb7
        clear hb7
        refine hK.out _ _ hS_ (fun hH1 => ?_)
        clear hS_
        clear hK K
        refine norm_ (a' := ?_) ?_ ?_
        rotate_left
        · show Act.put _ (some 30) _ = _
          simp only [Act.put, List.setIfInBounds_toArray, List.set_cons_zero, List.set_cons_succ, i64_w, i32_w]
          rfl
        refine pure_ (i := 4) (N := some 31) (v := ?_) (a' := ?_) #[true, true, true, true, true, true, false, false, false] rfl rfl (by kernel_rfl) (fun _ _ _ h => h) (Or.inl ⟨by rfl, ?_⟩) ?_ ?_
        rotate_left
        · intro w'
          go_simp
          with_reducible rfl
        rotate_left
        · simp only [Act.put, List.setIfInBounds_toArray, List.set_cons_zero, List.set_cons_succ, i64_w, i32_w]
          rfl
        refine last_ (i := 6) (N := none) #[true, true, true, true, true, true, true, false, false] rfl rfl (by kernel_rfl) (by decide) (fun K hK => ?_)
        refine store_step 3 _ _ (g + 1) 0 _ #[.int .i64 1, .int .i64 j.f1, .int .i64 j.f2, .string j.f3, .string j.f4, .int .u64 j.f5, .int .u64 j.f6.f0, .int .u16 j.f6.f1, .int .u64 j.f7.f0, .int .u16 j.f7.f1, .bool j.f8, .int .i64 j.f9, .int .i64 j.f10, .int .i64 j.f11] 36 (.int .i64 1) [.int .i64 1] (by rfl) rfl rfl rfl hH1.bj rfl (by kernel_rfl) (by simp) (by simp [Value.oneCell']) (by simp) ?_
        intro w8 e8 hs8
        have HS8 := Aside0.mk hs8
        have g8 := HS8.out.blk (by omega) hH1.bg
        clear hs8
        refine hK.out _ _ ?_
        clear hK K
        refine norm_ (a' := ?_) ?_ ?_
        rotate_left
        · show Act.put _ (none) _ = _
          simp only [Act.put, List.setIfInBounds_toArray, List.set_cons_zero, List.set_cons_succ, i64_w, i32_w]
          rfl
        refine pure_ (i := 7) (N := some 33) (v := ?_) (a' := ?_) #[true, true, true, true, true, true, true, true, false] rfl rfl (by kernel_rfl) (fun _ _ _ h => h) (Or.inl ⟨by rfl, ?_⟩) ?_ ?_
        rotate_left
        · intro w'
          go_simp
          with_reducible rfl
        rotate_left
        · simp only [Act.put, List.setIfInBounds_toArray, List.set_cons_zero, List.set_cons_succ, i64_w, i32_w]
          rfl
        refine last_ (i := 8) (N := none) #[true, true, true, true, true, true, true, true, true] rfl rfl (by kernel_rfl) (by decide) (fun K hK => ?_)
        refine store_step 3 _ _ (g + 1) 13 _ #[.int .i64 1, .int .i64 j.f1, .int .i64 j.f2, .string j.f3, .string j.f4, .int .u64 j.f5, .int .u64 j.f6.f0, .int .u16 j.f6.f1, .int .u64 j.f7.f0, .int .u16 j.f7.f1, .bool j.f8, .int .i64 j.f9, .int .i64 j.f10, .int .i64 (nw + 200)] 36 (.int .i64 (nw + 200)) [.int .i64 (nw + 200)] (by rfl) rfl rfl (congrArg (Value.int .i64) hw8) e8 rfl (by kernel_rfl) (by simp) (by simp [Value.oneCell']) (by simp) ?_
        intro w9 e9 hs9
        have HS9 := Aside0.mk hs9
        have g9 := HS9.out.blk (by omega) g8
        clear hs9 e8 g8
        refine hK.out _ _ ?_
        clear hK K
        refine norm_ (a' := ?_) ?_ ?_
        rotate_left
        · show Act.put _ (none) _ = _
          simp only [Act.put, List.setIfInBounds_toArray, List.set_cons_zero, List.set_cons_succ, i64_w, i32_w]
          rfl
        refine done_ (by kernel_rfl) ?_
        have hgb : g + 1 + 1 < W.heap.size := by have := HSW.out; omega
        have HR7 := Aside0.mk (HR4.out.below HB7.out)
        have HR9 : Aside0 (NR w9 W.heap.size n s1) := ⟨(HR7.out.step (fun k hk hlt => HS8.out.far k (by omega))).step (fun k hk hlt => HS9.out.far k (by omega))⟩
        have F10 := Aside0.mk (HS9.out.blk (by omega) (HS8.out.blk (by omega) ((HB7.out.block _ (blk_lt ((HB4.out.block _ (blk_lt F10.out)).trans F10.out))).trans ((HB4.out.block _ (blk_lt F10.out)).trans F10.out))))
        have HB9 : Aside0 (Below w.heap.size w w9) := ⟨HS9.out.on (by have := HGG.out; omega) (HS8.out.on (by have := HGG.out; omega) (below_then (below_then HB3.out HB3.out.size HB4.out) (Nat.le_trans HB3.out.size HB4.out.size) HB7.out))⟩
        have HSZ9 : Aside0 (W.heap.size ≤ w9.heap.size) := ⟨by have h1 := HS9.out.size; have h2 := HS8.out.size; have h3 := HB7.out.size; have h4 := HB4.out.size; have h5 := HS3.out.size; have h6 := HS2.out.size; have h7 := HB1.out.size; omega⟩
        have c9 : w9.cell? ⟨g, 9, none⟩ = some (.slice s1.A9 n.l9.length s1.c9) := (blk_cell g9 9).trans rfl
        have HLQ : Aside0 ((n.l9.length + 1) * 128 ≤ 140737488355328) := ⟨by have := HFU.out; omega⟩
        have G9 := Aside0.mk g9
        have E9 := Aside0.mk e9
        clear hH hH1 g9 hgb
        have HGW : Aside0 (g < W.heap.size ∧ g + 1 < W.heap.size ∧ g + 1 + 1 < W.heap.size) := ⟨by have := HSW.out; exact ⟨by omega, by omega, by omega⟩⟩
        go_wp2_with (first | (refine gate_ (.load 36 (.tmp 3)) rfl ?_; refine wpList_load_row rfl 36 _ rfl (g + 1) rfl 36 _ (0, 0) _ e9 Try.underlying36 rfl (by kernel_rfl) ?_) | (at_builtin; refine Kd.R_append k36 (w0 := w9) (W := w9) W.heap.size (by rfl) _ _ 30 36 _ 128 (by rfl) Try.underlying30 info36 rfl (by decide) (by decide) (.slice s1.A9 n.l9.length s1.c9) n.l9 j3 [.int .i64 1, .int .i64 j.f1, .int .i64 j.f2, .string j.f3, .string j.f4, .int .u64 j.f5, .int .u64 j.f6.f0, .int .u16 j.f6.f1, .int .u64 j.f7.f0, .int .u16 j.f7.f1, .bool j.f8, .int .i64 j.f9, .int .i64 j.f10, .int .i64 (nw + 200)] (fun _ => True) (fun _ => False) (by rfl) (by rfl) (by rw [HJ3.out]; exact k36_mkM _ _ _ _) (fun _ h => h.elim) (fun _ _ => trivial) HR9.out.o9 (Below.refl _ _) HSZ9.out HLQ.out ?_; intro v10 w10 hO10 hb10 hg10 _; obtain ⟨A9, c9', rfl, _, _⟩ := Kd.R_reads hO10; rw [show (n.l9 ++ [j3]).length = n.l9.length + 1 from by simp] at hO10; have hgl := grow_low (g := g) HR9.out.o9 hg10; have g10 := (hgl.2 g HGW.out.1 (blk_lt G9.out)).trans G9.out; have E10 := Aside0.mk ((hgl.2 (g + 1) HGW.out.2.1 (blk_lt E9.out)).trans E9.out); have F10' := Aside0.mk ((hgl.2 (g + 1 + 1) HGW.out.2.2 (blk_lt F10.out)).trans F10.out); have HT10 := Aside0.mk hgl.1; have HO10 := Aside0.mk hO10; clear hgl hO10 hb10 hg10 c9 e9) | (refine store_box (.store 30 (.tmp 39) (.tmp 38)) 30 _ _ (g) 9 _ #[.int .u64 n.a0, .int .u16 n.a1, .int .i64 n.a2, .bool n.a3, .slice s1.A4 n.l4.length s1.c4, .slice s1.A5 n.l5.length s1.c5, .slice s1.A6 n.l6.length s1.c6, .slice s1.A7 n.l7.length s1.c7, .slice s1.A8 n.l8.length s1.c8, .slice A9 (n.l9.length + 1) c9', .slice s1.A10 n.l10.length s1.c10, .int .u32 n.a11, .int .i64 1, .int .i64 n.a13] 34 _ [.slice A9 (n.l9.length + 1) c9'] rfl rfl rfl rfl rfl rfl g10 rfl (by kernel_rfl) (by simp) (by simp [Value.oneCell']) (by simp) ?_; intro w11 g11 hs11; have HS11 := Aside0.mk hs11; clear hs11 g10; refine hold_ ?_))
        intro _
        have HR10 : Aside0 (NR w10 W.heap.size { n with a12 := 1, l9 := n.l9 ++ [j3] } { s1 with A9 := A9, c9 := c9' }) := ⟨by
          have h := nr_jobs (A := A9) (c := c9') HR9.out HT10.out HGW.out.1 (l := n.l9 ++ [j3]) (by rw [show (n.l9 ++ [j3]).length = n.l9.length + 1 from by simp]; exact HO10.out)
          exact ⟨h.o4, h.o5, h.o6, h.o7, h.o8, h.o9, h.o10⟩⟩
        obtain ⟨w12, hw12⟩ : ∃ w12, w11.drew = w12 := ⟨_, rfl⟩
        have HB12 : Aside0 (Below w11.heap.size w11 w12) := ⟨by rw [← hw12]; exact (Below.refl _ _).drew⟩
        have hs0 : ToldS g (g + 1) #[.int .u64 n.a0, .int .u16 n.a1, .int .i64 n.a2, .bool n.a3, .slice s1.A4 n.l4.length s1.c4, .slice s1.A5 n.l5.length s1.c5, .slice s1.A6 n.l6.length s1.c6, .slice s1.A7 n.l7.length s1.c7, .slice s1.A8 n.l8.length s1.c8, .slice A9 (n.l9.length + 1) c9', .slice s1.A10 n.l10.length s1.c10, .int .u32 n.a11, .int .i64 1, .int .i64 n.a13] #[.int .i64 1, .int .i64 j.f1, .int .i64 j.f2, .string j.f3, .string j.f4, .int .u64 j.f5, .int .u64 j.f6.f0, .int .u16 j.f6.f1, .int .u64 j.f7.f0, .int .u16 j.f7.f1, .bool j.f8, .int .i64 j.f9, .int .i64 j.f10, .int .i64 (nw + 200)] w11.drew := ⟨g11, HS11.out.blk (by omega) E10.out⟩
        have HF10 : Aside0 (w12.heap[g + 1 + 1]? = some (.cells #[.int .u64 0, .int .u16 0, .int .i64 0, .bool false, .slice none 0 0, .slice none 0 0, .slice none 0 0, .slice none 0 0, .slice none 0 0, .slice none 0 0, .slice none 0 0, .int .u32 0, .int .i64 0, .int .i64 0] 34 (0, 0))) := ⟨(HB12.out.block _ (by have h1 := HS11.out.size; have h2 := blk_lt F10'.out; omega)).trans (HS11.out.blk (by omega) F10'.out)⟩
        have HGJ1 : Aside0 (j3.f0 = 1) := ⟨by rw [HJ3.out]⟩
        clear g11
        go_wp2_with fail
        refine start_ (n := 6) (S := ToldS g (g + 1) #[.int .u64 n.a0, .int .u16 n.a1, .int .i64 n.a2, .bool n.a3, .slice s1.A4 n.l4.length s1.c4, .slice s1.A5 n.l5.length s1.c5, .slice s1.A6 n.l6.length s1.c6, .slice s1.A7 n.l7.length s1.c7, .slice s1.A8 n.l8.length s1.c8, .slice A9 (n.l9.length + 1) c9', .slice s1.A10 n.l10.length s1.c10, .int .u32 n.a11, .int .i64 1, .int .i64 n.a13] #[.int .i64 1, .int .i64 j.f1, .int .i64 j.f2, .string j.f3, .string j.f4, .int .u64 j.f5, .int .u64 j.f6.f0, .int .u16 j.f6.f1, .int .u64 j.f7.f0, .int .u16 j.f7.f1, .bool j.f8, .int .i64 j.f9, .int .i64 j.f10, .int .i64 (nw + 200)]) (ds := []) #[false, false, false, false, false, false] (by kernel_rfl) rfl rfl hs0 (fun hI => ?_)
        rw [hw12] at hI ⊢
        clear hs0 hw12
        refine take_ (i := 0) (N := some 40) (v := ?_) (a' := ?_) #[true, false, false, false, false, false] rfl rfl (by kernel_rfl) (fun _ _ _ h => h) (Or.inl ⟨by rfl, ?_⟩) hI ?_ ?_
        rotate_left
        · rintro w' ⟨s0, s1_⟩
          refine load_yields (x := .tmp 2) ?_ ?_ s0 Try.underlying34 rfl (by kernel_rfl)
          · rfl
          · rfl
        rotate_left
        · simp only [Act.put, List.setIfInBounds_toArray, List.set_cons_zero, List.set_cons_succ, i64_w, i32_w]
          rfl
        refine pure_ (i := 1) (N := some 41) (v := ?_) (a' := ?_) #[true, true, false, false, false, false] rfl rfl (by kernel_rfl) (fun _ _ _ h => h) (Or.inl ⟨by rfl, ?_⟩) ?_ ?_
        rotate_left
        · intro w'
          go_simp
          with_reducible rfl
        rotate_left
        · simp only [Act.put, List.setIfInBounds_toArray, List.set_cons_zero, List.set_cons_succ, i64_w, i32_w]
          rfl
        refine take_ (i := 2) (N := some 42) (v := ?_) (a' := ?_) #[true, true, true, false, false, false] rfl rfl (by kernel_rfl) (fun _ _ _ h => h) (Or.inl ⟨by rfl, ?_⟩) hI ?_ ?_
        rotate_left
        · rintro w' ⟨s0, s1_⟩
          have c_ : _ = some _ := (blk_cell s1_ 0).trans rfl
          go_simp
          with_reducible rfl
        rotate_left
        · simp only [Act.put, List.setIfInBounds_toArray, List.set_cons_zero, List.set_cons_succ, i64_w, i32_w]
          rfl
        refine one_ (i := 3) (N := none) #[true, true, true, true, false, false] rfl rfl (by kernel_rfl) (by decide) (fun K hK => ?_)
        refine store_step 34 _ _ (g + 1 + 1) 0 _ #[.int .u64 n.a0, .int .u16 n.a1, .int .i64 n.a2, .bool n.a3, .slice s1.A4 n.l4.length s1.c4, .slice s1.A5 n.l5.length s1.c5, .slice s1.A6 n.l6.length s1.c6, .slice s1.A7 n.l7.length s1.c7, .slice s1.A8 n.l8.length s1.c8, .slice A9 (n.l9.length + 1) c9', .slice s1.A10 n.l10.length s1.c10, .int .u32 n.a11, .int .i64 1, .int .i64 n.a13] 34 _ [.int .u64 n.a0, .int .u16 n.a1, .int .i64 n.a2, .bool n.a3, .slice s1.A4 n.l4.length s1.c4, .slice s1.A5 n.l5.length s1.c5, .slice s1.A6 n.l6.length s1.c6, .slice s1.A7 n.l7.length s1.c7, .slice s1.A8 n.l8.length s1.c8, .slice A9 (n.l9.length + 1) c9', .slice s1.A10 n.l10.length s1.c10, .int .u32 n.a11, .int .i64 1, .int .i64 n.a13] (by rfl) rfl rfl rfl HF10.out rfl (by kernel_rfl) (by simp) (by simp [Value.oneCell']) (by simp) ?_
        intro w13 e13 hs13
        have HS13 := Aside0.mk hs13
        have E13 := Aside0.mk e13
        have hS_ : ToldS g (g + 1) #[.int .u64 n.a0, .int .u16 n.a1, .int .i64 n.a2, .bool n.a3, .slice s1.A4 n.l4.length s1.c4, .slice s1.A5 n.l5.length s1.c5, .slice s1.A6 n.l6.length s1.c6, .slice s1.A7 n.l7.length s1.c7, .slice s1.A8 n.l8.length s1.c8, .slice A9 (n.l9.length + 1) c9', .slice s1.A10 n.l10.length s1.c10, .int .u32 n.a11, .int .i64 1, .int .i64 n.a13] #[.int .i64 1, .int .i64 j.f1, .int .i64 j.f2, .string j.f3, .string j.f4, .int .u64 j.f5, .int .u64 j.f6.f0, .int .u16 j.f6.f1, .int .u64 j.f7.f0, .int .u16 j.f7.f1, .bool j.f8, .int .i64 j.f9, .int .i64 j.f10, .int .i64 (nw + 200)] w13 := ⟨hs13.blk (by omega) hI.bg, hs13.blk (by omega) hI.bj⟩
        clear hs13 e13
        refine hK.out _ _ hS_ (fun hI1 => ?_)
        clear hS_
        clear hK K
        refine norm_ (a' := ?_) ?_ ?_
        rotate_left
        · show Act.put _ (none) _ = _
          simp only [Act.put, List.setIfInBounds_toArray, List.set_cons_zero, List.set_cons_succ, i64_w, i32_w]
          rfl
        refine pure_ (i := 4) (N := some 5) (v := ?_) (a' := ?_) #[true, true, true, true, true, false] rfl rfl (by kernel_rfl) (fun _ _ _ h => h) (Or.inl ⟨by rfl, ?_⟩) ?_ ?_
        rotate_left
        · intro w'
          go_simp
          with_reducible rfl
        rotate_left
        · simp only [Act.put, List.setIfInBounds_toArray, List.set_cons_zero, List.set_cons_succ, i64_w, i32_w]
          rfl
        refine pure_ (i := 5) (N := some 6) (v := ?_) (a' := ?_) #[true, true, true, true, true, true] rfl rfl (by kernel_rfl) (fun _ _ _ h => h) (Or.inl ⟨by rfl, ?_⟩) ?_ ?_
        rotate_left
        · intro w'
          go_simp
          with_reducible rfl
        rotate_left
        · simp only [Act.put, List.setIfInBounds_toArray, List.set_cons_zero, List.set_cons_succ, i64_w, i32_w]
          rfl
        refine done_ (by kernel_rfl) ?_
        go_wp2_with fail
        obtain ⟨y0, y1, y2, y3, y4, y5, y6, y7, y8, y9, y10, y11, y12, y13, _⟩ := box14f E13.out
        have hlen : (n.l9 ++ [j3]).length = n.l9.length + 1 := by simp
        refine bodyPost_ret (v := .tuple #[.agg #[.int .u64 n.a0, .int .u16 n.a1, .int .i64 n.a2, .bool n.a3, .slice s1.A4 n.l4.length s1.c4, .slice s1.A5 n.l5.length s1.c5, .slice s1.A6 n.l6.length s1.c6, .slice s1.A7 n.l7.length s1.c7, .slice s1.A8 n.l8.length s1.c8, .slice A9 (n.l9.length + 1) c9', .slice s1.A10 n.l10.length s1.c10, .int .u32 n.a11, .int .i64 1, .int .i64 n.a13], .int .i64 1, .int .i64 0]) ?hres rfl ?_
        case hres =>
          simp only [results, Try.f8]
          go_simp
        have hw10 : Below w.heap.size w w10 := HT10.out.on HB9.out HBW.out.size (by have := HGG.out; omega)
        have hw11 : Below w.heap.size w w11 := HS11.out.on (by have := HGG.out; omega) hw10
        have hw12 : Below w.heap.size w w12 := below_then hw11 hw11.size HB12.out
        refine ⟨{ s1 with A9 := A9, c9 := c9' }, by show Ending.returned (.tuple #[.agg #[.int .u64 n.a0, .int .u16 n.a1, .int .i64 n.a2, .bool n.a3, .slice s1.A4 n.l4.length s1.c4, .slice s1.A5 n.l5.length s1.c5, .slice s1.A6 n.l6.length s1.c6, .slice s1.A7 n.l7.length s1.c7, .slice s1.A8 n.l8.length s1.c8, .slice A9 (n.l9.length + 1) c9', .slice s1.A10 n.l10.length s1.c10, .int .u32 n.a11, .int .i64 1, .int .i64 n.a13], .int .i64 1, .int .i64 0]) = _; rw [← hlen], ?_, HS13.out.on (by have := HGG.out; omega) hw12⟩
        exact ((((HR10.out.step (fun q hq hlt => HS11.out.far q (by have := HGW.out.1; omega))).below HB12.out).step (fun q hq hlt => HS13.out.far q (by have := HGW.out.2.2; omega)))).lower HBW.out.size

    · go_wp2_with ((refine store_box (.store 3 (.tmp 26) (.tmp 25)) 3 _ _ (g) 12 _ #[.int .u64 n.a0, .int .u16 n.a1, .int .i64 n.a2, .bool n.a3, .slice s1.A4 n.l4.length s1.c4, .slice s1.A5 n.l5.length s1.c5, .slice s1.A6 n.l6.length s1.c6, .slice s1.A7 n.l7.length s1.c7, .slice s1.A8 n.l8.length s1.c8, .slice s1.A9 n.l9.length s1.c9, .slice s1.A10 n.l10.length s1.c10, .int .u32 n.a11, .int .i64 iv, .int .i64 n.a13] 34 (.int .i64 iv) [.int .i64 iv] rfl rfl rfl rfl rfl (congrArg (Value.int .i64) q3) e5 rfl (by kernel_rfl) (by simp) (by simp [Value.oneCell']) (by simp) ?_; intro w3 e7 hs3; have HS3 := Aside0.mk hs3; clear hs3 e5 c12; refine hold_ ?_))
      intro _
      have HB3 : Aside0 (Below w.heap.size w w3) := ⟨HS3.out.on (by have := HGG.out; omega) (HS2.out.on (by have := HGG.out; omega) (below_then HBW.out HBW.out.size HB1.out))⟩
      have HR3 : Aside0 (NR w3 W.heap.size n s1) := ⟨(HR1.out.step (fun k hk hlt => HS2.out.far k (by have := HSW.out; omega))).step (fun k hk hlt => HS3.out.far k (by have := HSW.out; omega))⟩
      have F10 := Aside0.mk (HS3.out.blk (by omega) (HS2.out.blk (by omega) F10.out))
      obtain ⟨w4, hw4⟩ : ∃ w4, w3.drew = w4 := ⟨_, rfl⟩
      have HB4 : Aside0 (Below w3.heap.size w3 w4) := ⟨by rw [← hw4]; exact (Below.refl _ _).drew⟩
      have hs0 : ToldS g (g + 1) #[.int .u64 n.a0, .int .u16 n.a1, .int .i64 n.a2, .bool n.a3, .slice s1.A4 n.l4.length s1.c4, .slice s1.A5 n.l5.length s1.c5, .slice s1.A6 n.l6.length s1.c6, .slice s1.A7 n.l7.length s1.c7, .slice s1.A8 n.l8.length s1.c8, .slice s1.A9 n.l9.length s1.c9, .slice s1.A10 n.l10.length s1.c10, .int .u32 n.a11, .int .i64 iv, .int .i64 n.a13] #[.int .i64 j.f0, .int .i64 j.f1, .int .i64 j.f2, .string j.f3, .string j.f4, .int .u64 j.f5, .int .u64 j.f6.f0, .int .u16 j.f6.f1, .int .u64 j.f7.f0, .int .u16 j.f7.f1, .bool j.f8, .int .i64 j.f9, .int .i64 j.f10, .int .i64 j.f11] w3.drew := ⟨e7, HS3.out.blk (by omega) (HS2.out.blk (by omega) F6.out)⟩
      have HR4 := Aside0.mk (HR3.out.below HB4.out)
      have HNOW : Aside0 (Calls Try.prog 23 #[.agg #[.int .u64 n.a0, .int .u16 n.a1, .int .i64 n.a2, .bool n.a3, .slice s1.A4 n.l4.length s1.c4, .slice s1.A5 n.l5.length s1.c5, .slice s1.A6 n.l6.length s1.c6, .slice s1.A7 n.l7.length s1.c7, .slice s1.A8 n.l8.length s1.c8, .slice s1.A9 n.l9.length s1.c9, .slice s1.A10 n.l10.length s1.c10, .int .u32 n.a11, .int .i64 iv, .int .i64 n.a13]] w4 fun e w' => e = .returned (.int .i64 nw) ∧ Below w4.heap.size w4 w') := ⟨by
        have hh := HR4.out.reads
        have h := now_ok { n with a12 := iv } s1 w4 ⟨hh.r4, hh.q4, hh.r5, hh.q5, hh.r6, hh.q6, hh.r7, hh.q7, hh.r8, hh.q8, hh.r9, hh.q9, hh.r10, hh.q10⟩
        rw [show nowF { n with a12 := iv } = nowF n from rfl, HNW.out] at h
        exact h⟩
      clear c9 e7
      go_wp2_with fail
      refine start_ (n := 9) (S := ToldS g (g + 1) #[.int .u64 n.a0, .int .u16 n.a1, .int .i64 n.a2, .bool n.a3, .slice s1.A4 n.l4.length s1.c4, .slice s1.A5 n.l5.length s1.c5, .slice s1.A6 n.l6.length s1.c6, .slice s1.A7 n.l7.length s1.c7, .slice s1.A8 n.l8.length s1.c8, .slice s1.A9 n.l9.length s1.c9, .slice s1.A10 n.l10.length s1.c10, .int .u32 n.a11, .int .i64 iv, .int .i64 n.a13] #[.int .i64 j.f0, .int .i64 j.f1, .int .i64 j.f2, .string j.f3, .string j.f4, .int .u64 j.f5, .int .u64 j.f6.f0, .int .u16 j.f6.f1, .int .u64 j.f7.f0, .int .u16 j.f7.f1, .bool j.f8, .int .i64 j.f9, .int .i64 j.f10, .int .i64 j.f11]) (ds := [6, 8]) #[false, false, false, false, false, false, false, false, false] (by kernel_rfl) rfl rfl hs0 (fun hH => ?_)
      rw [hw4] at hH ⊢
      clear hs0 hw4
      refine pure_ (i := 0) (N := some 27) (v := ?_) (a' := ?_) #[true, false, false, false, false, false, false, false, false] rfl rfl (by kernel_rfl) (fun _ _ _ h => h) (Or.inl ⟨by rfl, ?_⟩) ?_ ?_
      rotate_left
      · intro w'
        go_simp
        with_reducible rfl
      rotate_left
      · simp only [Act.put, List.setIfInBounds_toArray, List.set_cons_zero, List.set_cons_succ, i64_w, i32_w]
        rfl
      refine take_ (i := 1) (N := some 28) (v := ?_) (a' := ?_) #[true, true, false, false, false, false, false, false, false] rfl rfl (by kernel_rfl) (fun _ _ _ h => h) (Or.inl ⟨by rfl, ?_⟩) hH ?_ ?_
      rotate_left
      · rintro w' ⟨s0, s1_⟩
        have c_ : _ = some _ := (blk_cell s0 12).trans rfl
        go_simp
        with_reducible rfl
      rotate_left
      · simp only [Act.put, List.setIfInBounds_toArray, List.set_cons_zero, List.set_cons_succ, i64_w, i32_w]
        rfl
      refine take_ (i := 2) (N := some 29) (v := ?_) (a' := ?_) #[true, true, true, false, false, false, false, false, false] rfl rfl (by kernel_rfl) (fun _ _ _ h => h) (Or.inl ⟨by rfl, ?_⟩) hH ?_ ?_
      rotate_left
      · rintro w' ⟨s0, s1_⟩
        refine load_yields (x := .tmp 2) ?_ ?_ s0 Try.underlying34 rfl (by kernel_rfl)
        · rfl
        · rfl
      rotate_left
      · simp only [Act.put, List.setIfInBounds_toArray, List.set_cons_zero, List.set_cons_succ, i64_w, i32_w]
        rfl
      refine pure_ (i := 5) (N := some 32) (v := ?_) (a' := ?_) #[true, true, true, false, false, true, false, false, false] rfl rfl (by kernel_rfl) (fun _ _ _ h => h) (Or.inl ⟨by rfl, ?_⟩) ?_ ?_
      rotate_left
      · intro w'
        go_simp
        with_reducible rfl
      rotate_left
      · simp only [Act.put, List.setIfInBounds_toArray, List.set_cons_zero, List.set_cons_succ, i64_w, i32_w]
        rfl
      refine one_ (i := 3) (N := some 30) #[true, true, true, true, false, true, false, false, false] rfl rfl (by kernel_rfl) (by decide) (fun K hK => ?_)
      refine goes_ Try.func23 (by kernel_rfl) rfl #[.agg #[.int .u64 n.a0, .int .u16 n.a1, .int .i64 n.a2, .bool n.a3, .slice s1.A4 n.l4.length s1.c4, .slice s1.A5 n.l5.length s1.c5, .slice s1.A6 n.l6.length s1.c6, .slice s1.A7 n.l7.length s1.c7, .slice s1.A8 n.l8.length s1.c8, .slice s1.A9 n.l9.length s1.c9, .slice s1.A10 n.l10.length s1.c10, .int .u32 n.a11, .int .i64 iv, .int .i64 n.a13]] (by rfl) rfl rfl (by (try simp only [List.map_toArray, List.map_cons, List.map_nil]); first | done | rfl) ?_
      refine HNOW.out.mono ?_
      rintro e7 w7 ⟨rfl, hb7⟩
      refine ⟨_, rfl, ?_⟩
      have hS_ := hH.go hb7
      have HB7 := Aside0.mk hb7
      clear hb7
      refine hK.out _ _ hS_ (fun hH1 => ?_)
      clear hS_
      clear hK K
      refine norm_ (a' := ?_) ?_ ?_
      rotate_left
      · show Act.put _ (some 30) _ = _
        simp only [Act.put, List.setIfInBounds_toArray, List.set_cons_zero, List.set_cons_succ, i64_w, i32_w]
        rfl
      refine pure_ (i := 4) (N := some 31) (v := ?_) (a' := ?_) #[true, true, true, true, true, true, false, false, false] rfl rfl (by kernel_rfl) (fun _ _ _ h => h) (Or.inl ⟨by rfl, ?_⟩) ?_ ?_
      rotate_left
      · intro w'
        go_simp
        with_reducible rfl
      rotate_left
      · simp only [Act.put, List.setIfInBounds_toArray, List.set_cons_zero, List.set_cons_succ, i64_w, i32_w]
        rfl
      refine last_ (i := 6) (N := none) #[true, true, true, true, true, true, true, false, false] rfl rfl (by kernel_rfl) (by decide) (fun K hK => ?_)
      refine store_step 3 _ _ (g + 1) 0 _ #[.int .i64 iv, .int .i64 j.f1, .int .i64 j.f2, .string j.f3, .string j.f4, .int .u64 j.f5, .int .u64 j.f6.f0, .int .u16 j.f6.f1, .int .u64 j.f7.f0, .int .u16 j.f7.f1, .bool j.f8, .int .i64 j.f9, .int .i64 j.f10, .int .i64 j.f11] 36 (.int .i64 iv) [.int .i64 iv] (by rfl) rfl rfl rfl hH1.bj rfl (by kernel_rfl) (by simp) (by simp [Value.oneCell']) (by simp) ?_
      intro w8 e8 hs8
      have HS8 := Aside0.mk hs8
      have g8 := HS8.out.blk (by omega) hH1.bg
      clear hs8
      refine hK.out _ _ ?_
      clear hK K
      refine norm_ (a' := ?_) ?_ ?_
      rotate_left
      · show Act.put _ (none) _ = _
        simp only [Act.put, List.setIfInBounds_toArray, List.set_cons_zero, List.set_cons_succ, i64_w, i32_w]
        rfl
      refine pure_ (i := 7) (N := some 33) (v := ?_) (a' := ?_) #[true, true, true, true, true, true, true, true, false] rfl rfl (by kernel_rfl) (fun _ _ _ h => h) (Or.inl ⟨by rfl, ?_⟩) ?_ ?_
      rotate_left
      · intro w'
        go_simp
        with_reducible rfl
      rotate_left
      · simp only [Act.put, List.setIfInBounds_toArray, List.set_cons_zero, List.set_cons_succ, i64_w, i32_w]
        rfl
      refine last_ (i := 8) (N := none) #[true, true, true, true, true, true, true, true, true] rfl rfl (by kernel_rfl) (by decide) (fun K hK => ?_)
      refine store_step 3 _ _ (g + 1) 13 _ #[.int .i64 iv, .int .i64 j.f1, .int .i64 j.f2, .string j.f3, .string j.f4, .int .u64 j.f5, .int .u64 j.f6.f0, .int .u16 j.f6.f1, .int .u64 j.f7.f0, .int .u16 j.f7.f1, .bool j.f8, .int .i64 j.f9, .int .i64 j.f10, .int .i64 (nw + 200)] 36 (.int .i64 (nw + 200)) [.int .i64 (nw + 200)] (by rfl) rfl rfl (congrArg (Value.int .i64) hw8) e8 rfl (by kernel_rfl) (by simp) (by simp [Value.oneCell']) (by simp) ?_
      intro w9 e9 hs9
      have HS9 := Aside0.mk hs9
      have g9 := HS9.out.blk (by omega) g8
      clear hs9 e8 g8
      refine hK.out _ _ ?_
      clear hK K
      refine norm_ (a' := ?_) ?_ ?_
      rotate_left
      · show Act.put _ (none) _ = _
        simp only [Act.put, List.setIfInBounds_toArray, List.set_cons_zero, List.set_cons_succ, i64_w, i32_w]
        rfl
      refine done_ (by kernel_rfl) ?_
      have hgb : g + 1 + 1 < W.heap.size := by have := HSW.out; omega
      have HR7 := Aside0.mk (HR4.out.below HB7.out)
      have HR9 : Aside0 (NR w9 W.heap.size n s1) := ⟨(HR7.out.step (fun k hk hlt => HS8.out.far k (by omega))).step (fun k hk hlt => HS9.out.far k (by omega))⟩
      have F10 := Aside0.mk (HS9.out.blk (by omega) (HS8.out.blk (by omega) ((HB7.out.block _ (blk_lt ((HB4.out.block _ (blk_lt F10.out)).trans F10.out))).trans ((HB4.out.block _ (blk_lt F10.out)).trans F10.out))))
      have HB9 : Aside0 (Below w.heap.size w w9) := ⟨HS9.out.on (by have := HGG.out; omega) (HS8.out.on (by have := HGG.out; omega) (below_then (below_then HB3.out HB3.out.size HB4.out) (Nat.le_trans HB3.out.size HB4.out.size) HB7.out))⟩
      have HSZ9 : Aside0 (W.heap.size ≤ w9.heap.size) := ⟨by have h1 := HS9.out.size; have h2 := HS8.out.size; have h3 := HB7.out.size; have h4 := HB4.out.size; have h5 := HS3.out.size; have h6 := HS2.out.size; have h7 := HB1.out.size; omega⟩
      have c9 : w9.cell? ⟨g, 9, none⟩ = some (.slice s1.A9 n.l9.length s1.c9) := (blk_cell g9 9).trans rfl
      have HLQ : Aside0 ((n.l9.length + 1) * 128 ≤ 140737488355328) := ⟨by have := HFU.out; omega⟩
      have G9 := Aside0.mk g9
      have E9 := Aside0.mk e9
      clear hH hH1 g9 hgb
      have HGW : Aside0 (g < W.heap.size ∧ g + 1 < W.heap.size ∧ g + 1 + 1 < W.heap.size) := ⟨by have := HSW.out; exact ⟨by omega, by omega, by omega⟩⟩
      go_wp2_with (first | (refine gate_ (.load 36 (.tmp 3)) rfl ?_; refine wpList_load_row rfl 36 _ rfl (g + 1) rfl 36 _ (0, 0) _ e9 Try.underlying36 rfl (by kernel_rfl) ?_) | (at_builtin; refine Kd.R_append k36 (w0 := w9) (W := w9) W.heap.size (by rfl) _ _ 30 36 _ 128 (by rfl) Try.underlying30 info36 rfl (by decide) (by decide) (.slice s1.A9 n.l9.length s1.c9) n.l9 j3 [.int .i64 iv, .int .i64 j.f1, .int .i64 j.f2, .string j.f3, .string j.f4, .int .u64 j.f5, .int .u64 j.f6.f0, .int .u16 j.f6.f1, .int .u64 j.f7.f0, .int .u16 j.f7.f1, .bool j.f8, .int .i64 j.f9, .int .i64 j.f10, .int .i64 (nw + 200)] (fun _ => True) (fun _ => False) (by rfl) (by rfl) (by rw [HJ3.out]; exact k36_mkM _ _ _ _) (fun _ h => h.elim) (fun _ _ => trivial) HR9.out.o9 (Below.refl _ _) HSZ9.out HLQ.out ?_; intro v10 w10 hO10 hb10 hg10 _; obtain ⟨A9, c9', rfl, _, _⟩ := Kd.R_reads hO10; rw [show (n.l9 ++ [j3]).length = n.l9.length + 1 from by simp] at hO10; have hgl := grow_low (g := g) HR9.out.o9 hg10; have g10 := (hgl.2 g HGW.out.1 (blk_lt G9.out)).trans G9.out; have E10 := Aside0.mk ((hgl.2 (g + 1) HGW.out.2.1 (blk_lt E9.out)).trans E9.out); have F10' := Aside0.mk ((hgl.2 (g + 1 + 1) HGW.out.2.2 (blk_lt F10.out)).trans F10.out); have HT10 := Aside0.mk hgl.1; have HO10 := Aside0.mk hO10; clear hgl hO10 hb10 hg10 c9 e9) | (refine store_box (.store 30 (.tmp 39) (.tmp 38)) 30 _ _ (g) 9 _ #[.int .u64 n.a0, .int .u16 n.a1, .int .i64 n.a2, .bool n.a3, .slice s1.A4 n.l4.length s1.c4, .slice s1.A5 n.l5.length s1.c5, .slice s1.A6 n.l6.length s1.c6, .slice s1.A7 n.l7.length s1.c7, .slice s1.A8 n.l8.length s1.c8, .slice A9 (n.l9.length + 1) c9', .slice s1.A10 n.l10.length s1.c10, .int .u32 n.a11, .int .i64 iv, .int .i64 n.a13] 34 _ [.slice A9 (n.l9.length + 1) c9'] rfl rfl rfl rfl rfl rfl g10 rfl (by kernel_rfl) (by simp) (by simp [Value.oneCell']) (by simp) ?_; intro w11 g11 hs11; have HS11 := Aside0.mk hs11; clear hs11 g10; refine hold_ ?_))
      intro _
      have HR10 : Aside0 (NR w10 W.heap.size { n with a12 := iv, l9 := n.l9 ++ [j3] } { s1 with A9 := A9, c9 := c9' }) := ⟨by
        have h := nr_jobs (A := A9) (c := c9') HR9.out HT10.out HGW.out.1 (l := n.l9 ++ [j3]) (by rw [show (n.l9 ++ [j3]).length = n.l9.length + 1 from by simp]; exact HO10.out)
        exact ⟨h.o4, h.o5, h.o6, h.o7, h.o8, h.o9, h.o10⟩⟩
      obtain ⟨w12, hw12⟩ : ∃ w12, w11.drew = w12 := ⟨_, rfl⟩
      have HB12 : Aside0 (Below w11.heap.size w11 w12) := ⟨by rw [← hw12]; exact (Below.refl _ _).drew⟩
      have hs0 : ToldS g (g + 1) #[.int .u64 n.a0, .int .u16 n.a1, .int .i64 n.a2, .bool n.a3, .slice s1.A4 n.l4.length s1.c4, .slice s1.A5 n.l5.length s1.c5, .slice s1.A6 n.l6.length s1.c6, .slice s1.A7 n.l7.length s1.c7, .slice s1.A8 n.l8.length s1.c8, .slice A9 (n.l9.length + 1) c9', .slice s1.A10 n.l10.length s1.c10, .int .u32 n.a11, .int .i64 iv, .int .i64 n.a13] #[.int .i64 iv, .int .i64 j.f1, .int .i64 j.f2, .string j.f3, .string j.f4, .int .u64 j.f5, .int .u64 j.f6.f0, .int .u16 j.f6.f1, .int .u64 j.f7.f0, .int .u16 j.f7.f1, .bool j.f8, .int .i64 j.f9, .int .i64 j.f10, .int .i64 (nw + 200)] w11.drew := ⟨g11, HS11.out.blk (by omega) E10.out⟩
      have HF10 : Aside0 (w12.heap[g + 1 + 1]? = some (.cells #[.int .u64 0, .int .u16 0, .int .i64 0, .bool false, .slice none 0 0, .slice none 0 0, .slice none 0 0, .slice none 0 0, .slice none 0 0, .slice none 0 0, .slice none 0 0, .int .u32 0, .int .i64 0, .int .i64 0] 34 (0, 0))) := ⟨(HB12.out.block _ (by have h1 := HS11.out.size; have h2 := blk_lt F10'.out; omega)).trans (HS11.out.blk (by omega) F10'.out)⟩
      have HGJ1 : Aside0 (j3.f0 = iv) := ⟨by rw [HJ3.out]⟩
      clear g11
      go_wp2_with fail
      refine start_ (n := 6) (S := ToldS g (g + 1) #[.int .u64 n.a0, .int .u16 n.a1, .int .i64 n.a2, .bool n.a3, .slice s1.A4 n.l4.length s1.c4, .slice s1.A5 n.l5.length s1.c5, .slice s1.A6 n.l6.length s1.c6, .slice s1.A7 n.l7.length s1.c7, .slice s1.A8 n.l8.length s1.c8, .slice A9 (n.l9.length + 1) c9', .slice s1.A10 n.l10.length s1.c10, .int .u32 n.a11, .int .i64 iv, .int .i64 n.a13] #[.int .i64 iv, .int .i64 j.f1, .int .i64 j.f2, .string j.f3, .string j.f4, .int .u64 j.f5, .int .u64 j.f6.f0, .int .u16 j.f6.f1, .int .u64 j.f7.f0, .int .u16 j.f7.f1, .bool j.f8, .int .i64 j.f9, .int .i64 j.f10, .int .i64 (nw + 200)]) (ds := []) #[false, false, false, false, false, false] (by kernel_rfl) rfl rfl hs0 (fun hI => ?_)
      rw [hw12] at hI ⊢
      clear hs0 hw12
      refine take_ (i := 0) (N := some 40) (v := ?_) (a' := ?_) #[true, false, false, false, false, false] rfl rfl (by kernel_rfl) (fun _ _ _ h => h) (Or.inl ⟨by rfl, ?_⟩) hI ?_ ?_
      rotate_left
      · rintro w' ⟨s0, s1_⟩
        refine load_yields (x := .tmp 2) ?_ ?_ s0 Try.underlying34 rfl (by kernel_rfl)
        · rfl
        · rfl
      rotate_left
      · simp only [Act.put, List.setIfInBounds_toArray, List.set_cons_zero, List.set_cons_succ, i64_w, i32_w]
        rfl
      refine pure_ (i := 1) (N := some 41) (v := ?_) (a' := ?_) #[true, true, false, false, false, false] rfl rfl (by kernel_rfl) (fun _ _ _ h => h) (Or.inl ⟨by rfl, ?_⟩) ?_ ?_
      rotate_left
      · intro w'
        go_simp
        with_reducible rfl
      rotate_left
      · simp only [Act.put, List.setIfInBounds_toArray, List.set_cons_zero, List.set_cons_succ, i64_w, i32_w]
        rfl
      refine take_ (i := 2) (N := some 42) (v := ?_) (a' := ?_) #[true, true, true, false, false, false] rfl rfl (by kernel_rfl) (fun _ _ _ h => h) (Or.inl ⟨by rfl, ?_⟩) hI ?_ ?_
      rotate_left
      · rintro w' ⟨s0, s1_⟩
        have c_ : _ = some _ := (blk_cell s1_ 0).trans rfl
        go_simp
        with_reducible rfl
      rotate_left
      · simp only [Act.put, List.setIfInBounds_toArray, List.set_cons_zero, List.set_cons_succ, i64_w, i32_w]
        rfl
      refine one_ (i := 3) (N := none) #[true, true, true, true, false, false] rfl rfl (by kernel_rfl) (by decide) (fun K hK => ?_)
      refine store_step 34 _ _ (g + 1 + 1) 0 _ #[.int .u64 n.a0, .int .u16 n.a1, .int .i64 n.a2, .bool n.a3, .slice s1.A4 n.l4.length s1.c4, .slice s1.A5 n.l5.length s1.c5, .slice s1.A6 n.l6.length s1.c6, .slice s1.A7 n.l7.length s1.c7, .slice s1.A8 n.l8.length s1.c8, .slice A9 (n.l9.length + 1) c9', .slice s1.A10 n.l10.length s1.c10, .int .u32 n.a11, .int .i64 iv, .int .i64 n.a13] 34 _ [.int .u64 n.a0, .int .u16 n.a1, .int .i64 n.a2, .bool n.a3, .slice s1.A4 n.l4.length s1.c4, .slice s1.A5 n.l5.length s1.c5, .slice s1.A6 n.l6.length s1.c6, .slice s1.A7 n.l7.length s1.c7, .slice s1.A8 n.l8.length s1.c8, .slice A9 (n.l9.length + 1) c9', .slice s1.A10 n.l10.length s1.c10, .int .u32 n.a11, .int .i64 iv, .int .i64 n.a13] (by rfl) rfl rfl rfl HF10.out rfl (by kernel_rfl) (by simp) (by simp [Value.oneCell']) (by simp) ?_
      intro w13 e13 hs13
      have HS13 := Aside0.mk hs13
      have E13 := Aside0.mk e13
      have hS_ : ToldS g (g + 1) #[.int .u64 n.a0, .int .u16 n.a1, .int .i64 n.a2, .bool n.a3, .slice s1.A4 n.l4.length s1.c4, .slice s1.A5 n.l5.length s1.c5, .slice s1.A6 n.l6.length s1.c6, .slice s1.A7 n.l7.length s1.c7, .slice s1.A8 n.l8.length s1.c8, .slice A9 (n.l9.length + 1) c9', .slice s1.A10 n.l10.length s1.c10, .int .u32 n.a11, .int .i64 iv, .int .i64 n.a13] #[.int .i64 iv, .int .i64 j.f1, .int .i64 j.f2, .string j.f3, .string j.f4, .int .u64 j.f5, .int .u64 j.f6.f0, .int .u16 j.f6.f1, .int .u64 j.f7.f0, .int .u16 j.f7.f1, .bool j.f8, .int .i64 j.f9, .int .i64 j.f10, .int .i64 (nw + 200)] w13 := ⟨hs13.blk (by omega) hI.bg, hs13.blk (by omega) hI.bj⟩
      clear hs13 e13
      refine hK.out _ _ hS_ (fun hI1 => ?_)
      clear hS_
      clear hK K
      refine norm_ (a' := ?_) ?_ ?_
      rotate_left
      · show Act.put _ (none) _ = _
        simp only [Act.put, List.setIfInBounds_toArray, List.set_cons_zero, List.set_cons_succ, i64_w, i32_w]
        rfl
      refine pure_ (i := 4) (N := some 5) (v := ?_) (a' := ?_) #[true, true, true, true, true, false] rfl rfl (by kernel_rfl) (fun _ _ _ h => h) (Or.inl ⟨by rfl, ?_⟩) ?_ ?_
      rotate_left
      · intro w'
        go_simp
        with_reducible rfl
      rotate_left
      · simp only [Act.put, List.setIfInBounds_toArray, List.set_cons_zero, List.set_cons_succ, i64_w, i32_w]
        rfl
      refine pure_ (i := 5) (N := some 6) (v := ?_) (a' := ?_) #[true, true, true, true, true, true] rfl rfl (by kernel_rfl) (fun _ _ _ h => h) (Or.inl ⟨by rfl, ?_⟩) ?_ ?_
      rotate_left
      · intro w'
        go_simp
        with_reducible rfl
      rotate_left
      · simp only [Act.put, List.setIfInBounds_toArray, List.set_cons_zero, List.set_cons_succ, i64_w, i32_w]
        rfl
      refine done_ (by kernel_rfl) ?_
      go_wp2_with fail
      obtain ⟨y0, y1, y2, y3, y4, y5, y6, y7, y8, y9, y10, y11, y12, y13, _⟩ := box14f E13.out
      have hlen : (n.l9 ++ [j3]).length = n.l9.length + 1 := by simp
      refine bodyPost_ret (v := .tuple #[.agg #[.int .u64 n.a0, .int .u16 n.a1, .int .i64 n.a2, .bool n.a3, .slice s1.A4 n.l4.length s1.c4, .slice s1.A5 n.l5.length s1.c5, .slice s1.A6 n.l6.length s1.c6, .slice s1.A7 n.l7.length s1.c7, .slice s1.A8 n.l8.length s1.c8, .slice A9 (n.l9.length + 1) c9', .slice s1.A10 n.l10.length s1.c10, .int .u32 n.a11, .int .i64 iv, .int .i64 n.a13], .int .i64 iv, .int .i64 0]) ?hres rfl ?_
      case hres =>
        simp only [results, Try.f8]
        go_simp
      have hw10 : Below w.heap.size w w10 := HT10.out.on HB9.out HBW.out.size (by have := HGG.out; omega)
      have hw11 : Below w.heap.size w w11 := HS11.out.on (by have := HGG.out; omega) hw10
      have hw12 : Below w.heap.size w w12 := below_then hw11 hw11.size HB12.out
      refine ⟨{ s1 with A9 := A9, c9 := c9' }, by show Ending.returned (.tuple #[.agg #[.int .u64 n.a0, .int .u16 n.a1, .int .i64 n.a2, .bool n.a3, .slice s1.A4 n.l4.length s1.c4, .slice s1.A5 n.l5.length s1.c5, .slice s1.A6 n.l6.length s1.c6, .slice s1.A7 n.l7.length s1.c7, .slice s1.A8 n.l8.length s1.c8, .slice A9 (n.l9.length + 1) c9', .slice s1.A10 n.l10.length s1.c10, .int .u32 n.a11, .int .i64 iv, .int .i64 n.a13], .int .i64 iv, .int .i64 0]) = _; rw [← hlen], ?_, HS13.out.on (by have := HGG.out; omega) hw12⟩
      exact ((((HR10.out.step (fun q hq hlt => HS11.out.far q (by have := HGW.out.1; omega))).below HB12.out).step (fun q hq hlt => HS13.out.far q (by have := HGW.out.2.2; omega)))).lower HBW.out.size

end Go.Proofs.Ytcnkmajengephaa.H
