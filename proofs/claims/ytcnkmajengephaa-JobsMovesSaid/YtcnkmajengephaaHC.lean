/- Mine. Chapter 31, by hand: frames by type; jobs.told. -/
import Derived.Test.YtcnkmajengephaaHI
namespace Go.Proofs.Ytcnkmajengephaa.H
open Go Go.Proofs Go.RowKit Go.Lib Go.Proofs.Ytcnkmajengephaa.P Go.Proofs.YtcnkmajengephaaW.PrintWords Go.Proofs.YtcnkmajengephaaW.PrintLast Go.Proofs.YtcnkmajengephaaW.PrintMore
set_option linter.unusedVariables false
set_option linter.unusedSimpArgs false
/-- What is older stays, but for block g and rows of one's own of type t. -/
structure Tf (t base g : Nat) (V V' : World) : Prop where
  os : V'.os = V.os
  tape : V'.tape = V.tape
  output : V'.output = V.output
  size : V.heap.size ≤ V'.heap.size
  keep : ∀ k, k < V.heap.size → k ≠ g → (k < base ∨ ∀ c, V.heap[k]? ≠ some (.cells c t (0, 0))) → V'.heap[k]? = V.heap[k]?
theorem Tf.below {t base g : Nat} {V V' : World} (h : Below V.heap.size V V') : Tf t base g V V' := ⟨h.os, h.tape, h.output, h.size, fun k hk _ _ => h.block k hk⟩
theorem Tf.sto {t base g : Nat} {V V' : World} (h : Sto V V' g) : Tf t base g V V' := ⟨h.os, h.tape, h.output, Nat.le_of_eq h.size.symm, fun k _ hne _ => h.far k hne⟩
theorem Tf.grown {t base g : Nat} {V V' : World} {row : Option Nat} (h : V.grownBy V' row) (hr : ∀ k, row = some k → base ≤ k ∧ ∃ c, V.heap[k]? = some (.cells c t (0, 0))) : Tf t base g V V' :=
  ⟨h.os, h.tape, h.output, h.size, fun k hk _ hc => h.block k hk (fun e => by
    obtain ⟨h1, c, h2⟩ := hr k e.symm
    rcases hc with hc | hc
    · omega
    · exact hc c h2)⟩
theorem Tf.trans {t base g : Nat} {V V1 V2 : World} (h : Tf t base g V V1) (h' : Tf t base g V1 V2) : Tf t base g V V2 :=
  ⟨h'.os.trans h.os, h'.tape.trans h.tape, h'.output.trans h.output, Nat.le_trans h.size h'.size, fun k hk hne hc => by
    have h1 := h.keep k hk hne hc
    refine (h'.keep k (Nat.lt_of_lt_of_le hk h.size) hne ?_).trans h1
    rcases hc with hc | hc
    · exact .inl hc
    · exact .inr (fun c e => hc c (by rw [← h1]; exact e))⟩
theorem Tf.R {α : Type} {d : Kd α} {e t base g : Nat} {V V' : World} {ok : Nat → Prop} {v : Value} {xs : List α} (h : Tf t base g V V') (hR : d.R e V base ok v xs) (ht : t ∉ e :: d.E) (hg : g < base) : d.R e V' base (fun _ => True) v xs := by
  refine Kd.R_mono (Kd.R_step (Kd.R_bound hR) (fun k hk hlt => h.keep k hlt (by have := hk.2.1; omega) (.inr (fun c hc => ?_)))) (fun _ _ => trivial)
  obtain ⟨_, _, _, q, hq, c', hc'⟩ := hk
  rw [hc] at hc'
  injection hc' with hc'
  injection hc' with _ hqq _
  exact ht (by rw [hqq]; exact hq)
theorem Tf.on {t base g : Nat} {V V' w : World} (h : Tf t base g V V') (hb : Below w.heap.size w V) (hw : w.heap.size ≤ base) (hg : w.heap.size ≤ g) : Below w.heap.size w V' :=
  ⟨h.os.trans hb.os, h.tape.trans hb.tape, h.output.trans hb.output, Nat.le_trans hb.size h.size, fun k hk => (h.keep k (Nat.lt_of_lt_of_le hk hb.size) (by omega) (.inl (by omega))).trans (hb.block k hk)⟩
theorem lit1 {α : Type} {d : Kd α} {p : α} {w : World} {g e : Nat} {cs : List Value} {ca : Array Value} (hK : d.K w p cs) (h : w.heap[g]? = some (.cells ca e (0, 0))) (hc : ca.toList = cs) : ReadsRow (d.K w) d.sz w (some ⟨g, 0, none⟩) 1 [p] := by
  refine ⟨rfl, by decide, fun _ => ⟨_, rfl, fun j q hj => ?_⟩⟩
  rcases j with _ | j
  · cases hj
    refine ⟨cs, d.K_len hK, hK, fun i u hi => ?_⟩
    rw [Nat.zero_mul, Nat.zero_add]
    have ha : Addr.add ⟨g, 0, none⟩ i = ⟨g, i, none⟩ := by unfold Addr.add; split <;> simp_all
    rw [ha, blk_cell h i, ← Array.getElem?_toList, hc]
    exact hi
  · simp at hj
/-- A job's value. -/
abbrev jv (j : S36) : Value := .agg #[.int .i64 j.f0, .int .i64 j.f1, .int .i64 j.f2, .string j.f3, .string j.f4, .int .u64 j.f5, .int .u64 j.f6.f0, .int .u16 j.f6.f1, .int .u64 j.f7.f0, .int .u16 j.f7.f1, .bool j.f8, .int .i64 j.f9, .int .i64 j.f10, .int .i64 j.f11]
/-- Two boxes: a node's and a job's. -/
structure ToldS (g gj : Nat) (cg cj : Array Value) (V : World) : Prop where
  bg : V.heap[g]? = some (.cells cg 34 (0, 0))
  bj : V.heap[gj]? = some (.cells cj 36 (0, 0))
theorem ToldS.go {g gj : Nat} {cg cj : Array Value} {V V' : World} (h : ToldS g gj cg cj V) (hb : Below V.heap.size V V') : ToldS g gj cg cj V' := ⟨(hb.block _ (blk_lt h.bg)).trans h.bg, (hb.block _ (blk_lt h.bj)).trans h.bj⟩
theorem ToldS.grown {g gj : Nat} {cg cj : Array Value} {V V' : World} {row : Option Nat} (h : ToldS g gj cg cj V) (hb : V.grownBy V' row) (h1 : ∀ k, row = some k → g < k) (h2 : ∀ k, row = some k → gj ≠ k) : ToldS g gj cg cj V' :=
  ⟨(hb.block _ (blk_lt h.bg) (fun e => by have := h1 _ e.symm; omega)).trans h.bg, (hb.block _ (blk_lt h.bj) (fun e => h2 _ e.symm rfl)).trans h.bj⟩
/-- The last sixteen. -/
def last16 (l : List S51) : List S51 := l.drop (l.length - 16)
def toldR (n : ND) (j : S36) (has : Bool) (val : ByteArray) (e : Int) : List S51 := if j.f1 = 2 ∨ j.f1 = 3 then last16 (n.l10 ++ [(⟨j.f0, j.f1, j.f3, val, has, e⟩ : S51)]) else n.l10
def toldN (n : ND) (j : S36) (has : Bool) (val : ByteArray) (e : Int) : ND := { n with l10 := toldR n j has val e }
/-- A node's box, where it is told of a result. -/
def ToldP (n : ND) (s : NA) (base g : Nat) (V : World) (e : Ending) (V' : World) : Prop := e = .returned (.tuple #[]) ∧ ∃ A c, V'.heap[g]? = some (.cells #[.int .u64 n.a0, .int .u16 n.a1, .int .i64 n.a2, .bool n.a3, .slice s.A4 n.l4.length s.c4, .slice s.A5 n.l5.length s.c5, .slice s.A6 n.l6.length s.c6, .slice s.A7 n.l7.length s.c7, .slice s.A8 n.l8.length s.c8, .slice s.A9 n.l9.length s.c9, .slice A n.l10.length c, .int .u32 n.a11, .int .i64 n.a12, .int .i64 n.a13] 34 (0, 0)) ∧ NR V' base n { s with A10 := A, c10 := c } ∧ Tf 51 base g V V'
theorem nr_told {V V' : World} {base g : Nat} {n : ND} {s : NA} {A : Option Addr} {c : Nat} {l : List S51} (h : NR V base n s) (hf : Tf 51 base g V V') (hg : g < base) (hl : Kd.R k51 51 V' base (fun _ => True) (.slice A l.length c) l) : NR V' base { n with l10 := l } { s with A10 := A, c10 := c } :=
  ⟨hf.R h.o4 (by decide) hg, hf.R h.o5 (by decide) hg, hf.R h.o6 (by decide) hg, hf.R h.o7 (by decide) hg, hf.R h.o8 (by decide) hg, hf.R h.o9 (by decide) hg, hl⟩
set_option maxRecDepth 100000 in
set_option maxHeartbeats 8000000 in
theorem told_ok (n : ND) (s : NA) (j : S36) (has : Bool) (val : ByteArray) (e : Int) (g base : Nat) (V : World) (hbox : V.heap[g]? = some (.cells #[.int .u64 n.a0, .int .u16 n.a1, .int .i64 n.a2, .bool n.a3, .slice s.A4 n.l4.length s.c4, .slice s.A5 n.l5.length s.c5, .slice s.A6 n.l6.length s.c6, .slice s.A7 n.l7.length s.c7, .slice s.A8 n.l8.length s.c8, .slice s.A9 n.l9.length s.c9, .slice s.A10 n.l10.length s.c10, .int .u32 n.a11, .int .i64 n.a12, .int .i64 n.a13] 34 (0, 0))) (hR : NR V base n s) (hgb : g < base) (hbV : base ≤ V.heap.size) (hl : n.l10.length ≤ 100000) :
    Calls Try.prog 30 #[.pointer (some ⟨g, 0, none⟩), jv j, .bool has, .string val, .int .i64 e] V (ToldP (toldN n j has val e) s base g V) := by
  obtain ⟨gj, hgj⟩ : ∃ gj, V.heap.size = gj := ⟨_, rfl⟩
  obtain ⟨W, hW⟩ : ∃ W, V.alloc (.cells #[.int .i64 j.f0, .int .i64 j.f1, .int .i64 j.f2, .string j.f3, .string j.f4, .int .u64 j.f5, .int .u64 j.f6.f0, .int .u16 j.f6.f1, .int .u64 j.f7.f0, .int .u16 j.f7.f1, .bool j.f8, .int .i64 j.f9, .int .i64 j.f10, .int .i64 j.f11] 36) = W := ⟨_, rfl⟩
  have hbW : Below V.heap.size V W := by rw [← hW]; exact below_alloc (Below.refl _ _) _
  have ej : W.heap[gj]? = some (.cells #[.int .i64 j.f0, .int .i64 j.f1, .int .i64 j.f2, .string j.f3, .string j.f4, .int .u64 j.f5, .int .u64 j.f6.f0, .int .u16 j.f6.f1, .int .u64 j.f7.f0, .int .u16 j.f7.f1, .bool j.f8, .int .i64 j.f9, .int .i64 j.f10, .int .i64 j.f11] 36 (0, 0)) := by rw [← hW, ← hgj]; exact heap_alloc_new V _
  have eg : W.heap[g]? = some (.cells #[.int .u64 n.a0, .int .u16 n.a1, .int .i64 n.a2, .bool n.a3, .slice s.A4 n.l4.length s.c4, .slice s.A5 n.l5.length s.c5, .slice s.A6 n.l6.length s.c6, .slice s.A7 n.l7.length s.c7, .slice s.A8 n.l8.length s.c8, .slice s.A9 n.l9.length s.c9, .slice s.A10 n.l10.length s.c10, .int .u32 n.a11, .int .i64 n.a12, .int .i64 n.a13] 34 (0, 0)) := (hbW.block g (by omega)).trans hbox
  have HR := Aside0.mk hR
  have HBW := Aside0.mk hbW
  have HEG := Aside0.mk eg
  have HEJ := Aside0.mk ej
  have HGB := Aside0.mk hgb
  have HBV := Aside0.mk hbV
  have HGJ : Aside0 (gj ≠ g) := ⟨by omega⟩
  have HL := Aside0.mk hl
  have HGJE := Aside0.mk hgj
  have c1 : W.cell? ⟨gj, 1, none⟩ = some (.int .i64 j.f1) := (blk_cell ej 1).trans rfl
  clear hR hbW eg ej hgb hbV hl hbox
  by_cases hk : j.f1 = 2 ∨ j.f1 = 3
  · have HT : Aside0 (toldR n j has val e = last16 (n.l10 ++ [(⟨j.f0, j.f1, j.f3, val, has, e⟩ : S51)])) := ⟨if_pos hk⟩
    have hcs : (j.f1 != 2) = false ∨ ((j.f1 != 2) = true ∧ (j.f1 != 3) = false) := by
      rcases hk with h | h
      · exact .inl (by simp [h])
      · exact .inr ⟨by simp [h], by simp [h]⟩
    clear hk
    obtain ⟨m, hm⟩ : ∃ m, (n.l10 ++ [(⟨j.f0, j.f1, j.f3, val, has, e⟩ : S51)]).length = m := ⟨_, rfl⟩
    have hm' : m = n.l10.length + 1 := by rw [← hm]; simp
    obtain ⟨lo, hlo⟩ : ∃ lo, m - 16 = lo := ⟨_, rfl⟩
    have HM := Aside0.mk hm
    have HM' := Aside0.mk hm'
    have HLO := Aside0.mk hlo
    clear hm hm' hlo
    rcases hcs with h1 | ⟨h1, h2⟩
    all_goals
      go_enter Try.func30, Try.ntmps30
      go_wp2_with fail
      obtain ⟨u0, hu0⟩ : ∃ u0, W.drew = u0 := ⟨_, rfl⟩
      have HU0 : Aside0 (Below W.heap.size W u0) := ⟨by rw [← hu0]; exact (Below.refl _ _).drew⟩
      have HR0 : Aside0 (Kd.R k51 51 u0 base (fun _ => True) (.slice s.A10 n.l10.length s.c10) n.l10) := ⟨Kd.R_below (Kd.R_below HR.out.o10 HBW.out) HU0.out⟩
      have HSZ : Aside0 (base ≤ u0.heap.size) := ⟨Nat.le_trans HBV.out (Nat.le_trans HBW.out.size HU0.out.size)⟩
      have HLEN : Aside0 ((n.l10.length + 1) * 64 ≤ 140737488355328) := ⟨by have := HL.out; omega⟩
      have hs0 : ToldS g gj #[.int .u64 n.a0, .int .u16 n.a1, .int .i64 n.a2, .bool n.a3, .slice s.A4 n.l4.length s.c4, .slice s.A5 n.l5.length s.c5, .slice s.A6 n.l6.length s.c6, .slice s.A7 n.l7.length s.c7, .slice s.A8 n.l8.length s.c8, .slice s.A9 n.l9.length s.c9, .slice s.A10 n.l10.length s.c10, .int .u32 n.a11, .int .i64 n.a12, .int .i64 n.a13] #[.int .i64 j.f0, .int .i64 j.f1, .int .i64 j.f2, .string j.f3, .string j.f4, .int .u64 j.f5, .int .u64 j.f6.f0, .int .u16 j.f6.f1, .int .u64 j.f7.f0, .int .u16 j.f7.f1, .bool j.f8, .int .i64 j.f9, .int .i64 j.f10, .int .i64 j.f11] W.drew := ⟨HEG.out, HEJ.out⟩
      have HJN : Aside0 (∀ k (V' : World), (k < V'.heap.size ∧ ∃ q, q ∈ 51 :: k51.E ∧ ∃ c, V'.heap[k]? = some (.cells c q (0, 0))) → ToldS g gj #[.int .u64 n.a0, .int .u16 n.a1, .int .i64 n.a2, .bool n.a3, .slice s.A4 n.l4.length s.c4, .slice s.A5 n.l5.length s.c5, .slice s.A6 n.l6.length s.c6, .slice s.A7 n.l7.length s.c7, .slice s.A8 n.l8.length s.c8, .slice s.A9 n.l9.length s.c9, .slice s.A10 n.l10.length s.c10, .int .u32 n.a11, .int .i64 n.a12, .int .i64 n.a13] #[.int .i64 j.f0, .int .i64 j.f1, .int .i64 j.f2, .string j.f3, .string j.f4, .int .u64 j.f5, .int .u64 j.f6.f0, .int .u16 j.f6.f1, .int .u64 j.f7.f0, .int .u16 j.f7.f1, .bool j.f8, .int .i64 j.f9, .int .i64 j.f10, .int .i64 j.f11] V' → gj ≠ k) := ⟨fun k V' hx hS e => by
        subst e
        obtain ⟨_, q, hq, c, hc⟩ := hx
        rw [hS.bj] at hc
        injection hc with hc
        injection hc with _ hqq _
        rw [← hqq] at hq
        exact absurd hq (by decide)⟩
      clear c1
      refine start_ (n := 20) (S := ToldS g gj #[.int .u64 n.a0, .int .u16 n.a1, .int .i64 n.a2, .bool n.a3, .slice s.A4 n.l4.length s.c4, .slice s.A5 n.l5.length s.c5, .slice s.A6 n.l6.length s.c6, .slice s.A7 n.l7.length s.c7, .slice s.A8 n.l8.length s.c8, .slice s.A9 n.l9.length s.c9, .slice s.A10 n.l10.length s.c10, .int .u32 n.a11, .int .i64 n.a12, .int .i64 n.a13] #[.int .i64 j.f0, .int .i64 j.f1, .int .i64 j.f2, .string j.f3, .string j.f4, .int .u64 j.f5, .int .u64 j.f6.f0, .int .u16 j.f6.f1, .int .u64 j.f7.f0, .int .u16 j.f7.f1, .bool j.f8, .int .i64 j.f9, .int .i64 j.f10, .int .i64 j.f11]) (ds := [19]) #[false, false, false, false, false, false, false, false, false, false, false, false, false, false, false, false, false, false, false, false] (by kernel_rfl) rfl rfl hs0 (fun hH => ?_)
      rw [hu0] at hH ⊢
      clear hs0 hu0
      refine pure_ (i := 0) (N := some 18) (v := ?_) (a' := ?_) #[true, false, false, false, false, false, false, false, false, false, false, false, false, false, false, false, false, false, false, false] rfl rfl (by kernel_rfl) (fun _ _ _ h => h) (Or.inl ⟨by rfl, ?_⟩) ?_ ?_
      rotate_left
      · intro w'
        go_simp
        with_reducible rfl
      rotate_left
      · simp only [Act.put, List.setIfInBounds_toArray, List.set_cons_zero, List.set_cons_succ, i64_w, i32_w]
        rfl
      refine pure_ (i := 1) (N := some 19) (v := ?_) (a' := ?_) #[true, true, false, false, false, false, false, false, false, false, false, false, false, false, false, false, false, false, false, false] rfl rfl (by kernel_rfl) (fun _ _ _ h => h) (Or.inl ⟨by rfl, ?_⟩) ?_ ?_
      rotate_left
      · intro w'
        go_simp
        with_reducible rfl
      rotate_left
      · simp only [Act.put, List.setIfInBounds_toArray, List.set_cons_zero, List.set_cons_succ, i64_w, i32_w]
        rfl
      refine pure_ (i := 2) (N := some 20) (v := ?_) (a' := ?_) #[true, true, true, false, false, false, false, false, false, false, false, false, false, false, false, false, false, false, false, false] rfl rfl (by kernel_rfl) (fun _ _ _ h => h) (Or.inl ⟨by rfl, ?_⟩) ?_ ?_
      rotate_left
      · intro w'
        go_simp
        with_reducible rfl
      rotate_left
      · simp only [Act.put, List.setIfInBounds_toArray, List.set_cons_zero, List.set_cons_succ, i64_w, i32_w]
        rfl
      refine pure_ (i := 3) (N := some 21) (v := ?_) (a' := ?_) #[true, true, true, true, false, false, false, false, false, false, false, false, false, false, false, false, false, false, false, false] rfl rfl (by kernel_rfl) (fun _ _ _ h => h) (Or.inl ⟨by rfl, ?_⟩) ?_ ?_
      rotate_left
      · intro w'
        go_simp
        with_reducible rfl
      rotate_left
      · simp only [Act.put, List.setIfInBounds_toArray, List.set_cons_zero, List.set_cons_succ, i64_w, i32_w]
        rfl
      refine take_ (i := 4) (N := some 22) (v := ?_) (a' := ?_) #[true, true, true, true, true, false, false, false, false, false, false, false, false, false, false, false, false, false, false, false] rfl rfl (by kernel_rfl) (fun _ _ _ h => h) (Or.inl ⟨by rfl, ?_⟩) hH ?_ ?_
      rotate_left
      · rintro w' ⟨s0, s1_⟩
        have c_ : _ = some _ := (blk_cell s0 10).trans rfl
        go_simp
        with_reducible rfl
      rotate_left
      · simp only [Act.put, List.setIfInBounds_toArray, List.set_cons_zero, List.set_cons_succ, i64_w, i32_w]
        rfl
      refine pure_ (i := 5) (N := some 23) (v := ?_) (a' := ?_) #[true, true, true, true, true, true, false, false, false, false, false, false, false, false, false, false, false, false, false, false] rfl rfl (by kernel_rfl) (fun _ _ _ h => h) (Or.inl ⟨by rfl, ?_⟩) ?_ ?_
      rotate_left
      · intro w'
        go_simp
        with_reducible rfl
      rotate_left
      · simp only [Act.put, List.setIfInBounds_toArray, List.set_cons_zero, List.set_cons_succ, i64_w, i32_w]
        rfl
      refine take_ (i := 6) (N := some 24) (v := ?_) (a' := ?_) #[true, true, true, true, true, true, true, false, false, false, false, false, false, false, false, false, false, false, false, false] rfl rfl (by kernel_rfl) (fun _ _ _ h => h) (Or.inl ⟨by rfl, ?_⟩) hH ?_ ?_
      rotate_left
      · rintro w' ⟨s0, s1_⟩
        have c_ : _ = some _ := (blk_cell s1_ 0).trans rfl
        go_simp
        with_reducible rfl
      rotate_left
      · simp only [Act.put, List.setIfInBounds_toArray, List.set_cons_zero, List.set_cons_succ, i64_w, i32_w]
        rfl
      refine pure_ (i := 7) (N := some 25) (v := ?_) (a' := ?_) #[true, true, true, true, true, true, true, true, false, false, false, false, false, false, false, false, false, false, false, false] rfl rfl (by kernel_rfl) (fun _ _ _ h => h) (Or.inl ⟨by rfl, ?_⟩) ?_ ?_
      rotate_left
      · intro w'
        go_simp
        with_reducible rfl
      rotate_left
      · simp only [Act.put, List.setIfInBounds_toArray, List.set_cons_zero, List.set_cons_succ, i64_w, i32_w]
        rfl
      refine take_ (i := 8) (N := some 26) (v := ?_) (a' := ?_) #[true, true, true, true, true, true, true, true, true, false, false, false, false, false, false, false, false, false, false, false] rfl rfl (by kernel_rfl) (fun _ _ _ h => h) (Or.inl ⟨by rfl, ?_⟩) hH ?_ ?_
      rotate_left
      · rintro w' ⟨s0, s1_⟩
        have c_ : _ = some _ := (blk_cell s1_ 1).trans rfl
        go_simp
        with_reducible rfl
      rotate_left
      · simp only [Act.put, List.setIfInBounds_toArray, List.set_cons_zero, List.set_cons_succ, i64_w, i32_w]
        rfl
      refine pure_ (i := 9) (N := some 27) (v := ?_) (a' := ?_) #[true, true, true, true, true, true, true, true, true, true, false, false, false, false, false, false, false, false, false, false] rfl rfl (by kernel_rfl) (fun _ _ _ h => h) (Or.inl ⟨by rfl, ?_⟩) ?_ ?_
      rotate_left
      · intro w'
        go_simp
        with_reducible rfl
      rotate_left
      · simp only [Act.put, List.setIfInBounds_toArray, List.set_cons_zero, List.set_cons_succ, i64_w, i32_w]
        rfl
      refine take_ (i := 10) (N := some 28) (v := ?_) (a' := ?_) #[true, true, true, true, true, true, true, true, true, true, true, false, false, false, false, false, false, false, false, false] rfl rfl (by kernel_rfl) (fun _ _ _ h => h) (Or.inl ⟨by rfl, ?_⟩) hH ?_ ?_
      rotate_left
      · rintro w' ⟨s0, s1_⟩
        have c_ : _ = some _ := (blk_cell s1_ 3).trans rfl
        go_simp
        with_reducible rfl
      rotate_left
      · simp only [Act.put, List.setIfInBounds_toArray, List.set_cons_zero, List.set_cons_succ, i64_w, i32_w]
        rfl
      refine pure_ (i := 11) (N := some 29) (v := ?_) (a' := ?_) #[true, true, true, true, true, true, true, true, true, true, true, true, false, false, false, false, false, false, false, false] rfl rfl (by kernel_rfl) (fun _ _ _ h => h) (Or.inl ⟨by rfl, ?_⟩) ?_ ?_
      rotate_left
      · intro w'
        go_simp
        with_reducible rfl
      rotate_left
      · simp only [Act.put, List.setIfInBounds_toArray, List.set_cons_zero, List.set_cons_succ, i64_w, i32_w]
        rfl
      refine pure_ (i := 12) (N := some 30) (v := ?_) (a' := ?_) #[true, true, true, true, true, true, true, true, true, true, true, true, true, false, false, false, false, false, false, false] rfl rfl (by kernel_rfl) (fun _ _ _ h => h) (Or.inl ⟨by rfl, ?_⟩) ?_ ?_
      rotate_left
      · intro w'
        go_simp
        with_reducible rfl
      rotate_left
      · simp only [Act.put, List.setIfInBounds_toArray, List.set_cons_zero, List.set_cons_succ, i64_w, i32_w]
        rfl
      refine pure_ (i := 13) (N := some 31) (v := ?_) (a' := ?_) #[true, true, true, true, true, true, true, true, true, true, true, true, true, true, false, false, false, false, false, false] rfl rfl (by kernel_rfl) (fun _ _ _ h => h) (Or.inl ⟨by rfl, ?_⟩) ?_ ?_
      rotate_left
      · intro w'
        go_simp
        with_reducible rfl
      rotate_left
      · simp only [Act.put, List.setIfInBounds_toArray, List.set_cons_zero, List.set_cons_succ, i64_w, i32_w]
        rfl
      refine pure_ (i := 14) (N := some 32) (v := ?_) (a' := ?_) #[true, true, true, true, true, true, true, true, true, true, true, true, true, true, true, false, false, false, false, false] rfl rfl (by kernel_rfl) (fun _ _ _ h => h) (Or.inl ⟨by rfl, ?_⟩) ?_ ?_
      rotate_left
      · intro w'
        go_simp
        with_reducible rfl
      rotate_left
      · simp only [Act.put, List.setIfInBounds_toArray, List.set_cons_zero, List.set_cons_succ, i64_w, i32_w]
        rfl
      refine one_ (i := 15) (N := some 33) #[true, true, true, true, true, true, true, true, true, true, true, true, true, true, true, true, false, false, false, false] rfl rfl (by kernel_rfl) (by decide) (fun K hK => ?_)
      obtain ⟨u1, hu1⟩ : ∃ u1, u0.alloc (.cells #[.int .i64 j.f0, .int .i64 j.f1, .string j.f3, .string val, .bool has, .int .i64 e] 51) = u1 := ⟨_, rfl⟩
      have HL1 : Aside0 (u1.heap[u0.heap.size]? = some (.cells #[.int .i64 j.f0, .int .i64 j.f1, .string j.f3, .string val, .bool has, .int .i64 e] 51 (0, 0)) ∧ Below u0.heap.size u0 u1) := ⟨by rw [← hu1]; exact ⟨heap_alloc_new u0 _, below_alloc (Below.refl _ _) _⟩⟩
      refine event_step (w1 := u1) (v := .slice (some ⟨u0.heap.size, 0, none⟩) 1 1) (by rfl) (by rw [← hu1]; go_simp; try rfl) ?_
      clear hu1
      have hS_ := hH.go HL1.out.2
      refine hK.out _ _ hS_ (fun hH1 => ?_)
      clear hS_
      clear hK K
      refine norm_ (a' := ?_) ?_ ?_
      rotate_left
      · show Act.put _ (some 33) _ = _
        simp only [Act.put, List.setIfInBounds_toArray, List.set_cons_zero, List.set_cons_succ, i64_w, i32_w]
        rfl
      refine one_ (i := 16) (N := some 34) #[true, true, true, true, true, true, true, true, true, true, true, true, true, true, true, true, true, false, false, false] rfl rfl (by kernel_rfl) (by decide) (fun K hK => ?_)
      have HO1 : Aside0 (Kd.R k51 51 u1 base (fun _ => True) (.slice s.A10 n.l10.length s.c10) n.l10) := ⟨Kd.R_below HR0.out HL1.out.2⟩
      have HSZ1 : Aside0 (base ≤ u1.heap.size) := ⟨Nat.le_trans HSZ.out HL1.out.2.size⟩
      have HLIT := Aside0.mk (lit1 (g := u0.heap.size) (k51_mk u1 ⟨j.f0, j.f1, j.f3, val, has, e⟩) HL1.out.1 rfl)
      refine Kd.R_append_rows_step k51 (Rr := k51.K u1) (w0 := u1) base (by rfl) _ _ 31 51 _ 64 rfl Try.underlying31 info51 rfl (by decide) (by decide) (.slice s.A10 n.l10.length s.c10) n.l10 [⟨j.f0, j.f1, j.f3, val, has, e⟩] _ 1 1 (fun _ => True) (fun _ => False) rfl rfl HO1.out HLIT.out (fun _ _ h => h) (fun _ h => h.elim) (fun _ _ => trivial) (Below.refl _ _) HSZ1.out HLEN.out ?_
      intro v2 u2 hO2 hb2 hg2 _
      obtain ⟨A1, c1, rfl, hq2, hC2⟩ := Kd.R_reads hO2
      rw [HM.out] at hO2 hq2 hC2 ⊢
      have HQ2 := Aside0.mk (And.intro hq2 hC2)
      have hS_ := hH1.grown hg2 (fun k hk => by have := Kd.R_base HO1.out k hk; exact Nat.lt_of_lt_of_le HGB.out this) (fun k hk => HJN.out k _ (by have h := (Kd.R_bound HO1.out).1 k hk; obtain ⟨_, _, hlt, q, hq, c, hc⟩ := h; exact ⟨hlt, q, hq, c, hc⟩) hH1)
      have HO2 := Aside0.mk hO2
      have HG2 := Aside0.mk hg2
      clear hO2 hb2 hg2 hq2 hC2
      refine hK.out _ _ hS_ (fun hH2 => ?_)
      clear hS_
      clear hK K
      refine norm_ (a' := ?_) ?_ ?_
      rotate_left
      · show Act.put _ (some 34) _ = _
        simp only [Act.put, List.setIfInBounds_toArray, List.set_cons_zero, List.set_cons_succ, i64_w, i32_w]
        rfl
      refine pure_ (i := 17) (N := some 35) (v := ?_) (a' := ?_) #[true, true, true, true, true, true, true, true, true, true, true, true, true, true, true, true, true, true, false, false] rfl rfl (by kernel_rfl) (fun _ _ _ h => h) (Or.inl ⟨by rfl, ?_⟩) ?_ ?_
      rotate_left
      · intro w'
        go_simp
        with_reducible rfl
      rotate_left
      · simp only [Act.put, List.setIfInBounds_toArray, List.set_cons_zero, List.set_cons_succ, i64_w, i32_w]
        rfl
      refine pure_ (i := 18) (N := some 36) (v := ?_) (a' := ?_) #[true, true, true, true, true, true, true, true, true, true, true, true, true, true, true, true, true, true, true, false] rfl rfl (by kernel_rfl) (fun _ _ _ h => h) (Or.inl ⟨by rfl, ?_⟩) ?_ ?_
      rotate_left
      · intro w'
        go_simp
        with_reducible rfl
      rotate_left
      · simp only [Act.put, List.setIfInBounds_toArray, List.set_cons_zero, List.set_cons_succ, i64_w, i32_w]
        rfl
      refine last_ (i := 19) (N := none) #[true, true, true, true, true, true, true, true, true, true, true, true, true, true, true, true, true, true, true, true] rfl rfl (by kernel_rfl) (by decide) (fun K hK => ?_)
      refine store_step 31 _ _ g 10 _ #[.int .u64 n.a0, .int .u16 n.a1, .int .i64 n.a2, .bool n.a3, .slice s.A4 n.l4.length s.c4, .slice s.A5 n.l5.length s.c5, .slice s.A6 n.l6.length s.c6, .slice s.A7 n.l7.length s.c7, .slice s.A8 n.l8.length s.c8, .slice s.A9 n.l9.length s.c9, .slice A1 m c1, .int .u32 n.a11, .int .i64 n.a12, .int .i64 n.a13] 34 (.slice A1 m c1) [.slice A1 m c1] (by rfl) rfl rfl rfl hH2.bg rfl (by kernel_rfl) (by simp) (by simp [Value.oneCell']) (by simp) ?_
      intro u3 e3 hs3
      have HS3 := Aside0.mk hs3
      have hj3 := HS3.out.blk HGJ.out hH2.bj
      clear hs3
      refine hK.out _ _ ?_
      clear hK K
      refine norm_ (a' := ?_) ?_ ?_
      rotate_left
      · show Act.put _ (none) _ = _
        simp only [Act.put, List.setIfInBounds_toArray, List.set_cons_zero, List.set_cons_succ, i64_w, i32_w]
        rfl
      refine done_ (by kernel_rfl) ?_
      have hu3 : u3.drew.heap.size = u2.heap.size := HS3.out.size
      obtain ⟨u4, hu4⟩ : ∃ u4, u3.drew = u4 := ⟨_, rfl⟩
      have HTF2 : Aside0 (Tf 51 base g V u4) := ⟨by
        have h1 : Tf 51 base g V u1 := ((Tf.below HBW.out).trans (Tf.below HU0.out)).trans (Tf.below HL1.out.2)
        have h2 : Tf 51 base g u1 u2 := Tf.grown HG2.out (fun k hk => by
          obtain ⟨_, hb, _, q, hq, c, hc⟩ := (Kd.R_bound HO1.out).1 k hk
          have h51 : q = 51 := by
            have : q ∈ [51] := hq
            simpa using this
          rw [h51] at hc
          exact ⟨hb, c, hc⟩)
        rw [← hu4]
        exact ((h1.trans h2).trans (Tf.sto HS3.out)).trans (Tf.below ((Below.refl _ _).drew))⟩
      have HC4 : Aside0 (Kd.C k51 u4 A1 m (n.l10 ++ [(⟨j.f0, j.f1, j.f3, val, has, e⟩ : S51)])) := ⟨by
        rw [← hu4]
        have h1 : Kd.R k51 51 u3.drew base (fun k => base ≤ k) (.slice A1 m c1) (n.l10 ++ [(⟨j.f0, j.f1, j.f3, val, has, e⟩ : S51)]) := Kd.R_step (Kd.R_mono (Kd.R_bound HO2.out) (fun k hk => hk.2.1)) (fun k hk _ => HS3.out.far k (by have := HGB.out; omega))
        have h2 := (Kd.R_reads' h1).2.2
        rw [HM.out] at h2
        exact h2⟩
      have HBS4 : Aside0 (base ≤ u4.heap.size) := ⟨by rw [← hu4, hu3]; exact Nat.le_trans HSZ1.out HG2.out.size⟩
      have hmx : (if 0 < wrap64 ((m : Int) - 16) then wrap64 ((m : Int) - 16) else 0) = (lo : Int) := by
        have hw : wrap64 ((m : Int) - 16) = (m : Int) - 16 := by have := HL.out; have := HM'.out; unfold wrap64; omega
        rw [hw, ← HLO.out]; split <;> omega
      have hs3 : ToldS g gj #[.int .u64 n.a0, .int .u16 n.a1, .int .i64 n.a2, .bool n.a3, .slice s.A4 n.l4.length s.c4, .slice s.A5 n.l5.length s.c5, .slice s.A6 n.l6.length s.c6, .slice s.A7 n.l7.length s.c7, .slice s.A8 n.l8.length s.c8, .slice s.A9 n.l9.length s.c9, .slice A1 m c1, .int .u32 n.a11, .int .i64 n.a12, .int .i64 n.a13] #[.int .i64 j.f0, .int .i64 j.f1, .int .i64 j.f2, .string j.f3, .string j.f4, .int .u64 j.f5, .int .u64 j.f6.f0, .int .u16 j.f6.f1, .int .u64 j.f7.f0, .int .u16 j.f7.f1, .bool j.f8, .int .i64 j.f9, .int .i64 j.f10, .int .i64 j.f11] u3.drew := ⟨e3, hj3⟩
      have HLM : Aside0 (lo ≤ m) := ⟨by rw [← HLO.out]; omega⟩
      have HML : Aside0 (((n.l10 ++ [(⟨j.f0, j.f1, j.f3, val, has, e⟩ : S51)]).drop lo).length = m - lo) := ⟨by rw [List.length_drop, HM.out]⟩
      have HQ4 : Aside0 (m ≤ c1) := ⟨HQ2.out.1⟩
      have HCL : Aside0 (∀ V' : World, Below u4.heap.size u4 V' → Calls Try.prog 43 #[.slice (if c1 = lo then A1 else A1.map (·.add (lo * 6))) (m - lo) (c1 - lo)] V' fun e' w' => ∃ v0_ : Value, e' = .returned v0_ ∧ Kd.R k51 51 w' V'.heap.size (fun _ => True) v0_ ((n.l10 ++ [(⟨j.f0, j.f1, j.f3, val, has, e⟩ : S51)]).drop lo) ∧ Below V'.heap.size V' w') := ⟨fun V' hV => by
        have h := HC4.out
        rw [← HM.out] at h
        have h2 := Kd.C_below (Kd.C_drop (m := lo) (c := c1) h (by rw [HM.out]; exact HLM.out) (by rw [HM.out]; exact HQ4.out)) hV
        have h3 := api_Result.calls _ (c1 - lo) _ ((n.l10 ++ [(⟨j.f0, j.f1, j.f3, val, has, e⟩ : S51)]).drop lo) V' h2 (by rw [HML.out]; have := HQ4.out; omega) (by unfold api_Result.f; rw [if_pos (by rw [HML.out]; have := HL.out; have := HM'.out; omega)])
        rw [HML.out] at h3
        exact h3⟩
      have b0 : ((lo : Int) ≤ (m : Int)) = True := eq_true (by have := HLM.out; omega)
      have b1 : (lo ≤ m) = True := eq_true HLM.out
      have b2 : (0 ≤ (lo : Int)) = True := eq_true (by omega)
      have b3 : (m ≤ c1) = True := eq_true HQ4.out
      clear e3 hj3 hu3 hH hH1 hH2
      go_wp2_with fail
      refine start_ (n := 17) (S := ToldS g gj #[.int .u64 n.a0, .int .u16 n.a1, .int .i64 n.a2, .bool n.a3, .slice s.A4 n.l4.length s.c4, .slice s.A5 n.l5.length s.c5, .slice s.A6 n.l6.length s.c6, .slice s.A7 n.l7.length s.c7, .slice s.A8 n.l8.length s.c8, .slice s.A9 n.l9.length s.c9, .slice A1 m c1, .int .u32 n.a11, .int .i64 n.a12, .int .i64 n.a13] #[.int .i64 j.f0, .int .i64 j.f1, .int .i64 j.f2, .string j.f3, .string j.f4, .int .u64 j.f5, .int .u64 j.f6.f0, .int .u16 j.f6.f1, .int .u64 j.f7.f0, .int .u16 j.f7.f1, .bool j.f8, .int .i64 j.f9, .int .i64 j.f10, .int .i64 j.f11]) (ds := [16]) #[false, false, false, false, false, false, false, false, false, false, false, false, false, false, false, false, false] (by kernel_rfl) rfl rfl hs3 (fun hI => ?_)
      rw [hu4] at hI ⊢
      clear hs3 hu4
      refine pure_ (i := 0) (N := some 37) (v := ?_) (a' := ?_) #[true, false, false, false, false, false, false, false, false, false, false, false, false, false, false, false, false] rfl rfl (by kernel_rfl) (fun _ _ _ h => h) (Or.inl ⟨by rfl, ?_⟩) ?_ ?_
      rotate_left
      · intro w'
        go_simp
        with_reducible rfl
      rotate_left
      · simp only [Act.put, List.setIfInBounds_toArray, List.set_cons_zero, List.set_cons_succ, i64_w, i32_w]
        rfl
      refine pure_ (i := 1) (N := some 38) (v := ?_) (a' := ?_) #[true, true, false, false, false, false, false, false, false, false, false, false, false, false, false, false, false] rfl rfl (by kernel_rfl) (fun _ _ _ h => h) (Or.inl ⟨by rfl, ?_⟩) ?_ ?_
      rotate_left
      · intro w'
        go_simp
        with_reducible rfl
      rotate_left
      · simp only [Act.put, List.setIfInBounds_toArray, List.set_cons_zero, List.set_cons_succ, i64_w, i32_w]
        rfl
      refine pure_ (i := 2) (N := some 39) (v := ?_) (a' := ?_) #[true, true, true, false, false, false, false, false, false, false, false, false, false, false, false, false, false] rfl rfl (by kernel_rfl) (fun _ _ _ h => h) (Or.inl ⟨by rfl, ?_⟩) ?_ ?_
      rotate_left
      · intro w'
        go_simp
        with_reducible rfl
      rotate_left
      · simp only [Act.put, List.setIfInBounds_toArray, List.set_cons_zero, List.set_cons_succ, i64_w, i32_w]
        rfl
      refine pure_ (i := 3) (N := some 40) (v := ?_) (a' := ?_) #[true, true, true, true, false, false, false, false, false, false, false, false, false, false, false, false, false] rfl rfl (by kernel_rfl) (fun _ _ _ h => h) (Or.inl ⟨by rfl, ?_⟩) ?_ ?_
      rotate_left
      · intro w'
        go_simp
        with_reducible rfl
      rotate_left
      · simp only [Act.put, List.setIfInBounds_toArray, List.set_cons_zero, List.set_cons_succ, i64_w, i32_w]
        rfl
      refine take_ (i := 4) (N := some 41) (v := ?_) (a' := ?_) #[true, true, true, true, true, false, false, false, false, false, false, false, false, false, false, false, false] rfl rfl (by kernel_rfl) (fun _ _ _ h => h) (Or.inl ⟨by rfl, ?_⟩) hI ?_ ?_
      rotate_left
      · rintro w' ⟨s0, s1_⟩
        have c_ : _ = some _ := (blk_cell s0 10).trans rfl
        go_simp
        with_reducible rfl
      rotate_left
      · simp only [Act.put, List.setIfInBounds_toArray, List.set_cons_zero, List.set_cons_succ, i64_w, i32_w]
        rfl
      refine pure_ (i := 5) (N := some 42) (v := ?_) (a' := ?_) #[true, true, true, true, true, true, false, false, false, false, false, false, false, false, false, false, false] rfl rfl (by kernel_rfl) (fun _ _ _ h => h) (Or.inl ⟨by rfl, ?_⟩) ?_ ?_
      rotate_left
      · intro w'
        go_simp
        with_reducible rfl
      rotate_left
      · simp only [Act.put, List.setIfInBounds_toArray, List.set_cons_zero, List.set_cons_succ, i64_w, i32_w]
        rfl
      refine pure_ (i := 6) (N := some 43) (v := ?_) (a' := ?_) #[true, true, true, true, true, true, true, false, false, false, false, false, false, false, false, false, false] rfl rfl (by kernel_rfl) (fun _ _ _ h => h) (Or.inl ⟨by rfl, ?_⟩) ?_ ?_
      rotate_left
      · intro w'
        go_simp
        with_reducible rfl
      rotate_left
      · simp only [Act.put, List.setIfInBounds_toArray, List.set_cons_zero, List.set_cons_succ, i64_w, i32_w]
        rfl
      refine pure_ (i := 7) (N := some 44) (v := ?_) (a' := ?_) #[true, true, true, true, true, true, true, true, false, false, false, false, false, false, false, false, false] rfl rfl (by kernel_rfl) (fun _ _ _ h => h) (Or.inl ⟨by rfl, ?_⟩) ?_ ?_
      rotate_left
      · intro w'
        go_simp
        with_reducible rfl
      rotate_left
      · simp only [Act.put, List.setIfInBounds_toArray, List.set_cons_zero, List.set_cons_succ, i64_w, i32_w]
        rfl
      refine take_ (i := 8) (N := some 45) (v := ?_) (a' := ?_) #[true, true, true, true, true, true, true, true, true, false, false, false, false, false, false, false, false] rfl rfl (by kernel_rfl) (fun _ _ _ h => h) (Or.inl ⟨by rfl, ?_⟩) hI ?_ ?_
      rotate_left
      · rintro w' ⟨s0, s1_⟩
        have c_ : _ = some _ := (blk_cell s0 10).trans rfl
        go_simp
        with_reducible rfl
      rotate_left
      · simp only [Act.put, List.setIfInBounds_toArray, List.set_cons_zero, List.set_cons_succ, i64_w, i32_w]
        rfl
      refine pure_ (i := 9) (N := some 46) (v := ?_) (a' := ?_) #[true, true, true, true, true, true, true, true, true, true, false, false, false, false, false, false, false] rfl rfl (by kernel_rfl) (fun _ _ _ h => h) (Or.inl ⟨by rfl, ?_⟩) ?_ ?_
      rotate_left
      · intro w'
        go_simp
        with_reducible rfl
      rotate_left
      · simp only [Act.put, List.setIfInBounds_toArray, List.set_cons_zero, List.set_cons_succ, i64_w, i32_w]
        rfl
      refine pure_ (i := 10) (N := some 47) (v := ?_) (a' := ?_) #[true, true, true, true, true, true, true, true, true, true, true, false, false, false, false, false, false] rfl rfl (by kernel_rfl) (fun _ _ _ h => h) (Or.inl ⟨by rfl, ?_⟩) ?_ ?_
      rotate_left
      · intro w'
        go_simp
        with_reducible rfl
      rotate_left
      · simp only [Act.put, List.setIfInBounds_toArray, List.set_cons_zero, List.set_cons_succ, i64_w, i32_w]
        rfl
      refine pure_ (i := 11) (N := some 48) (v := ?_) (a' := ?_) #[true, true, true, true, true, true, true, true, true, true, true, true, false, false, false, false, false] rfl rfl (by kernel_rfl) (fun _ _ _ h => h) (Or.inl ⟨by rfl, ?_⟩) ?_ ?_
      rotate_left
      · intro w'
        go_simp
        with_reducible rfl
      rotate_left
      · simp only [Act.put, List.setIfInBounds_toArray, List.set_cons_zero, List.set_cons_succ, i64_w, i32_w]
        rfl
      refine pure_ (i := 12) (N := some 49) (v := ?_) (a' := ?_) #[true, true, true, true, true, true, true, true, true, true, true, true, true, false, false, false, false] rfl rfl (by kernel_rfl) (fun _ _ _ h => h) (Or.inl ⟨by rfl, ?_⟩) ?_ ?_
      rotate_left
      · intro w'
        go_simp
        with_reducible rfl
      rotate_left
      · simp only [Act.put, List.setIfInBounds_toArray, List.set_cons_zero, List.set_cons_succ, i64_w, i32_w]
        rfl
      refine one_ (i := 13) (N := some 50) #[true, true, true, true, true, true, true, true, true, true, true, true, true, true, false, false, false] rfl rfl (by kernel_rfl) (by decide) (fun K hK => ?_)
      refine goes_ Try.func43 (by kernel_rfl) rfl #[.slice (if c1 = lo then A1 else A1.map (·.add (lo * 6))) (m - lo) (c1 - lo)] (by rfl) rfl rfl (by (try simp only [List.map_toArray, List.map_cons, List.map_nil]); first | done | rfl) ?_
      refine (HCL.out u4 (Below.refl _ _)).mono ?_
      rintro e5 u5 ⟨v5, rfl, hR5, hb5⟩
      obtain ⟨A2, c2, rfl, _, _⟩ := Kd.R_reads hR5
      rw [HML.out] at hR5 ⊢
      refine ⟨_, rfl, ?_⟩
      have hS_ := hI.go hb5
      have HR5 := Aside0.mk hR5
      have HB5 := Aside0.mk hb5
      clear hR5 hb5
      refine hK.out _ _ hS_ (fun hI1 => ?_)
      clear hS_
      clear hK K
      refine norm_ (a' := ?_) ?_ ?_
      rotate_left
      · show Act.put _ (some 50) _ = _
        simp only [Act.put, List.setIfInBounds_toArray, List.set_cons_zero, List.set_cons_succ, i64_w, i32_w]
        rfl
      refine pure_ (i := 14) (N := some 51) (v := ?_) (a' := ?_) #[true, true, true, true, true, true, true, true, true, true, true, true, true, true, true, false, false] rfl rfl (by kernel_rfl) (fun _ _ _ h => h) (Or.inl ⟨by rfl, ?_⟩) ?_ ?_
      rotate_left
      · intro w'
        go_simp
        with_reducible rfl
      rotate_left
      · simp only [Act.put, List.setIfInBounds_toArray, List.set_cons_zero, List.set_cons_succ, i64_w, i32_w]
        rfl
      refine pure_ (i := 15) (N := some 52) (v := ?_) (a' := ?_) #[true, true, true, true, true, true, true, true, true, true, true, true, true, true, true, true, false] rfl rfl (by kernel_rfl) (fun _ _ _ h => h) (Or.inl ⟨by rfl, ?_⟩) ?_ ?_
      rotate_left
      · intro w'
        go_simp
        with_reducible rfl
      rotate_left
      · simp only [Act.put, List.setIfInBounds_toArray, List.set_cons_zero, List.set_cons_succ, i64_w, i32_w]
        rfl
      refine last_ (i := 16) (N := none) #[true, true, true, true, true, true, true, true, true, true, true, true, true, true, true, true, true] rfl rfl (by kernel_rfl) (by decide) (fun K hK => ?_)
      refine store_step 31 _ _ g 10 _ #[.int .u64 n.a0, .int .u16 n.a1, .int .i64 n.a2, .bool n.a3, .slice s.A4 n.l4.length s.c4, .slice s.A5 n.l5.length s.c5, .slice s.A6 n.l6.length s.c6, .slice s.A7 n.l7.length s.c7, .slice s.A8 n.l8.length s.c8, .slice s.A9 n.l9.length s.c9, .slice A2 (m - lo) c2, .int .u32 n.a11, .int .i64 n.a12, .int .i64 n.a13] 34 (.slice A2 (m - lo) c2) [.slice A2 (m - lo) c2] (by rfl) rfl rfl rfl hI1.bg rfl (by kernel_rfl) (by simp) (by simp [Value.oneCell']) (by simp) ?_
      intro u6 e6 hs6
      have HS6 := Aside0.mk hs6
      have E6 := Aside0.mk e6
      clear hs6 e6
      refine hK.out _ _ ?_
      clear hK K
      refine norm_ (a' := ?_) ?_ ?_
      rotate_left
      · show Act.put _ (none) _ = _
        simp only [Act.put, List.setIfInBounds_toArray, List.set_cons_zero, List.set_cons_succ, i64_w, i32_w]
        rfl
      refine done_ (by kernel_rfl) ?_
      generalize (if c1 = lo then A1 else Option.map (fun x => x.add (lo * 6)) A1) = AA
      go_wp2_with fail
      have hN : (toldN n j has val e).l10 = (n.l10 ++ [(⟨j.f0, j.f1, j.f3, val, has, e⟩ : S51)]).drop lo := by
        show toldR n j has val e = _
        rw [HT.out]
        unfold last16
        rw [HM.out, HLO.out]
      have HTF6 : Tf 51 base g V u6 := (HTF2.out.trans (Tf.below HB5.out)).trans (Tf.sto HS6.out)
      have hr6 : Kd.R k51 51 u6 base (fun _ => True) (.slice A2 (m - lo) c2) ((n.l10 ++ [(⟨j.f0, j.f1, j.f3, val, has, e⟩ : S51)]).drop lo) :=
        Kd.R_lower (Kd.R_mono (Kd.R_step (Kd.R_bound HR5.out) (fun k hk _ => HS6.out.far k (by have := hk.2.1; have := HGB.out; have := HBS4.out; omega))) (fun _ _ => trivial)) HBS4.out
      refine bodyPost_end (v := .tuple #[]) (by simp only [results, Try.f30]; go_simp) rfl ⟨rfl, A2, c2, ?_, ?_, HTF6⟩
      · show u6.heap[g]? = some (.cells #[.int .u64 n.a0, .int .u16 n.a1, .int .i64 n.a2, .bool n.a3, .slice s.A4 n.l4.length s.c4, .slice s.A5 n.l5.length s.c5, .slice s.A6 n.l6.length s.c6, .slice s.A7 n.l7.length s.c7, .slice s.A8 n.l8.length s.c8, .slice s.A9 n.l9.length s.c9, .slice A2 (toldN n j has val e).l10.length c2, .int .u32 n.a11, .int .i64 n.a12, .int .i64 n.a13] 34 (0, 0))
        rw [hN, HML.out]
        exact E6.out
      · have h := nr_told (A := A2) (c := c2) HR.out HTF6 HGB.out (l := (n.l10 ++ [(⟨j.f0, j.f1, j.f3, val, has, e⟩ : S51)]).drop lo) (by rw [HML.out]; exact hr6)
        have he : toldN n j has val e = { n with l10 := (n.l10 ++ [(⟨j.f0, j.f1, j.f3, val, has, e⟩ : S51)]).drop lo } := by rw [← hN]; rfl
        rw [he]
        exact h
  · have HT : toldN n j has val e = n := by unfold toldN toldR; rw [if_neg hk]
    have h1 : (j.f1 != 2) = true := by simp; exact fun h => hk (.inl h)
    have h2 : (j.f1 != 3) = true := by simp; exact fun h => hk (.inr h)
    rw [HT]
    have HBXG := HEG.out
    have HEG' := Aside0.mk HEG.out
    clear hk HT
    go_enter Try.func30, Try.ntmps30
    go_wp2_with fail
    refine bodyPost_ret (v := .tuple #[]) (by simp only [results, Try.f30]; go_simp) rfl ⟨rfl, s.A10, s.c10, HEG.out, ?_, Tf.below HBW.out⟩
    exact HR.out.below HBW.out
#print axioms told_ok
end Go.Proofs.Ytcnkmajengephaa.H
