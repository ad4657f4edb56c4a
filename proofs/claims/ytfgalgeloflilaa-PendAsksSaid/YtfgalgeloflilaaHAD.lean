/- Mine. Chapter 30, by hand: a node as one value; the printed contracts, turned to it. -/
import Derived.Test.YtfgalgeloflilaaPx9
import Derived.Test.YtfgalgeloflilaaPx14
import Derived.Test.YtfgalgeloflilaaPx17
import Derived.Test.YtfgalgeloflilaaPx18
import Derived.StillTailTactics
namespace Go.Proofs.Ytfgalgeloflilaa.H
open Go Go.Proofs Go.RowKit Go.Lib Go.Proofs.Ytfgalgeloflilaa.P Go.Proofs.YtfgalgeloflilaaW.PrintWords Go.Proofs.YtfgalgeloflilaaW.PrintLast Go.Proofs.YtfgalgeloflilaaW.PrintMore
set_option linter.unusedVariables false
set_option linter.unusedSimpArgs false
structure ND where
  a0 : Int
  a1 : Int
  a2 : Int
  a3 : Bool
  l4 : List S73
  l5 : List S73
  l6 : List S76
  l7 : List S48
  l8 : List S51
  l9 : List S67
  l10 : List S70
  a11 : Int
  a12 : Int
  a13 : Int
/-- Where a node's rows lie. -/
structure NA where
  (A4 A5 A6 A7 A8 A9 A10 : Option Addr)
  (c4 c5 c6 c7 c8 c9 c10 : Nat)
/-- A node's value. -/
abbrev nv (n : ND) (s : NA) : Value := .agg #[.int .u64 n.a0, .int .u16 n.a1, .int .i64 n.a2, .bool n.a3, .slice s.A4 n.l4.length s.c4, .slice s.A5 n.l5.length s.c5, .slice s.A6 n.l6.length s.c6, .slice s.A7 n.l7.length s.c7, .slice s.A8 n.l8.length s.c8, .slice s.A9 n.l9.length s.c9, .slice s.A10 n.l10.length s.c10, .int .u32 n.a11, .int .i64 n.a12, .int .i64 n.a13]
/-- A node's rows read so. -/
structure NC (w : World) (n : ND) (s : NA) : Prop where
  r4 : Kd.C k73 w s.A4 n.l4.length n.l4
  q4 : n.l4.length ≤ s.c4
  r5 : Kd.C k73 w s.A5 n.l5.length n.l5
  q5 : n.l5.length ≤ s.c5
  r6 : Kd.C k76 w s.A6 n.l6.length n.l6
  q6 : n.l6.length ≤ s.c6
  r7 : Kd.C k48 w s.A7 n.l7.length n.l7
  q7 : n.l7.length ≤ s.c7
  r8 : Kd.C k51 w s.A8 n.l8.length n.l8
  q8 : n.l8.length ≤ s.c8
  r9 : Kd.C k67 w s.A9 n.l9.length n.l9
  q9 : n.l9.length ≤ s.c9
  r10 : Kd.C k70 w s.A10 n.l10.length n.l10
  q10 : n.l10.length ≤ s.c10
theorem NC.below {w w1 : World} {n : ND} {s : NA} (h : NC w n s) (hb : Below w.heap.size w w1) : NC w1 n s :=
  ⟨Kd.C_below h.r4 hb, h.q4, Kd.C_below h.r5 hb, h.q5, Kd.C_below h.r6 hb, h.q6, Kd.C_below h.r7 hb, h.q7, Kd.C_below h.r8 hb, h.q8, Kd.C_below h.r9 hb, h.q9, Kd.C_below h.r10 hb, h.q10⟩
/-- A node's rows are its own. -/
structure NR (w : World) (base : Nat) (n : ND) (s : NA) : Prop where
  o4 : Kd.R k73 73 w base (fun _ => True) (.slice s.A4 n.l4.length s.c4) n.l4
  o5 : Kd.R k73 73 w base (fun _ => True) (.slice s.A5 n.l5.length s.c5) n.l5
  o6 : Kd.R k76 76 w base (fun _ => True) (.slice s.A6 n.l6.length s.c6) n.l6
  o7 : Kd.R k48 48 w base (fun _ => True) (.slice s.A7 n.l7.length s.c7) n.l7
  o8 : Kd.R k51 51 w base (fun _ => True) (.slice s.A8 n.l8.length s.c8) n.l8
  o9 : Kd.R k67 67 w base (fun _ => True) (.slice s.A9 n.l9.length s.c9) n.l9
  o10 : Kd.R k70 70 w base (fun _ => True) (.slice s.A10 n.l10.length s.c10) n.l10
theorem NR.below {w w1 : World} {base : Nat} {n : ND} {s : NA} (h : NR w base n s) (hb : Below w.heap.size w w1) : NR w1 base n s :=
  ⟨Kd.R_below h.o4 hb, Kd.R_below h.o5 hb, Kd.R_below h.o6 hb, Kd.R_below h.o7 hb, Kd.R_below h.o8 hb, Kd.R_below h.o9 hb, Kd.R_below h.o10 hb⟩
theorem NR.reads {w : World} {base : Nat} {n : ND} {s : NA} (h : NR w base n s) : NC w n s :=
  ⟨(Kd.R_reads' h.o4).2.2, (Kd.R_reads' h.o4).2.1, (Kd.R_reads' h.o5).2.2, (Kd.R_reads' h.o5).2.1, (Kd.R_reads' h.o6).2.2, (Kd.R_reads' h.o6).2.1, (Kd.R_reads' h.o7).2.2, (Kd.R_reads' h.o7).2.1, (Kd.R_reads' h.o8).2.2, (Kd.R_reads' h.o8).2.1, (Kd.R_reads' h.o9).2.2, (Kd.R_reads' h.o9).2.1, (Kd.R_reads' h.o10).2.2, (Kd.R_reads' h.o10).2.1⟩
/-- Rows that are not too long for the machine. -/
structure NB (n : ND) : Prop where
  b4 : n.l4.length * 24 ≤ 140737488351232
  b5 : n.l5.length * 24 ≤ 140737488351232
  b6 : n.l6.length * 24 ≤ 140737488351232
  b7 : n.l7.length * 32 ≤ 140737488351232
  b8 : n.l8.length * 56 ≤ 140737488351232
  b9 : n.l9.length * 128 ≤ 140737488351232
  b10 : n.l10.length * 64 ≤ 140737488351232
theorem copy_f (n : ND) (hb : NB n) : pend_Copy.f n.a0 n.a1 n.a2 n.a3 n.l4 n.l5 n.l6 n.l7 n.l8 n.l9 n.l10 n.a11 n.a12 n.a13 = some (n.a0, n.a1, n.a2, n.a3, n.l4, n.l5, n.l6, n.l7, n.l8, n.l9, n.l10, n.a11, n.a12, n.a13) := by
  unfold pend_Copy.f api_Entry.f api_Finger.f api_Pair.f api_Pend.f api_Job.f api_Result.f
  rw [if_pos (by have := hb.b4; omega), if_pos (by have := hb.b5; omega), if_pos (by have := hb.b6; omega), if_pos (by have := hb.b7; omega), if_pos (by have := hb.b8; omega), if_pos (by have := hb.b9; omega), if_pos (by have := hb.b10; omega)]
  rfl
/-- A node that is made. -/
def NodeP (n : ND) (w : World) (e : Ending) (w' : World) : Prop := ∃ s, e = .returned (nv n s) ∧ NR w' w.heap.size n s ∧ Below w.heap.size w w'
set_option maxHeartbeats 2000000 in
theorem copy_ok (n : ND) (s : NA) (w : World) (h : NC w n s) (hb : NB n) : Calls Try.prog 9 #[nv n s] w (NodeP n w) := by
  refine (pend_Copy.calls n.a0 n.a1 n.a2 n.a3 s.A4 s.c4 n.l4 s.A5 s.c5 n.l5 s.A6 s.c6 n.l6 s.A7 s.c7 n.l7 s.A8 s.c8 n.l8 s.A9 s.c9 n.l9 s.A10 s.c10 n.l10 n.a11 n.a12 n.a13 n.a0 n.a1 n.a2 n.a3 n.l4 n.l5 n.l6 n.l7 n.l8 n.l9 n.l10 n.a11 n.a12 n.a13 w h.r4 h.q4 h.r5 h.q5 h.r6 h.q6 h.r7 h.q7 h.r8 h.q8 h.r9 h.q9 h.r10 h.q10 (copy_f n hb)).mono ?_
  rintro e w' ⟨v4, v5, v6, v7, v8, v9, v10, rfl, R4, R5, R6, R7, R8, R9, R10, hB⟩
  obtain ⟨A4, c4, rfl, _, _⟩ := Kd.R_reads R4
  obtain ⟨A5, c5, rfl, _, _⟩ := Kd.R_reads R5
  obtain ⟨A6, c6, rfl, _, _⟩ := Kd.R_reads R6
  obtain ⟨A7, c7, rfl, _, _⟩ := Kd.R_reads R7
  obtain ⟨A8, c8, rfl, _, _⟩ := Kd.R_reads R8
  obtain ⟨A9, c9, rfl, _, _⟩ := Kd.R_reads R9
  obtain ⟨A10, c10, rfl, _, _⟩ := Kd.R_reads R10
  exact ⟨⟨A4, A5, A6, A7, A8, A9, A10, c4, c5, c6, c7, c8, c9, c10⟩, rfl, ⟨Kd.R_mono R4 (fun _ _ => trivial), Kd.R_mono R5 (fun _ _ => trivial), Kd.R_mono R6 (fun _ _ => trivial), Kd.R_mono R7 (fun _ _ => trivial), Kd.R_mono R8 (fun _ _ => trivial), Kd.R_mono R9 (fun _ _ => trivial), Kd.R_mono R10 (fun _ _ => trivial)⟩, hB⟩
/-! #### Late -/
def lateL (n : ND) : List S51 := n.l8.filter fun x => decide (x.f5 < n.a2)
def restL (n : ND) : List S51 := n.l8.filter fun x => !decide (x.f5 < n.a2)
theorem rd_snoc (l : List S51) (j : Nat) (h : j < l.length) : l.take (j + 1) = l.take j ++ [rd_T51 l j] := by
  rw [List.take_succ_eq_append_getElem h]
  congr 2
  unfold rd_T51
  simp [List.getD_eq_getElem?_getD, h]
theorem late_l0 (n : ND) (hl : n.l8.length ≤ 100000) : ∀ (k j : Nat), j ≤ n.l8.length → n.l8.length - j < k →
    pend_Late.l0 k ((n.l8.take j).filter fun x => decide (x.f5 < n.a2)) ((n.l8.take j).filter fun x => !decide (x.f5 < n.a2)) n.l8 (n.l8.length : Int) j n.a0 n.a1 n.a2 n.a3 n.l4 n.l5 n.l6 n.l7 n.l8 n.l9 n.l10 n.a11 n.a12 n.a13 = some (n.a0, n.a1, n.a2, n.a3, n.l4, n.l5, n.l6, n.l7, restL n, n.l9, n.l10, n.a11, n.a12, n.a13, lateL n)
  | 0, j, hj, hk => by omega
  | k + 1, j, hj, hk => by
    have b1 := List.length_filter_le (fun x : S51 => decide (x.f5 < n.a2)) (n.l8.take j)
    have b2 := List.length_filter_le (fun x : S51 => !decide (x.f5 < n.a2)) (n.l8.take j)
    have b3 : (n.l8.take j).length ≤ n.l8.length := by simp; omega
    rw [pend_Late.l0]
    by_cases hlt : j < n.l8.length
    · have hw : wrap64 ((j : Int) + 1) = ((j + 1 : Nat) : Int) := by unfold wrap64; omega
      rw [if_pos (by omega), if_pos (by omega), if_pos (by omega), hw]
      have ih := late_l0 n hl k (j + 1) (by omega) (by omega)
      rw [rd_snoc n.l8 j hlt, List.filter_append, List.filter_append] at ih
      by_cases hc : (rd_T51 n.l8 (j : Int)).f5 < n.a2
      · rw [if_pos hc, if_pos (by omega), ← ih]
        simp [List.filter_cons, hc]
      · rw [if_neg hc, if_pos (by omega), ← ih]
        simp [List.filter_cons, hc]
    · have : j = n.l8.length := by omega
      subst this
      rw [if_neg (by omega), List.take_length]
      rfl
theorem rlate_l0 (n : ND) (hl : n.l8.length ≤ 100000) : ∀ (k j : Nat), j ≤ n.l8.length → n.l8.length - j < k →
    annuletref30_Late.l0 k ((n.l8.take j).filter fun x => decide (x.f5 < n.a2)) ((n.l8.take j).filter fun x => !decide (x.f5 < n.a2)) j n.a0 n.a1 n.a2 n.a3 n.l4 n.l5 n.l6 n.l7 n.l8 n.l9 n.l10 n.a11 n.a12 n.a13 = some (n.a0, n.a1, n.a2, n.a3, n.l4, n.l5, n.l6, n.l7, restL n, n.l9, n.l10, n.a11, n.a12, n.a13, lateL n)
  | 0, j, hj, hk => by omega
  | k + 1, j, hj, hk => by
    have b1 := List.length_filter_le (fun x : S51 => decide (x.f5 < n.a2)) (n.l8.take j)
    have b2 := List.length_filter_le (fun x : S51 => !decide (x.f5 < n.a2)) (n.l8.take j)
    have b3 : (n.l8.take j).length ≤ n.l8.length := by simp; omega
    rw [annuletref30_Late.l0]
    by_cases hlt : j < n.l8.length
    · have hw : wrap64 ((j : Int) + 1) = ((j + 1 : Nat) : Int) := by unfold wrap64; omega
      rw [if_pos (by omega), if_pos (by omega), hw]
      have ih := rlate_l0 n hl k (j + 1) (by omega) (by omega)
      rw [rd_snoc n.l8 j hlt, List.filter_append, List.filter_append] at ih
      by_cases hc : (rd_T51 n.l8 (j : Int)).f5 < n.a2
      · rw [if_pos hc, if_pos (by omega), ← ih]
        simp [List.filter_cons, hc]
      · rw [if_neg hc, if_pos (by omega), ← ih]
        simp [List.filter_cons, hc]
    · have : j = n.l8.length := by omega
      subst this
      rw [if_neg (by omega), List.take_length]
      rfl
/-- A node and a row of requests, both made. -/
def NodeLateP (n : ND) (l : List S51) (w : World) (e : Ending) (w' : World) : Prop := ∃ s A c, e = .returned (.tuple #[nv n s, .slice A l.length c]) ∧ NC w' n s ∧ l.length ≤ c ∧ Kd.C k51 w' A l.length l ∧ Below w.heap.size w w'
set_option maxHeartbeats 2000000 in
theorem late_ok (n : ND) (s : NA) (w : World) (h : NC w n s) (hb : NB n) (hl : n.l8.length ≤ 100000) : Calls Try.prog 16 #[nv n s] w (NodeLateP { n with l8 := restL n } (lateL n) w) := by
  refine (pend_Late.calls (n.l8.length + 1) n.a0 n.a1 n.a2 n.a3 s.A4 s.c4 n.l4 s.A5 s.c5 n.l5 s.A6 s.c6 n.l6 s.A7 s.c7 n.l7 s.A8 s.c8 n.l8 s.A9 s.c9 n.l9 s.A10 s.c10 n.l10 n.a11 n.a12 n.a13 n.a0 n.a1 n.a2 n.a3 n.l4 n.l5 n.l6 n.l7 (restL n) n.l9 n.l10 n.a11 n.a12 n.a13 (lateL n) w h.r4 h.q4 h.r5 h.q5 h.r6 h.q6 h.r7 h.q7 h.r8 h.q8 h.r9 h.q9 h.r10 h.q10 (by
    unfold pend_Late.f
    rw [copy_f n hb]
    exact late_l0 n hl (n.l8.length + 1) 0 (by omega) (by omega))).mono ?_
  rintro e w' ⟨v4, v5, v6, v7, v8, v9, v10, v14, rfl, R4, R5, R6, R7, R8, R9, R10, R14, hB⟩
  obtain ⟨A4, c4, rfl, q4, r4⟩ := Kd.R_reads R4
  obtain ⟨A5, c5, rfl, q5, r5⟩ := Kd.R_reads R5
  obtain ⟨A6, c6, rfl, q6, r6⟩ := Kd.R_reads R6
  obtain ⟨A7, c7, rfl, q7, r7⟩ := Kd.R_reads R7
  obtain ⟨A8, c8, rfl, q8, r8⟩ := Kd.R_reads R8
  obtain ⟨A9, c9, rfl, q9, r9⟩ := Kd.R_reads R9
  obtain ⟨A10, c10, rfl, q10, r10⟩ := Kd.R_reads R10
  obtain ⟨A14, c14, rfl, q14, r14⟩ := Kd.R_reads R14
  exact ⟨⟨A4, A5, A6, A7, A8, A9, A10, c4, c5, c6, c7, c8, c9, c10⟩, A14, c14, rfl, ⟨r4, q4, r5, q5, r6, q6, r7, q7, r8, q8, r9, q9, r10, q10⟩, q14, r14, hB⟩
-- axioms: copy_ok
-- axioms: late_ok
section
open Go Go.Proofs Go.RowKit Go.Lib Go.Proofs.Ytfgalgeloflilaa.P Go.Proofs.YtfgalgeloflilaaW.PrintWords Go.Proofs.YtfgalgeloflilaaW.PrintLast Go.Proofs.YtfgalgeloflilaaW.PrintMore
/-- To stop a walk at an operation: (refine gate_ .. rfl ?_; refine hold_ ?_). -/
theorem hold_ {p : Prop} (h : True → p) : p := h trivial
/-- A world with one block written. -/
structure Sto (w w1 : World) (g : Nat) : Prop where
  os : w1.os = w.os
  tape : w1.tape = w.tape
  output : w1.output = w.output
  size : w1.heap.size = w.heap.size
  far : ∀ k, k ≠ g → w1.heap[k]? = w.heap[k]?
theorem Sto.below {w w1 : World} {g B : Nat} (h : Sto w w1 g) (hB : B ≤ g) : Below B w w1 :=
  ⟨h.os, h.tape, h.output, Nat.le_of_eq h.size.symm, fun k hk => h.far k (by omega)⟩
theorem Sto.on {w0 w w1 : World} {g B : Nat} (h : Sto w w1 g) (hB : B ≤ g) (h0 : Below B w0 w) : Below B w0 w1 := h0.trans (h.below hB)
theorem Sto.blk {w w1 : World} {g k : Nat} {o : Obj} (h : Sto w w1 g) (hk : k ≠ g) (hb : w.heap[k]? = some o) : w1.heap[k]? = some o := (h.far k hk).trans hb
section
variable {P : Program} {ops : Array Oper} {rest : List Oper} {o : Oper} {a : Act} {Q : Exit → Act → World → Prop} {W : World} {Kc : Act → World → Prop}
theorem store_run {t : TypeId} {g o' : Nat} {cur cur' : Array Value} {e : TypeId} {u : Value} {seg : List Value} (hb : W.heap[g]? = some (.cells cur e (0, 0))) (hu : u.cells.toList = seg) (ht : (P.info? t).map (·.size) = some seg.length)
    (hfit : o' + seg.length ≤ cur.size) (h1 : ∀ q ∈ seg, q.oneCell' = true) (hc : (cur.toList.take o' ++ seg ++ cur.toList.drop (o' + seg.length)).toArray = cur') :
    ∃ w1, (Instr.storeAt t (.pointer (some ⟨g, o', none⟩)) u).run P W = .ok () w1 ∧ w1.heap[g]? = some (.cells cur' e (0, 0)) ∧ Sto W w1 g := by
  refine ⟨W.setCells g o' seg, run_store_run t u seg hb hu ht hfit h1, ?_, ?_⟩
  · obtain ⟨cur2, h3, _, h5⟩ := setCells_row seg o' W cur hb hfit
    have : cur2 = cur' := by rw [← hc, ← h5]
    rw [← this]; exact h3
  · obtain ⟨s1, s2, s3, s4⟩ := setCells_same g seg o' W
    exact ⟨s1, s2, s3, s4, fun k hk => setCells_far seg o' k hk⟩
/-- A store into a box. -/
theorem store_box (op : Op) (t : TypeId) (p x : Operand) (g o' : Nat) (cur cur' : Array Value) (e : TypeId) (u : Value) (seg : List Value) (ho : o.op = op) (hop : op = .store t p x) (hN : o.dst = none) (hgd : o.guard = none) (haddr : a.eval p = .pointer (some ⟨g, o', none⟩)) (hx : a.eval x = u)
    (hb : W.heap[g]? = some (.cells cur e (0, 0))) (hu : u.cells.toList = seg) (ht : (P.info? t).map (·.size) = some seg.length) (hfit : o' + seg.length ≤ cur.size) (h1 : ∀ q ∈ seg, q.oneCell' = true)
    (hc : (cur.toList.take o' ++ seg ++ cur.toList.drop (o' + seg.length)).toArray = cur')
    (h : ∀ w1, w1.heap[g]? = some (.cells cur' e (0, 0)) → Sto W w1 g → wpList P ops Q rest a w1) : wpList P ops Q (o :: rest) a W := by
  obtain ⟨w1, hr, h2, h3⟩ := store_run (P := P) hb hu ht hfit h1 hc
  refine wpList_plain hgd fun K hK => ?_
  unfold Oper.wp
  rw [show (execOp a.eval o).run P W = .ok .skip w1 from by simp [execOp, ho, hop, haddr, hx, hr, Result.andThen]]
  show K (a.put o.dst undef) w1
  have hput : a.put o.dst undef = a := by rw [hN]; rfl
  rw [hput]
  exact hK a w1 (h w1 h2 h3)
theorem store_step (t : TypeId) (p x : Operand) (g o' : Nat) (cur cur' : Array Value) (e : TypeId) (u : Value) (seg : List Value) (hw : Region.wanted o (yielded ops a.tmps) = true) (hop : o.op = .store t p x) (haddr : a.eval p = .pointer (some ⟨g, o', none⟩)) (hx : a.eval x = u)
    (hb : W.heap[g]? = some (.cells cur e (0, 0))) (hu : u.cells.toList = seg) (ht : (P.info? t).map (·.size) = some seg.length) (hfit : o' + seg.length ≤ cur.size) (h1 : ∀ q ∈ seg, q.oneCell' = true)
    (hc : (cur.toList.take o' ++ seg ++ cur.toList.drop (o' + seg.length)).toArray = cur')
    (h : ∀ w1, w1.heap[g]? = some (.cells cur' e (0, 0)) → Sto W w1 g → Kc (a.put o.dst undef) w1) : if Region.wanted o (yielded ops a.tmps) = true then Oper.wp P o a W Kc Q else Kc (a.put o.dst undef) W := by
  obtain ⟨w1, hr, h2, h3⟩ := store_run (P := P) hb hu ht hfit h1 hc
  rw [if_pos hw]
  unfold Oper.wp
  rw [show (execOp a.eval o).run P W = .ok .skip w1 from by simp [execOp, hop, haddr, hx, hr, Result.andThen]]
  exact h w1 h2 h3
theorem load_yields {ev : Operand → Value} {ty : TypeId} {x : Operand} {g : Nat} {t : TypeId} {cs : Array Value} {d : TypeDesc} (ho : o.op = .load ty x) (hx : ev x = .pointer (some ⟨g, 0, none⟩)) (hg : W.heap[g]? = some (.cells cs t (0, 0)))
    (hu : P.underlying ty = some d) (hd : (match d with | .struct _ | .array _ _ => true | _ => false) = true) (hi : (P.info? ty).map (·.size) = some cs.size) : (execOp ev o).run P W = .ok (.value (.agg cs)) W := by
  unfold execOp
  simp only [ho, hx, Instr.loadAt, Instr.sureAddr, Sem.run_bind, Sem.run_pure, Result.andThen_ok, Go.run_loadVar_row W g t ty cs (0, 0) d hg hu hd hi]
end
theorem NR.step {w w1 : World} {base : Nat} {n : ND} {s : NA} (h : NR w base n s) (hm : ∀ k, base ≤ k → k < w.heap.size → w1.heap[k]? = w.heap[k]?) : NR w1 base n s :=
  ⟨Kd.R_mono (Kd.R_step (Kd.R_bound h.o4) (fun k hk hlt => hm k hk.2.1 hlt)) (fun _ _ => trivial), Kd.R_mono (Kd.R_step (Kd.R_bound h.o5) (fun k hk hlt => hm k hk.2.1 hlt)) (fun _ _ => trivial), Kd.R_mono (Kd.R_step (Kd.R_bound h.o6) (fun k hk hlt => hm k hk.2.1 hlt)) (fun _ _ => trivial), Kd.R_mono (Kd.R_step (Kd.R_bound h.o7) (fun k hk hlt => hm k hk.2.1 hlt)) (fun _ _ => trivial), Kd.R_mono (Kd.R_step (Kd.R_bound h.o8) (fun k hk hlt => hm k hk.2.1 hlt)) (fun _ _ => trivial), Kd.R_mono (Kd.R_step (Kd.R_bound h.o9) (fun k hk hlt => hm k hk.2.1 hlt)) (fun _ _ => trivial), Kd.R_mono (Kd.R_step (Kd.R_bound h.o10) (fun k hk hlt => hm k hk.2.1 hlt)) (fun _ _ => trivial)⟩
end
section
open Go Go.Proofs Go.RowKit Go.Lib Go.Proofs.Ytfgalgeloflilaa.P Go.Proofs.YtfgalgeloflilaaW.PrintWords Go.Proofs.YtfgalgeloflilaaW.PrintLast Go.Proofs.YtfgalgeloflilaaW.PrintMore
structure MA where
  (A9 A10 : Option Addr)
  (c9 c10 : Nat)
abbrev mv (m : S37) (s : MA) : Value := .agg #[.int .i64 m.f0, .int .u32 m.f1, .int .u8 m.f2, .bool m.f3, .int .u64 m.f4, .string m.f5, .string m.f6, .int .u64 m.f7.f0, .int .u16 m.f7.f1, .slice s.A9 m.f8.length s.c9, .slice s.A10 m.f9.length s.c10]
structure MC (w : World) (m : S37) (s : MA) : Prop where
  r9 : Kd.C k25 w s.A9 m.f8.length m.f8
  q9 : m.f8.length ≤ s.c9
  r10 : Kd.C k48 w s.A10 m.f9.length m.f9
  q10 : m.f9.length ≤ s.c10
theorem MC.below {w w1 : World} {m : S37} {s : MA} (h : MC w m s) (hb : Below w.heap.size w w1) : MC w1 m s := ⟨Kd.C_below h.r9 hb, h.q9, Kd.C_below h.r10 hb, h.q10⟩
structure MR (w : World) (base : Nat) (ok : Nat → Prop) (m : S37) (s : MA) : Prop where
  o9 : Kd.R k25 25 w base ok (.slice s.A9 m.f8.length s.c9) m.f8
  o10 : Kd.R k48 48 w base ok (.slice s.A10 m.f9.length s.c10) m.f9
theorem MR.below {w w1 : World} {base : Nat} {ok : Nat → Prop} {m : S37} {s : MA} (h : MR w base ok m s) (hb : Below w.heap.size w w1) : MR w1 base ok m s := ⟨Kd.R_below h.o9 hb, Kd.R_below h.o10 hb⟩
theorem MR.bound {w : World} {base : Nat} {ok : Nat → Prop} {m : S37} {s : MA} (h : MR w base ok m s) : MR w base (fun k => base ≤ k ∧ k < w.heap.size) m s := ⟨Kd.R_mono (Kd.R_bound h.o9) (fun _ hk => ⟨hk.2.1, hk.2.2.1⟩), Kd.R_mono (Kd.R_bound h.o10) (fun _ hk => ⟨hk.2.1, hk.2.2.1⟩)⟩
theorem MR.step {w w1 : World} {base : Nat} {ok : Nat → Prop} {m : S37} {s : MA} (h : MR w base ok m s) (hm : ∀ k, base ≤ k → k < w.heap.size → w1.heap[k]? = w.heap[k]?) : MR w1 base ok m s := ⟨Kd.R_mono (Kd.R_step (Kd.R_bound h.o9) (fun k hk hlt => hm k hk.2.1 hlt)) (fun _ h => h.1), Kd.R_mono (Kd.R_step (Kd.R_bound h.o10) (fun k hk hlt => hm k hk.2.1 hlt)) (fun _ h => h.1)⟩
structure MB (m : S37) : Prop where
  b9 : m.f8.length * 16 ≤ 140737488351232
  b10 : m.f9.length * 32 ≤ 140737488351232
set_option maxHeartbeats 2000000 in
theorem mcopy_ok (m : S37) (s : MA) (w : World) (h : MC w m s) (hb : MB m) : Calls Try.prog 34 #[mv m s] w fun e w' => ∃ s', e = .returned (mv m s') ∧ MR w' w.heap.size (fun _ => True) m s' ∧ Below w.heap.size w w' := by
  refine (msg_Copy.calls m.f0 m.f1 m.f2 m.f3 m.f4 m.f5 m.f6 m.f7.f0 m.f7.f1 s.A9 s.c9 m.f8 s.A10 s.c10 m.f9 m.f0 m.f1 m.f2 m.f3 m.f4 m.f5 m.f6 m.f7.f0 m.f7.f1 m.f8 m.f9 w h.r9 h.q9 h.r10 h.q10 (by
    unfold msg_Copy.f api_Peer.f api_Pair.f
    rw [if_pos (by have := hb.b9; omega), if_pos (by have := hb.b10; omega)]
    rfl)).mono ?_
  rintro e w' ⟨v9, v10, rfl, R9, R10, hB⟩
  obtain ⟨A9, c9, rfl, _, _⟩ := Kd.R_reads R9
  obtain ⟨A10, c10, rfl, _, _⟩ := Kd.R_reads R10
  exact ⟨⟨A9, A10, c9, c10⟩, rfl, ⟨R9, R10⟩, hB⟩
def nowF (n : ND) : Int := if n.a2 < 0 then 0 else if n.a2 > 1099511627776 then 0 else n.a2
theorem nowF_le (n : ND) : 0 ≤ nowF n ∧ nowF n ≤ 1099511627776 := by unfold nowF; split <;> (try split) <;> omega
set_option maxHeartbeats 2000000 in
theorem now_ok (n : ND) (s : NA) (w : World) (h : NC w n s) : Calls Try.prog 25 #[nv n s] w fun e w' => e = .returned (.int .i64 (nowF n)) ∧ Below w.heap.size w w' :=
  pend_Now.calls n.a0 n.a1 n.a2 n.a3 s.A4 s.c4 n.l4 s.A5 s.c5 n.l5 s.A6 s.c6 n.l6 s.A7 s.c7 n.l7 s.A8 s.c8 n.l8 s.A9 s.c9 n.l9 s.A10 s.c10 n.l10 n.a11 n.a12 n.a13 (nowF n) w h.r4 h.q4 h.r5 h.q5 h.r6 h.q6 h.r7 h.q7 h.r8 h.q8 h.r9 h.q9 h.r10 h.q10 (by unfold pend_Now.f nowF; split <;> (try split) <;> rfl)
set_option maxHeartbeats 2000000 in
theorem rnow_ok (n : ND) (s : NA) (w : World) (h : NC w n s) : Calls Try.prog 26 #[nv n s] w fun e w' => e = .returned (.int .i64 (nowF n)) ∧ Below w.heap.size w w' :=
  annuletref30_Now.calls n.a0 n.a1 n.a2 n.a3 s.A4 s.c4 n.l4 s.A5 s.c5 n.l5 s.A6 s.c6 n.l6 s.A7 s.c7 n.l7 s.A8 s.c8 n.l8 s.A9 s.c9 n.l9 s.A10 s.c10 n.l10 n.a11 n.a12 n.a13 (nowF n) w h.r4 h.q4 h.r5 h.q5 h.r6 h.q6 h.r7 h.q7 h.r8 h.q8 h.r9 h.q9 h.r10 h.q10 (by
    unfold annuletref30_Now.f nowF
    by_cases h1 : n.a2 > 0
    · rw [if_pos h1, if_neg (show ¬ n.a2 < 0 by omega)]
      by_cases h2 : n.a2 ≤ 1099511627776
      · rw [if_pos h2, if_neg (by omega)]
      · rw [if_neg h2, if_pos (by omega)]
    · rw [if_neg h1]
      by_cases h2 : n.a2 < 0
      · rw [if_pos h2]
      · rw [if_neg h2, if_neg (by omega)]
        congr 1
        omega)
/-- What Ask makes. -/
def ridF (n : ND) : Int := IntKind.u32.wrap (n.a11 + 1)
def askPend (n : ND) (t0 t1 : Int) (m : S37) (why job : Int) : S51 := ⟨ridF n, m.f0, why, job, ⟨t0, t1⟩, nowF n + 8⟩
def askN (n : ND) (t0 t1 : Int) (m : S37) (why job : Int) : ND := if 64 ≤ n.l8.length then n else { n with a11 := ridF n, l8 := n.l8 ++ [askPend n t0 t1 m why job] }
def askO (n : ND) (t0 t1 : Int) (m : S37) : List S63 := if 64 ≤ n.l8.length then [] else [⟨⟨t0, t1⟩, { m with f1 := ridF n }⟩]
theorem lit1 {α : Type} {d : Kd α} {p : α} {w : World} {g e : Nat} {cs : List Value} {ca : Array Value} (hK : d.K w p cs) (h : w.heap[g]? = some (.cells ca e (0, 0))) (hc : ca.toList = cs) : ReadsRow (d.K w) d.sz w (some ⟨g, 0, none⟩) 1 [p] := by
  refine ⟨rfl, by decide, fun _ => ⟨_, rfl, fun j q hj => ?_⟩⟩
  rcases j with _ | j
  · cases hj
    refine ⟨cs, d.K_len hK, hK, fun i u hi => ?_⟩
    rw [Nat.zero_mul, Nat.zero_add]
    have ha : Addr.add ⟨g, 0, none⟩ i = ⟨g, i, none⟩ := by unfold Addr.add; split <;> simp_all
    rw [ha, blk_cell h i, ← Array.getElem?_toList, hc]
    exact hi
  · simp at hj
theorem grow_other {α : Type} {d : Kd α} {e : Nat} {V V' : World} {base b8 : Nat} {ok ok8 : Nat → Prop} {v v8 : Value} {xs : List α} {xs8 : List S51} (h : d.R e V base ok v xs) (h8 : Kd.R k51 51 V b8 ok8 v8 xs8) (hg : V.grownBy V' v8.ownBlock) (hne : 51 ∉ e :: d.E) : d.R e V' base (fun k => base ≤ k) v xs := by
  refine Kd.R_mono (Kd.R_step (Kd.R_bound h) (fun k hk hlt => hg.block k hlt (fun e' => ?_))) (fun _ hk => hk.2.1)
  obtain ⟨_, _, _, q, hq, c, hc⟩ := hk
  obtain ⟨_, _, _, q', hq', c', hc'⟩ := (Kd.R_bound h8).1 k e'.symm
  rw [hc] at hc'
  injection hc' with hc'
  injection hc' with _ hqq _
  have h51 : q' = 51 := by
    have : q' ∈ [51] := hq'
    simpa using this
  exact hne (by rw [← h51, ← hqq]; exact hq)
def AskS (g : Nat) (c5 c6 c7 : Array Value) (V : World) : Prop := V.heap[g]? = some (.cells c5 34 (0, 0)) ∧ V.heap[g + 1]? = some (.cells c6 25 (0, 0)) ∧ V.heap[g + 1 + 1]? = some (.cells c7 37 (0, 0))
/-- A node and a row of messages to be sent. -/
def AskP (n : ND) (l : List S63) (w : World) (e : Ending) (w' : World) : Prop := ∃ s A c, e = .returned (.tuple #[nv n s, .slice A l.length c]) ∧ NC w' n s ∧ l.length ≤ c ∧ Kd.C k63 w' A l.length l ∧ Below w.heap.size w w'
theorem alloc_size (w : World) (a : Obj) : (w.alloc a).heap.size = w.heap.size + 1 := by
  show (w.heap.push a).size = _
  simp
theorem alloc4 {w W : World} {a b c d : Obj} (h : (((w.alloc a).alloc b).alloc c).alloc d = W) : Below w.heap.size w W ∧ W.heap.size = w.heap.size + 1 + 1 + 1 + 1 ∧ W.heap[w.heap.size]? = some a ∧ W.heap[w.heap.size + 1]? = some b ∧ W.heap[w.heap.size + 1 + 1]? = some c ∧ W.heap[w.heap.size + 1 + 1 + 1]? = some d := by
  subst h
  have s1 := alloc_size w a
  have s2 := alloc_size (w.alloc a) b
  have s3 := alloc_size ((w.alloc a).alloc b) c
  have s4 := alloc_size (((w.alloc a).alloc b).alloc c) d
  have n1 := heap_alloc_new w a
  have n2 := heap_alloc_new (w.alloc a) b
  have n3 := heap_alloc_new ((w.alloc a).alloc b) c
  have n4 := heap_alloc_new (((w.alloc a).alloc b).alloc c) d
  rw [s1] at n2
  rw [s2, s1] at n3
  rw [s3, s2, s1] at n4
  refine ⟨(((below_alloc (Below.refl _ _) a).alloc (by omega) b).alloc (by omega) c).alloc (by omega) d, by omega, ?_, ?_, ?_, n4⟩
  · rw [heap_alloc_old _ d (by omega), heap_alloc_old _ c (by omega), heap_alloc_old _ b (by omega)]; exact n1
  · rw [heap_alloc_old _ d (by omega), heap_alloc_old _ c (by omega)]; exact n2
  · rw [heap_alloc_old _ d (by omega)]; exact n3
set_option maxRecDepth 100000 in
set_option maxHeartbeats 8000000 in
theorem ask_ok (n : ND) (s : NA) (t0 t1 : Int) (m : S37) (ms : MA) (why job : Int) (w : World) (h : NC w n s) (hb : NB n) (hm : MC w m ms) (hmb : MB m) :
    Calls Try.prog 10 #[nv n s, .agg #[.int .u64 t0, .int .u16 t1], mv m ms, .int .i64 why, .int .i64 job] w (AskP (askN n t0 t1 m why job) (askO n t0 t1 m) w) := by
  obtain ⟨g, hg⟩ : ∃ g, w.heap.size = g := ⟨_, rfl⟩
  obtain ⟨W, hW⟩ : ∃ W, (((w.alloc (.cells #[.int .u64 n.a0, .int .u16 n.a1, .int .i64 n.a2, .bool n.a3, .slice s.A4 n.l4.length s.c4, .slice s.A5 n.l5.length s.c5, .slice s.A6 n.l6.length s.c6, .slice s.A7 n.l7.length s.c7, .slice s.A8 n.l8.length s.c8, .slice s.A9 n.l9.length s.c9, .slice s.A10 n.l10.length s.c10, .int .u32 n.a11, .int .i64 n.a12, .int .i64 n.a13] 34)).alloc (.cells #[.int .u64 t0, .int .u16 t1] 25)).alloc (.cells #[.int .i64 m.f0, .int .u32 m.f1, .int .u8 m.f2, .bool m.f3, .int .u64 m.f4, .string m.f5, .string m.f6, .int .u64 m.f7.f0, .int .u16 m.f7.f1, .slice ms.A9 m.f8.length ms.c9, .slice ms.A10 m.f9.length ms.c10] 37)).alloc (.cells #[.int .u64 0, .int .u16 0, .int .i64 0, .bool false, .slice none 0 0, .slice none 0 0, .slice none 0 0, .slice none 0 0, .slice none 0 0, .slice none 0 0, .slice none 0 0, .int .u32 0, .int .i64 0, .int .i64 0] 34) = W := ⟨_, rfl⟩
  obtain ⟨hbW, hsW, e5, e6, e7, e10⟩ := alloc4 hW
  rw [hg] at hsW e5 e6 e7 e10
  have HCP : Aside0 (∀ V, Below w.heap.size w V → Calls Try.prog 9 #[nv n s] V (NodeP n V)) := ⟨fun V hV => copy_ok n s V (h.below hV) hb⟩
  have HM := Aside0.mk (And.intro hm hmb)
  have HBW := Aside0.mk hbW
  have HSW := Aside0.mk hsW
  have HGG := Aside0.mk hg
  have HE := Aside0.mk (And.intro e5 (And.intro e6 (And.intro e7 e10)))
  clear h hb hm hmb hbW hsW
  unfold askN askO
  by_cases hfull : 64 ≤ n.l8.length
  · rw [if_pos hfull, if_pos hfull]
    clear e6 e7 e10
    go_enter Try.func10, Try.ntmps10
    go_wp2_with (refine gate_ (.load 34 (.tmp 5)) rfl ?_; refine wpList_load_row rfl 34 _ rfl g rfl 34 _ (0, 0) _ e5 Try.underlying34 rfl (by kernel_rfl) ?_)
    refine (HCP.out W HBW.out).mono ?_
    rintro e w1 ⟨s1, rfl, hR1, hb1⟩
    have HR1 := Aside0.mk hR1
    have HB1 := Aside0.mk hb1
    have f5 := (hb1.block g (by have := HSW.out; omega)).trans HE.out.1
    have f10 := (hb1.block (g + 1 + 1 + 1) (by have := HSW.out; omega)).trans HE.out.2.2.2
    have F10 := Aside0.mk f10
    clear hR1 hb1 e5 f10 hW
    go_wp2_with (refine store_box (.store 34 (.tmp 5) (.tmp 13)) 34 _ _ g 0 _ #[.int .u64 n.a0, .int .u16 n.a1, .int .i64 n.a2, .bool n.a3, .slice s1.A4 n.l4.length s1.c4, .slice s1.A5 n.l5.length s1.c5, .slice s1.A6 n.l6.length s1.c6, .slice s1.A7 n.l7.length s1.c7, .slice s1.A8 n.l8.length s1.c8, .slice s1.A9 n.l9.length s1.c9, .slice s1.A10 n.l10.length s1.c10, .int .u32 n.a11, .int .i64 n.a12, .int .i64 n.a13] 34 _ [.int .u64 n.a0, .int .u16 n.a1, .int .i64 n.a2, .bool n.a3, .slice s1.A4 n.l4.length s1.c4, .slice s1.A5 n.l5.length s1.c5, .slice s1.A6 n.l6.length s1.c6, .slice s1.A7 n.l7.length s1.c7, .slice s1.A8 n.l8.length s1.c8, .slice s1.A9 n.l9.length s1.c9, .slice s1.A10 n.l10.length s1.c10, .int .u32 n.a11, .int .i64 n.a12, .int .i64 n.a13] rfl rfl rfl rfl rfl rfl f5 rfl (by kernel_rfl) (by simp) (by simp [Value.oneCell']) (by simp) ?_; intro w2 e5 hs2; have HS2 := Aside0.mk hs2; clear hs2 f5; refine hold_ ?_)
    intro _
    have c8 : w2.cell? ⟨g, 8, none⟩ = some (.slice s1.A8 n.l8.length s1.c8) := (blk_cell e5 8).trans rfl
    have f10 := HS2.out.blk (by omega) F10.out
    go_wp2_with (first
      | (refine gate_ (.load 34 (.tmp 5)) rfl ?_; refine wpList_load_row rfl 34 _ rfl g rfl 34 _ (0, 0) _ e5 Try.underlying34 rfl (by kernel_rfl) ?_)
      | (refine store_box (.store 34 (.tmp 10) (.tmp 18)) 34 _ _ (g + 1 + 1 + 1) 0 _ #[.int .u64 n.a0, .int .u16 n.a1, .int .i64 n.a2, .bool n.a3, .slice s1.A4 n.l4.length s1.c4, .slice s1.A5 n.l5.length s1.c5, .slice s1.A6 n.l6.length s1.c6, .slice s1.A7 n.l7.length s1.c7, .slice s1.A8 n.l8.length s1.c8, .slice s1.A9 n.l9.length s1.c9, .slice s1.A10 n.l10.length s1.c10, .int .u32 n.a11, .int .i64 n.a12, .int .i64 n.a13] 34 _ [.int .u64 n.a0, .int .u16 n.a1, .int .i64 n.a2, .bool n.a3, .slice s1.A4 n.l4.length s1.c4, .slice s1.A5 n.l5.length s1.c5, .slice s1.A6 n.l6.length s1.c6, .slice s1.A7 n.l7.length s1.c7, .slice s1.A8 n.l8.length s1.c8, .slice s1.A9 n.l9.length s1.c9, .slice s1.A10 n.l10.length s1.c10, .int .u32 n.a11, .int .i64 n.a12, .int .i64 n.a13] rfl rfl rfl rfl rfl rfl f10 rfl (by kernel_rfl) (by simp) (by simp [Value.oneCell']) (by simp) ?_; intro w3 e10 hs3; have HS3 := Aside0.mk hs3; clear hs3 f10))
    obtain ⟨y0, y1, y2, y3, y4, y5, y6, y7, y8, y9, y10, y11, y12, y13, _⟩ := box14f e10
    refine bodyPost_ret (v := .tuple #[nv n s1, .slice none 0 0]) ?hres rfl ?_
    case hres =>
      simp only [results, Try.f10]
      go_simp
    have hR3 : NR w3 W.heap.size n s1 := (HR1.out.step (fun k hk hlt => HS2.out.far k (by have := HSW.out; omega))).step (fun k hk hlt => HS3.out.far k (by have := HSW.out; omega))
    exact ⟨s1, none, 0, rfl, hR3.reads, Nat.le_refl _, ⟨rfl, by decide, fun h => absurd h (by decide)⟩, HS3.out.on (by have := HGG.out; omega) (HS2.out.on (by have := HGG.out; omega) (below_then HBW.out HBW.out.size HB1.out))⟩
  · rw [if_neg hfull, if_neg hfull]
    have HFU := Aside0.mk hfull
    go_enter Try.func10, Try.ntmps10
    go_wp2_with (refine gate_ (.load 34 (.tmp 5)) rfl ?_; refine wpList_load_row rfl 34 _ rfl g rfl 34 _ (0, 0) _ e5 Try.underlying34 rfl (by kernel_rfl) ?_)
    refine (HCP.out W HBW.out).mono ?_
    rintro e w1 ⟨s1, rfl, hR1, hb1⟩
    have HR1 := Aside0.mk hR1
    have HB1 := Aside0.mk hb1
    have f5 := (hb1.block g (by have := HSW.out; omega)).trans HE.out.1
    have f6 := (hb1.block (g + 1) (by have := HSW.out; omega)).trans HE.out.2.1
    have f7 := (hb1.block (g + 1 + 1) (by have := HSW.out; omega)).trans HE.out.2.2.1
    have f10 := (hb1.block (g + 1 + 1 + 1) (by have := HSW.out; omega)).trans HE.out.2.2.2
    have HF := Aside0.mk (And.intro f6 (And.intro f7 f10))
    clear hR1 hb1 e5 e6 e7 e10 f6 f7 f10 hW
    go_wp2_with (refine store_box (.store 34 (.tmp 5) (.tmp 13)) 34 _ _ g 0 _ #[.int .u64 n.a0, .int .u16 n.a1, .int .i64 n.a2, .bool n.a3, .slice s1.A4 n.l4.length s1.c4, .slice s1.A5 n.l5.length s1.c5, .slice s1.A6 n.l6.length s1.c6, .slice s1.A7 n.l7.length s1.c7, .slice s1.A8 n.l8.length s1.c8, .slice s1.A9 n.l9.length s1.c9, .slice s1.A10 n.l10.length s1.c10, .int .u32 n.a11, .int .i64 n.a12, .int .i64 n.a13] 34 _ [.int .u64 n.a0, .int .u16 n.a1, .int .i64 n.a2, .bool n.a3, .slice s1.A4 n.l4.length s1.c4, .slice s1.A5 n.l5.length s1.c5, .slice s1.A6 n.l6.length s1.c6, .slice s1.A7 n.l7.length s1.c7, .slice s1.A8 n.l8.length s1.c8, .slice s1.A9 n.l9.length s1.c9, .slice s1.A10 n.l10.length s1.c10, .int .u32 n.a11, .int .i64 n.a12, .int .i64 n.a13] rfl rfl rfl rfl rfl rfl f5 rfl (by kernel_rfl) (by simp) (by simp [Value.oneCell']) (by simp) ?_; intro w2 e5 hs2; have HS2 := Aside0.mk hs2; clear hs2 f5; refine hold_ ?_)
    intro _
    have c8 : w2.cell? ⟨g, 8, none⟩ = some (.slice s1.A8 n.l8.length s1.c8) := (blk_cell e5 8).trans rfl
    have c11 : w2.cell? ⟨g, 11, none⟩ = some (.int .u32 n.a11) := (blk_cell e5 11).trans rfl
    go_wp2_with (first
      | (refine store_box (.store 32 (.tmp 22) (.tmp 21)) 32 _ _ g 11 _ #[.int .u64 n.a0, .int .u16 n.a1, .int .i64 n.a2, .bool n.a3, .slice s1.A4 n.l4.length s1.c4, .slice s1.A5 n.l5.length s1.c5, .slice s1.A6 n.l6.length s1.c6, .slice s1.A7 n.l7.length s1.c7, .slice s1.A8 n.l8.length s1.c8, .slice s1.A9 n.l9.length s1.c9, .slice s1.A10 n.l10.length s1.c10, .int .u32 (ridF n), .int .i64 n.a12, .int .i64 n.a13] 34 (.int .u32 (ridF n)) [.int .u32 (ridF n)] rfl rfl rfl rfl rfl rfl e5 rfl (by kernel_rfl) (by simp) (by simp [Value.oneCell']) (by simp) ?_; intro w3 e5' hs3; have HS3 := Aside0.mk hs3; clear hs3 e5 c8 c11; have f7 := HS3.out.blk (by omega) (HS2.out.blk (by omega) HF.out.2.1))
      | (refine gate_ (.load 37 (.tmp 7)) rfl ?_; refine wpList_load_row rfl 37 _ rfl (g + 1 + 1) rfl 37 _ (0, 0) _ f7 Try.underlying37 rfl (by kernel_rfl) ?_))
    have HB03 : Aside0 (Below w.heap.size w w3) := ⟨HS3.out.on (by have := HGG.out; omega) (HS2.out.on (by have := HGG.out; omega) (below_then HBW.out HBW.out.size HB1.out))⟩
    refine (mcopy_ok m ms w3 (HM.out.1.below HB03.out) HM.out.2).mono ?_
    rintro e w4 ⟨ms2, rfl, hR4, hb4⟩
    have HR4 := Aside0.mk hR4
    have HB4 := Aside0.mk hb4
    have h34 : w3.heap.size = w1.heap.size := HS3.out.size.trans HS2.out.size
    have h1g : g + 1 + 1 + 1 < w1.heap.size := by have := HSW.out; have := HB1.out.size; omega
    have H1G := Aside0.mk (And.intro h34 h1g)
    have f7' := (hb4.block (g + 1 + 1) (by omega)).trans f7
    have e5 := (hb4.block g (by omega)).trans e5'
    have f6 := (hb4.block (g + 1) (by omega)).trans (HS3.out.blk (by omega) (HS2.out.blk (by omega) HF.out.1))
    have F6 := Aside0.mk f6
    have E5 := Aside0.mk e5
    clear hR4 hb4 h34 h1g f7 e5' f6 e5
    go_wp2_with (refine store_box (.store 37 (.tmp 7) (.tmp 24)) 37 _ _ (g + 1 + 1) 0 _ #[.int .i64 m.f0, .int .u32 m.f1, .int .u8 m.f2, .bool m.f3, .int .u64 m.f4, .string m.f5, .string m.f6, .int .u64 m.f7.f0, .int .u16 m.f7.f1, .slice ms2.A9 m.f8.length ms2.c9, .slice ms2.A10 m.f9.length ms2.c10] 37 _ [.int .i64 m.f0, .int .u32 m.f1, .int .u8 m.f2, .bool m.f3, .int .u64 m.f4, .string m.f5, .string m.f6, .int .u64 m.f7.f0, .int .u16 m.f7.f1, .slice ms2.A9 m.f8.length ms2.c9, .slice ms2.A10 m.f9.length ms2.c10] rfl rfl rfl rfl rfl rfl f7' rfl (by kernel_rfl) (by simp) (by simp [Value.oneCell']) (by simp) ?_; intro w5 f7 hs5; have HS5 := Aside0.mk hs5; clear hs5 f7'; refine hold_ ?_)
    intro _
    have c11 : w5.cell? ⟨g, 11, none⟩ = some (.int .u32 (ridF n)) := (blk_cell (HS5.out.blk (by omega) E5.out) 11).trans rfl
    go_wp2_with (refine store_box (.store 32 (.tmp 27) (.tmp 26)) 32 _ _ (g + 1 + 1) 1 _ #[.int .i64 m.f0, .int .u32 (ridF n), .int .u8 m.f2, .bool m.f3, .int .u64 m.f4, .string m.f5, .string m.f6, .int .u64 m.f7.f0, .int .u16 m.f7.f1, .slice ms2.A9 m.f8.length ms2.c9, .slice ms2.A10 m.f9.length ms2.c10] 37 (.int .u32 (ridF n)) [.int .u32 (ridF n)] rfl rfl rfl rfl rfl rfl f7 rfl (by kernel_rfl) (by simp) (by simp [Value.oneCell']) (by simp) ?_; intro w6 f7' hs6; have HS6 := Aside0.mk hs6; have F7 := Aside0.mk f7'; clear hs6 f7 f7' c11)
    have hR6 : NR w6 W.heap.size n s1 := ((((HR1.out.step (fun k hk hlt => HS2.out.far k (by have := HSW.out; omega))).step (fun k hk hlt => HS3.out.far k (by have := HSW.out; omega))).below HB4.out).step (fun k hk hlt => HS5.out.far k (by have := HSW.out; omega))).step (fun k hk hlt => HS6.out.far k (by have := HSW.out; omega))
    have hR6d : NR w6.drew W.heap.size n s1 := hR6.step (fun _ _ _ => rfl)
    have HR6 := Aside0.mk hR6d
    have HW6 : Aside0 (W.heap.size ≤ w6.drew.heap.size) := ⟨by have h1 : w6.drew.heap.size = w4.heap.size := HS6.out.size.trans HS5.out.size; have := HB4.out.size; have := H1G.out.1; have := HB1.out.size; omega⟩
    obtain ⟨nw, hnw⟩ : ∃ nw, nowF n = nw := ⟨_, rfl⟩
    have HNOW := Aside0.mk (now_ok { n with a11 := ridF n } s1 w6.drew ⟨hR6d.reads.r4, hR6d.reads.q4, hR6d.reads.r5, hR6d.reads.q5, hR6d.reads.r6, hR6d.reads.q6, hR6d.reads.r7, hR6d.reads.q7, hR6d.reads.r8, hR6d.reads.q8, hR6d.reads.r9, hR6d.reads.q9, hR6d.reads.r10, hR6d.reads.q10⟩)
    rw [show nowF { n with a11 := ridF n } = nowF n from rfl, hnw] at HNOW
    have hnl := nowF_le n
    rw [hnw] at hnl
    have hw8 : wrap64 (nw + 8) = nw + 8 := by unfold wrap64; omega
    have HNW := Aside0.mk hnw
    have HLEN : Aside0 ((n.l8.length + 1) * 56 ≤ 140737488355328) := ⟨by have := HFU.out; omega⟩
    have HSK : Aside0 (∀ V V', Below V.heap.size V V' → AskS g #[.int .u64 n.a0, .int .u16 n.a1, .int .i64 n.a2, .bool n.a3, .slice s1.A4 n.l4.length s1.c4, .slice s1.A5 n.l5.length s1.c5, .slice s1.A6 n.l6.length s1.c6, .slice s1.A7 n.l7.length s1.c7, .slice s1.A8 n.l8.length s1.c8, .slice s1.A9 n.l9.length s1.c9, .slice s1.A10 n.l10.length s1.c10, .int .u32 (ridF n), .int .i64 n.a12, .int .i64 n.a13] #[.int .u64 t0, .int .u16 t1] #[.int .i64 m.f0, .int .u32 (ridF n), .int .u8 m.f2, .bool m.f3, .int .u64 m.f4, .string m.f5, .string m.f6, .int .u64 m.f7.f0, .int .u16 m.f7.f1, .slice ms2.A9 m.f8.length ms2.c9, .slice ms2.A10 m.f9.length ms2.c10] V → AskS g #[.int .u64 n.a0, .int .u16 n.a1, .int .i64 n.a2, .bool n.a3, .slice s1.A4 n.l4.length s1.c4, .slice s1.A5 n.l5.length s1.c5, .slice s1.A6 n.l6.length s1.c6, .slice s1.A7 n.l7.length s1.c7, .slice s1.A8 n.l8.length s1.c8, .slice s1.A9 n.l9.length s1.c9, .slice s1.A10 n.l10.length s1.c10, .int .u32 (ridF n), .int .i64 n.a12, .int .i64 n.a13] #[.int .u64 t0, .int .u16 t1] #[.int .i64 m.f0, .int .u32 (ridF n), .int .u8 m.f2, .bool m.f3, .int .u64 m.f4, .string m.f5, .string m.f6, .int .u64 m.f7.f0, .int .u16 m.f7.f1, .slice ms2.A9 m.f8.length ms2.c9, .slice ms2.A10 m.f9.length ms2.c10] V') := ⟨fun V V' hb h => ⟨(hb.block _ (blk_lt h.1)).trans h.1, (hb.block _ (blk_lt h.2.1)).trans h.2.1, (hb.block _ (blk_lt h.2.2)).trans h.2.2⟩⟩
    have hob : ∀ k, (Value.slice s1.A8 n.l8.length s1.c8).ownBlock = some k → g + 1 + 1 < k := fun k hk => by have := Kd.R_base HR1.out.o8 k hk; have := HSW.out; omega
    have HSG : Aside0 (∀ V V', V.grownBy V' (Value.slice s1.A8 n.l8.length s1.c8).ownBlock → AskS g #[.int .u64 n.a0, .int .u16 n.a1, .int .i64 n.a2, .bool n.a3, .slice s1.A4 n.l4.length s1.c4, .slice s1.A5 n.l5.length s1.c5, .slice s1.A6 n.l6.length s1.c6, .slice s1.A7 n.l7.length s1.c7, .slice s1.A8 n.l8.length s1.c8, .slice s1.A9 n.l9.length s1.c9, .slice s1.A10 n.l10.length s1.c10, .int .u32 (ridF n), .int .i64 n.a12, .int .i64 n.a13] #[.int .u64 t0, .int .u16 t1] #[.int .i64 m.f0, .int .u32 (ridF n), .int .u8 m.f2, .bool m.f3, .int .u64 m.f4, .string m.f5, .string m.f6, .int .u64 m.f7.f0, .int .u16 m.f7.f1, .slice ms2.A9 m.f8.length ms2.c9, .slice ms2.A10 m.f9.length ms2.c10] V → AskS g #[.int .u64 n.a0, .int .u16 n.a1, .int .i64 n.a2, .bool n.a3, .slice s1.A4 n.l4.length s1.c4, .slice s1.A5 n.l5.length s1.c5, .slice s1.A6 n.l6.length s1.c6, .slice s1.A7 n.l7.length s1.c7, .slice s1.A8 n.l8.length s1.c8, .slice s1.A9 n.l9.length s1.c9, .slice s1.A10 n.l10.length s1.c10, .int .u32 (ridF n), .int .i64 n.a12, .int .i64 n.a13] #[.int .u64 t0, .int .u16 t1] #[.int .i64 m.f0, .int .u32 (ridF n), .int .u8 m.f2, .bool m.f3, .int .u64 m.f4, .string m.f5, .string m.f6, .int .u64 m.f7.f0, .int .u16 m.f7.f1, .slice ms2.A9 m.f8.length ms2.c9, .slice ms2.A10 m.f9.length ms2.c10] V') := ⟨fun V V' hb h => ⟨(hb.block _ (blk_lt h.1) (fun e => by have := hob _ e.symm; omega)).trans h.1, (hb.block _ (blk_lt h.2.1) (fun e => by have := hob _ e.symm; omega)).trans h.2.1, (hb.block _ (blk_lt h.2.2) (fun e => by have := hob _ e.symm; omega)).trans h.2.2⟩⟩
    clear hR6 hR6d hnw hnl hob
    have hs0 : AskS g #[.int .u64 n.a0, .int .u16 n.a1, .int .i64 n.a2, .bool n.a3, .slice s1.A4 n.l4.length s1.c4, .slice s1.A5 n.l5.length s1.c5, .slice s1.A6 n.l6.length s1.c6, .slice s1.A7 n.l7.length s1.c7, .slice s1.A8 n.l8.length s1.c8, .slice s1.A9 n.l9.length s1.c9, .slice s1.A10 n.l10.length s1.c10, .int .u32 (ridF n), .int .i64 n.a12, .int .i64 n.a13] #[.int .u64 t0, .int .u16 t1] #[.int .i64 m.f0, .int .u32 (ridF n), .int .u8 m.f2, .bool m.f3, .int .u64 m.f4, .string m.f5, .string m.f6, .int .u64 m.f7.f0, .int .u16 m.f7.f1, .slice ms2.A9 m.f8.length ms2.c9, .slice ms2.A10 m.f9.length ms2.c10] w6.drew := ⟨HS6.out.blk (by omega) (HS5.out.blk (by omega) E5.out), HS6.out.blk (by omega) (HS5.out.blk (by omega) F6.out), F7.out⟩
    refine start_ (n := 17) (S := AskS g #[.int .u64 n.a0, .int .u16 n.a1, .int .i64 n.a2, .bool n.a3, .slice s1.A4 n.l4.length s1.c4, .slice s1.A5 n.l5.length s1.c5, .slice s1.A6 n.l6.length s1.c6, .slice s1.A7 n.l7.length s1.c7, .slice s1.A8 n.l8.length s1.c8, .slice s1.A9 n.l9.length s1.c9, .slice s1.A10 n.l10.length s1.c10, .int .u32 (ridF n), .int .i64 n.a12, .int .i64 n.a13] #[.int .u64 t0, .int .u16 t1] #[.int .i64 m.f0, .int .u32 (ridF n), .int .u8 m.f2, .bool m.f3, .int .u64 m.f4, .string m.f5, .string m.f6, .int .u64 m.f7.f0, .int .u16 m.f7.f1, .slice ms2.A9 m.f8.length ms2.c9, .slice ms2.A10 m.f9.length ms2.c10]) (ds := [16]) #[false, false, false, false, false, false, false, false, false, false, false, false, false, false, false, false, false] (by kernel_rfl) rfl rfl hs0 (fun hH => ?_)
    refine pure_ (i := 0) (N := some 28) (v := ?_) (a' := ?_) #[true, false, false, false, false, false, false, false, false, false, false, false, false, false, false, false, false] rfl rfl (by kernel_rfl) (fun _ _ _ h => h) (Or.inl ⟨by rfl, ?_⟩) ?_ ?_
    rotate_left
    · intro w'
      go_simp
      with_reducible rfl
    rotate_left
    · simp only [Act.put, List.setIfInBounds_toArray, List.set_cons_zero, List.set_cons_succ, i64_w, i32_w]
      rfl
    refine take_ (i := 1) (N := some 29) (v := ?_) (a' := ?_) #[true, true, false, false, false, false, false, false, false, false, false, false, false, false, false, false, false] rfl rfl (by kernel_rfl) (fun _ _ _ h => h) (Or.inl ⟨by rfl, ?_⟩) hH ?_ ?_
    rotate_left
    · rintro w' ⟨s0, s1_, s2⟩
      have c_ : _ = some _ := (blk_cell s0 8).trans rfl
      go_simp
      with_reducible rfl
    rotate_left
    · simp only [Act.put, List.setIfInBounds_toArray, List.set_cons_zero, List.set_cons_succ, i64_w, i32_w]
      rfl
    refine pure_ (i := 2) (N := some 30) (v := ?_) (a' := ?_) #[true, true, true, false, false, false, false, false, false, false, false, false, false, false, false, false, false] rfl rfl (by kernel_rfl) (fun _ _ _ h => h) (Or.inl ⟨by rfl, ?_⟩) ?_ ?_
    rotate_left
    · intro w'
      go_simp
      with_reducible rfl
    rotate_left
    · simp only [Act.put, List.setIfInBounds_toArray, List.set_cons_zero, List.set_cons_succ, i64_w, i32_w]
      rfl
    refine take_ (i := 3) (N := some 31) (v := ?_) (a' := ?_) #[true, true, true, true, false, false, false, false, false, false, false, false, false, false, false, false, false] rfl rfl (by kernel_rfl) (fun _ _ _ h => h) (Or.inl ⟨by rfl, ?_⟩) hH ?_ ?_
    rotate_left
    · rintro w' ⟨s0, s1_, s2⟩
      have c_ : _ = some _ := (blk_cell s0 11).trans rfl
      go_simp
      with_reducible rfl
    rotate_left
    · simp only [Act.put, List.setIfInBounds_toArray, List.set_cons_zero, List.set_cons_succ, i64_w, i32_w]
      rfl
    refine pure_ (i := 4) (N := some 32) (v := ?_) (a' := ?_) #[true, true, true, true, true, false, false, false, false, false, false, false, false, false, false, false, false] rfl rfl (by kernel_rfl) (fun _ _ _ h => h) (Or.inl ⟨by rfl, ?_⟩) ?_ ?_
    rotate_left
    · intro w'
      go_simp
      with_reducible rfl
    rotate_left
    · simp only [Act.put, List.setIfInBounds_toArray, List.set_cons_zero, List.set_cons_succ, i64_w, i32_w]
      rfl
    refine take_ (i := 5) (N := some 33) (v := ?_) (a' := ?_) #[true, true, true, true, true, true, false, false, false, false, false, false, false, false, false, false, false] rfl rfl (by kernel_rfl) (fun _ _ _ h => h) (Or.inl ⟨by rfl, ?_⟩) hH ?_ ?_
    rotate_left
    · rintro w' ⟨s0, s1_, s2⟩
      have c_ : _ = some _ := (blk_cell s2 0).trans rfl
      go_simp
      with_reducible rfl
    rotate_left
    · simp only [Act.put, List.setIfInBounds_toArray, List.set_cons_zero, List.set_cons_succ, i64_w, i32_w]
      rfl
    refine pure_ (i := 6) (N := some 34) (v := ?_) (a' := ?_) #[true, true, true, true, true, true, true, false, false, false, false, false, false, false, false, false, false] rfl rfl (by kernel_rfl) (fun _ _ _ h => h) (Or.inl ⟨by rfl, ?_⟩) ?_ ?_
    rotate_left
    · intro w'
      go_simp
      with_reducible rfl
    rotate_left
    · simp only [Act.put, List.setIfInBounds_toArray, List.set_cons_zero, List.set_cons_succ, i64_w, i32_w]
      rfl
    refine pure_ (i := 7) (N := some 35) (v := ?_) (a' := ?_) #[true, true, true, true, true, true, true, true, false, false, false, false, false, false, false, false, false] rfl rfl (by kernel_rfl) (fun _ _ _ h => h) (Or.inl ⟨by rfl, ?_⟩) ?_ ?_
    rotate_left
    · intro w'
      go_simp
      with_reducible rfl
    rotate_left
    · simp only [Act.put, List.setIfInBounds_toArray, List.set_cons_zero, List.set_cons_succ, i64_w, i32_w]
      rfl
    refine take_ (i := 8) (N := some 36) (v := ?_) (a' := ?_) #[true, true, true, true, true, true, true, true, true, false, false, false, false, false, false, false, false] rfl rfl (by kernel_rfl) (fun _ _ _ h => h) (Or.inl ⟨by rfl, ?_⟩) hH ?_ ?_
    rotate_left
    · rintro w' ⟨s0, s1_, s2⟩
      refine load_yields (x := .tmp 6) ?_ ?_ s1_ Try.underlying25 rfl (by kernel_rfl)
      · rfl
      · rfl
    rotate_left
    · simp only [Act.put, List.setIfInBounds_toArray, List.set_cons_zero, List.set_cons_succ, i64_w, i32_w]
      rfl
    refine take_ (i := 9) (N := some 37) (v := ?_) (a' := ?_) #[true, true, true, true, true, true, true, true, true, true, false, false, false, false, false, false, false] rfl rfl (by kernel_rfl) (fun _ _ _ h => h) (Or.inl ⟨by rfl, ?_⟩) hH ?_ ?_
    rotate_left
    · rintro w' ⟨s0, s1_, s2⟩
      refine load_yields (x := .tmp 5) ?_ ?_ s0 Try.underlying34 rfl (by kernel_rfl)
      · rfl
      · rfl
    rotate_left
    · simp only [Act.put, List.setIfInBounds_toArray, List.set_cons_zero, List.set_cons_succ, i64_w, i32_w]
      rfl
    refine one_ (i := 10) (N := some 38) #[true, true, true, true, true, true, true, true, true, true, true, false, false, false, false, false, false] rfl rfl (by kernel_rfl) (by decide) (fun K hK => ?_)
    refine goes_ Try.func25 (by kernel_rfl) rfl #[.agg #[.int .u64 n.a0, .int .u16 n.a1, .int .i64 n.a2, .bool n.a3, .slice s1.A4 n.l4.length s1.c4, .slice s1.A5 n.l5.length s1.c5, .slice s1.A6 n.l6.length s1.c6, .slice s1.A7 n.l7.length s1.c7, .slice s1.A8 n.l8.length s1.c8, .slice s1.A9 n.l9.length s1.c9, .slice s1.A10 n.l10.length s1.c10, .int .u32 (ridF n), .int .i64 n.a12, .int .i64 n.a13]] (by rfl) rfl rfl (by (try simp only [List.map_toArray, List.map_cons, List.map_nil]); first | done | rfl) ?_
    refine HNOW.out.mono ?_
    rintro e w7 ⟨rfl, hb7⟩
    refine ⟨_, rfl, ?_⟩
    have hS_ := HSK.out _ _ hb7 hH
    have HB7 := Aside0.mk hb7
    clear hb7
    refine hK.out _ _ hS_ (fun hH1 => ?_)
    clear hS_
    clear hK K
    refine norm_ (a' := ?_) ?_ ?_
    rotate_left
    · show Act.put _ (some 38) _ = _
      simp only [Act.put, List.setIfInBounds_toArray, List.set_cons_zero, List.set_cons_succ, i64_w, i32_w]
      rfl
    refine pure_ (i := 11) (N := some 39) (v := ?_) (a' := ?_) #[true, true, true, true, true, true, true, true, true, true, true, true, false, false, false, false, false] rfl rfl (by kernel_rfl) (fun _ _ _ h => h) (Or.inl ⟨by rfl, ?_⟩) ?_ ?_
    rotate_left
    · intro w'
      go_simp
      with_reducible rfl
    rotate_left
    · simp only [Act.put, List.setIfInBounds_toArray, List.set_cons_zero, List.set_cons_succ, i64_w, i32_w]
      rfl
    refine pure_ (i := 12) (N := some 40) (v := ?_) (a' := ?_) #[true, true, true, true, true, true, true, true, true, true, true, true, true, false, false, false, false] rfl rfl (by kernel_rfl) (fun _ _ _ h => h) (Or.inl ⟨by rfl, ?_⟩) ?_ ?_
    rotate_left
    · intro w'
      go_simp
      with_reducible rfl
    rotate_left
    · simp only [Act.put, List.setIfInBounds_toArray, List.set_cons_zero, List.set_cons_succ, i64_w, i32_w]
      rfl
    refine one_ (i := 13) (N := some 41) #[true, true, true, true, true, true, true, true, true, true, true, true, true, true, false, false, false] rfl rfl (by kernel_rfl) (by decide) (fun K hK => ?_)
    obtain ⟨w8, hw8⟩ : ∃ w8, w7.alloc (.cells #[.int .u32 (ridF n), .int .i64 m.f0, .int .i64 why, .int .i64 job, .int .u64 t0, .int .u16 t1, .int .i64 (nw + 8)] 51) = w8 := ⟨_, rfl⟩
    have HL8 : Aside0 (w8.heap[w7.heap.size]? = some (.cells #[.int .u32 (ridF n), .int .i64 m.f0, .int .i64 why, .int .i64 job, .int .u64 t0, .int .u16 t1, .int .i64 (nw + 8)] 51 (0, 0)) ∧ Below w7.heap.size w7 w8) := ⟨by rw [← hw8]; exact ⟨heap_alloc_new w7 _, below_alloc (Below.refl _ _) _⟩⟩
    refine event_step (w1 := w8) (v := .slice (some ⟨w7.heap.size, 0, none⟩) 1 1) (by rfl) (by rw [← hw8]; go_simp; try rfl) ?_
    clear hw8
    have hS_ := HSK.out _ _ HL8.out.2 hH1
    refine hK.out _ _ hS_ (fun hH2 => ?_)
    clear hS_
    clear hK K
    refine norm_ (a' := ?_) ?_ ?_
    rotate_left
    · show Act.put _ (some 41) _ = _
      simp only [Act.put, List.setIfInBounds_toArray, List.set_cons_zero, List.set_cons_succ, i64_w, i32_w]
      rfl
    refine one_ (i := 14) (N := some 42) #[true, true, true, true, true, true, true, true, true, true, true, true, true, true, true, false, false] rfl rfl (by kernel_rfl) (by decide) (fun K hK => ?_)
    have HO8 : Aside0 (Kd.R k51 51 w8 W.heap.size (fun _ => True) (.slice s1.A8 n.l8.length s1.c8) n.l8) := ⟨Kd.R_below (Kd.R_below HR6.out.o8 HB7.out) HL8.out.2⟩
    have HSZ8 : Aside0 (W.heap.size ≤ w8.heap.size) := ⟨Nat.le_trans HW6.out (Nat.le_trans HB7.out.size HL8.out.2.size)⟩
    have HLIT := Aside0.mk (lit1 (g := w7.heap.size) (k51_mk w8 (askPend n t0 t1 m why job)) HL8.out.1 (by rw [← HNW.out]; rfl))
    refine Kd.R_append_rows_step k51 (Rr := k51.K w8) (w0 := w8) W.heap.size (by rfl) _ _ 29 51 _ 56 rfl Try.underlying29 info51 rfl (by decide) (by decide) (.slice s1.A8 n.l8.length s1.c8) n.l8 [askPend n t0 t1 m why job] _ 1 1 (fun _ => True) (fun _ => False) rfl rfl HO8.out HLIT.out (fun _ _ h => h) (fun _ h => h.elim) (fun _ _ => trivial) (Below.refl _ _) HSZ8.out HLEN.out ?_
    intro v9 w9 hO9 hb9 hg9 _
    obtain ⟨A9', c9', rfl, _, _⟩ := Kd.R_reads hO9
    have hS_ := HSG.out _ _ hg9 hH2
    have HO9 := Aside0.mk hO9
    have HG9 := Aside0.mk hg9
    clear hO9 hb9 hg9
    refine hK.out _ _ hS_ (fun hH3 => ?_)
    clear hS_
    clear hK K
    refine norm_ (a' := ?_) ?_ ?_
    rotate_left
    · show Act.put _ (some 42) _ = _
      simp only [Act.put, List.setIfInBounds_toArray, List.set_cons_zero, List.set_cons_succ, i64_w, i32_w]
      rfl
    refine pure_ (i := 15) (N := some 43) (v := ?_) (a' := ?_) #[true, true, true, true, true, true, true, true, true, true, true, true, true, true, true, true, false] rfl rfl (by kernel_rfl) (fun _ _ _ h => h) (Or.inl ⟨by rfl, ?_⟩) ?_ ?_
    rotate_left
    · intro w'
      go_simp
      with_reducible rfl
    rotate_left
    · simp only [Act.put, List.setIfInBounds_toArray, List.set_cons_zero, List.set_cons_succ, i64_w, i32_w]
      rfl
    refine last_ (i := 16) (N := none) #[true, true, true, true, true, true, true, true, true, true, true, true, true, true, true, true, true] rfl rfl (by kernel_rfl) (by decide) (fun K hK => ?_)
    refine store_step 29 _ _ g 8 _ #[.int .u64 n.a0, .int .u16 n.a1, .int .i64 n.a2, .bool n.a3, .slice s1.A4 n.l4.length s1.c4, .slice s1.A5 n.l5.length s1.c5, .slice s1.A6 n.l6.length s1.c6, .slice s1.A7 n.l7.length s1.c7, .slice A9' (n.l8 ++ [askPend n t0 t1 m why job]).length c9', .slice s1.A9 n.l9.length s1.c9, .slice s1.A10 n.l10.length s1.c10, .int .u32 (ridF n), .int .i64 n.a12, .int .i64 n.a13] 34 (.slice A9' (n.l8 ++ [askPend n t0 t1 m why job]).length c9') [.slice A9' (n.l8 ++ [askPend n t0 t1 m why job]).length c9'] (by rfl) rfl rfl rfl hH3.1 rfl (by kernel_rfl) (by simp) (by simp [Value.oneCell']) (by simp) ?_
    intro w10 e5 hs10
    have HS10 := Aside0.mk hs10
    clear hs10
    refine hK.out _ _ ?_
    clear hK K
    refine norm_ (a' := ?_) ?_ ?_
    rotate_left
    · show Act.put _ (none) _ = _
      simp only [Act.put, List.setIfInBounds_toArray, List.set_cons_zero, List.set_cons_succ, i64_w, i32_w]
      rfl
    refine done_ (by kernel_rfl) ?_
    obtain ⟨w11, hw11⟩ : ∃ w11, w10.drew = w11 := ⟨_, rfl⟩
    have HW11 := Aside0.mk hw11
    have hw10 : ∀ k : Nat, w11.heap[k]? = w10.heap[k]? := fun k => by rw [← hw11]; rfl
    have hs9 : AskS g #[.int .u64 n.a0, .int .u16 n.a1, .int .i64 n.a2, .bool n.a3, .slice s1.A4 n.l4.length s1.c4, .slice s1.A5 n.l5.length s1.c5, .slice s1.A6 n.l6.length s1.c6, .slice s1.A7 n.l7.length s1.c7, .slice A9' (n.l8 ++ [askPend n t0 t1 m why job]).length c9', .slice s1.A9 n.l9.length s1.c9, .slice s1.A10 n.l10.length s1.c10, .int .u32 (ridF n), .int .i64 n.a12, .int .i64 n.a13] #[.int .u64 t0, .int .u16 t1] #[.int .i64 m.f0, .int .u32 (ridF n), .int .u8 m.f2, .bool m.f3, .int .u64 m.f4, .string m.f5, .string m.f6, .int .u64 m.f7.f0, .int .u16 m.f7.f1, .slice ms2.A9 m.f8.length ms2.c9, .slice ms2.A10 m.f9.length ms2.c10] w11 := ⟨(hw10 _).trans e5, (hw10 _).trans (HS10.out.blk (by omega) hH3.2.1), (hw10 _).trans (HS10.out.blk (by omega) hH3.2.2)⟩
    have hne : ∀ k, (Value.slice s1.A8 n.l8.length s1.c8).ownBlock = some k → g + 1 + 1 + 1 < k := fun k hk => by have := Kd.R_base HR6.out.o8 k hk; have := HSW.out; omega
    have h10g : g + 1 + 1 + 1 < w4.heap.size := by have := HB4.out.size; have := H1G.out.1; have := H1G.out.2; omega
    have h10 : w6.drew.heap[g + 1 + 1 + 1]? = some (.cells #[.int .u64 0, .int .u16 0, .int .i64 0, .bool false, .slice none 0 0, .slice none 0 0, .slice none 0 0, .slice none 0 0, .slice none 0 0, .slice none 0 0, .slice none 0 0, .int .u32 0, .int .i64 0, .int .i64 0] 34 (0, 0)) := HS6.out.blk (by omega) (HS5.out.blk (by omega) ((HB4.out.block _ (by have := H1G.out.1; have := H1G.out.2; omega)).trans (HS3.out.blk (by omega) (HS2.out.blk (by omega) HF.out.2.2))))
    have h10' : w9.heap[g + 1 + 1 + 1]? = some (.cells #[.int .u64 0, .int .u16 0, .int .i64 0, .bool false, .slice none 0 0, .slice none 0 0, .slice none 0 0, .slice none 0 0, .slice none 0 0, .slice none 0 0, .slice none 0 0, .int .u32 0, .int .i64 0, .int .i64 0] 34 (0, 0)) := (HG9.out.block _ (blk_lt ((HL8.out.2.block _ (blk_lt ((HB7.out.block _ (blk_lt h10)).trans h10))).trans ((HB7.out.block _ (blk_lt h10)).trans h10))) (fun e => by have := hne _ e.symm; omega)).trans ((HL8.out.2.block _ (blk_lt ((HB7.out.block _ (blk_lt h10)).trans h10))).trans ((HB7.out.block _ (blk_lt h10)).trans h10))
    have HF10 : Aside0 (w11.heap[g + 1 + 1 + 1]? = some (.cells #[.int .u64 0, .int .u16 0, .int .i64 0, .bool false, .slice none 0 0, .slice none 0 0, .slice none 0 0, .slice none 0 0, .slice none 0 0, .slice none 0 0, .slice none 0 0, .int .u32 0, .int .i64 0, .int .i64 0] 34 (0, 0))) := ⟨(hw10 _).trans (HS10.out.blk (by omega) h10')⟩
    have HSF : Aside0 (∀ V V', Sto V V' (g + 1 + 1 + 1) → AskS g #[.int .u64 n.a0, .int .u16 n.a1, .int .i64 n.a2, .bool n.a3, .slice s1.A4 n.l4.length s1.c4, .slice s1.A5 n.l5.length s1.c5, .slice s1.A6 n.l6.length s1.c6, .slice s1.A7 n.l7.length s1.c7, .slice A9' (n.l8 ++ [askPend n t0 t1 m why job]).length c9', .slice s1.A9 n.l9.length s1.c9, .slice s1.A10 n.l10.length s1.c10, .int .u32 (ridF n), .int .i64 n.a12, .int .i64 n.a13] #[.int .u64 t0, .int .u16 t1] #[.int .i64 m.f0, .int .u32 (ridF n), .int .u8 m.f2, .bool m.f3, .int .u64 m.f4, .string m.f5, .string m.f6, .int .u64 m.f7.f0, .int .u16 m.f7.f1, .slice ms2.A9 m.f8.length ms2.c9, .slice ms2.A10 m.f9.length ms2.c10] V → AskS g #[.int .u64 n.a0, .int .u16 n.a1, .int .i64 n.a2, .bool n.a3, .slice s1.A4 n.l4.length s1.c4, .slice s1.A5 n.l5.length s1.c5, .slice s1.A6 n.l6.length s1.c6, .slice s1.A7 n.l7.length s1.c7, .slice A9' (n.l8 ++ [askPend n t0 t1 m why job]).length c9', .slice s1.A9 n.l9.length s1.c9, .slice s1.A10 n.l10.length s1.c10, .int .u32 (ridF n), .int .i64 n.a12, .int .i64 n.a13] #[.int .u64 t0, .int .u16 t1] #[.int .i64 m.f0, .int .u32 (ridF n), .int .u8 m.f2, .bool m.f3, .int .u64 m.f4, .string m.f5, .string m.f6, .int .u64 m.f7.f0, .int .u16 m.f7.f1, .slice ms2.A9 m.f8.length ms2.c9, .slice ms2.A10 m.f9.length ms2.c10] V') := ⟨fun V V' hs h => ⟨hs.blk (by omega) h.1, hs.blk (by omega) h.2.1, hs.blk (by omega) h.2.2⟩⟩
    have HSL : Aside0 (∀ V V', Below V.heap.size V V' → AskS g #[.int .u64 n.a0, .int .u16 n.a1, .int .i64 n.a2, .bool n.a3, .slice s1.A4 n.l4.length s1.c4, .slice s1.A5 n.l5.length s1.c5, .slice s1.A6 n.l6.length s1.c6, .slice s1.A7 n.l7.length s1.c7, .slice A9' (n.l8 ++ [askPend n t0 t1 m why job]).length c9', .slice s1.A9 n.l9.length s1.c9, .slice s1.A10 n.l10.length s1.c10, .int .u32 (ridF n), .int .i64 n.a12, .int .i64 n.a13] #[.int .u64 t0, .int .u16 t1] #[.int .i64 m.f0, .int .u32 (ridF n), .int .u8 m.f2, .bool m.f3, .int .u64 m.f4, .string m.f5, .string m.f6, .int .u64 m.f7.f0, .int .u16 m.f7.f1, .slice ms2.A9 m.f8.length ms2.c9, .slice ms2.A10 m.f9.length ms2.c10] V → AskS g #[.int .u64 n.a0, .int .u16 n.a1, .int .i64 n.a2, .bool n.a3, .slice s1.A4 n.l4.length s1.c4, .slice s1.A5 n.l5.length s1.c5, .slice s1.A6 n.l6.length s1.c6, .slice s1.A7 n.l7.length s1.c7, .slice A9' (n.l8 ++ [askPend n t0 t1 m why job]).length c9', .slice s1.A9 n.l9.length s1.c9, .slice s1.A10 n.l10.length s1.c10, .int .u32 (ridF n), .int .i64 n.a12, .int .i64 n.a13] #[.int .u64 t0, .int .u16 t1] #[.int .i64 m.f0, .int .u32 (ridF n), .int .u8 m.f2, .bool m.f3, .int .u64 m.f4, .string m.f5, .string m.f6, .int .u64 m.f7.f0, .int .u16 m.f7.f1, .slice ms2.A9 m.f8.length ms2.c9, .slice ms2.A10 m.f9.length ms2.c10] V') := ⟨fun V V' hb h => ⟨(hb.block _ (blk_lt h.1)).trans h.1, (hb.block _ (blk_lt h.2.1)).trans h.2.1, (hb.block _ (blk_lt h.2.2)).trans h.2.2⟩⟩
    have HLT : Aside0 (g + 1 + 1 + 1 < w11.heap.size) := ⟨blk_lt HF10.out⟩
    have HFIN : Aside0 (∀ (w13 : World) (h : Nat), (∀ k : Nat, k < w11.heap.size → k ≠ g + 1 + 1 + 1 → w13.heap[k]? = w11.heap[k]?) → Below w.heap.size w11 w13 → w13.heap[h]? = some (.cells #[.int .u64 t0, .int .u16 t1, .int .i64 m.f0, .int .u32 (ridF n), .int .u8 m.f2, .bool m.f3, .int .u64 m.f4, .string m.f5, .string m.f6, .int .u64 m.f7.f0, .int .u16 m.f7.f1, .slice ms2.A9 m.f8.length ms2.c9, .slice ms2.A10 m.f9.length ms2.c10] 63 (0, 0)) → AskP { n with a11 := ridF n, l8 := n.l8 ++ [askPend n t0 t1 m why job] } [⟨⟨t0, t1⟩, { m with f1 := ridF n }⟩] w (.returned (.tuple #[nv { n with a11 := ridF n, l8 := n.l8 ++ [askPend n t0 t1 m why job] } { s1 with A8 := A9', c8 := c9' }, .slice (some ⟨h, 0, none⟩) 1 1])) w13) := ⟨by
      intro w13 h hk13 hb13 hlit
      have r8 := (HR6.out.below HB7.out).below HL8.out.2
      have hmv : ∀ k : Nat, W.heap.size ≤ k → k < w9.heap.size → w13.heap[k]? = w9.heap[k]? := fun k h1 h2 => by
        have hsw := HSW.out
        have h3 : w11.heap.size = w9.heap.size := by rw [← HW11.out]; exact HS10.out.size
        exact (hk13 k (by omega) (by omega)).trans ((hw10 k).trans (HS10.out.far k (by omega)))
      have p4 := Kd.R_step (Kd.R_bound (grow_other r8.o4 r8.o8 HG9.out (by decide))) (fun k hk hlt => hmv k hk.2.1 hlt)
      have p5 := Kd.R_step (Kd.R_bound (grow_other r8.o5 r8.o8 HG9.out (by decide))) (fun k hk hlt => hmv k hk.2.1 hlt)
      have p6 := Kd.R_step (Kd.R_bound (grow_other r8.o6 r8.o8 HG9.out (by decide))) (fun k hk hlt => hmv k hk.2.1 hlt)
      have p7 := Kd.R_step (Kd.R_bound (grow_other r8.o7 r8.o8 HG9.out (by decide))) (fun k hk hlt => hmv k hk.2.1 hlt)
      have p9 := Kd.R_step (Kd.R_bound (grow_other r8.o9 r8.o8 HG9.out (by decide))) (fun k hk hlt => hmv k hk.2.1 hlt)
      have p10 := Kd.R_step (Kd.R_bound (grow_other r8.o10 r8.o8 HG9.out (by decide))) (fun k hk hlt => hmv k hk.2.1 hlt)
      have p8 := Kd.R_step (Kd.R_bound HO9.out) (fun k hk hlt => hmv k hk.2.1 hlt)
      have hg3 : g + 1 + 1 < w3.heap.size := by have := H1G.out.1; have := H1G.out.2; omega
      have hW3 : W.heap.size ≤ w3.heap.size := by have := H1G.out.1; have := HB1.out.size; omega
      have q6 := (HR4.out.step (fun k hk hlt => HS5.out.far k (by omega))).step (fun k hk hlt => HS6.out.far k (by omega))
      have q6d : MR w6.drew w3.heap.size (fun _ => True) m ms2 := q6.step (fun _ _ _ => rfl)
      have q8 := (q6d.below HB7.out).below HL8.out.2
      have q9 := q8.step (fun k hk hlt => HG9.out.block k hlt (fun e' => by have := Kd.R_bound HR1.out.o8; have := (this.1 k e'.symm).2.2.1; have := H1G.out.1; omega))
      have q13 := q9.step (fun k hk hlt => hmv k (by omega) hlt)
      have hb11 : Below w.heap.size w w11 := by
        have hgg := HGG.out
        have hw3 := HB03.out.size
        have a4 := below_then HB03.out hw3 HB4.out
        have a6 := HS6.out.on (B := w.heap.size) (by omega) (HS5.out.on (B := w.heap.size) (by omega) a4)
        have a6d : Below w.heap.size w w6.drew := a6.drew
        have a8 := below_then (below_then a6d a6d.size HB7.out) (Nat.le_trans a6d.size HB7.out.size) HL8.out.2
        have a9 : Below w.heap.size w w9 := ⟨HG9.out.os.trans a8.os, HG9.out.tape.trans a8.tape, HG9.out.output.trans a8.output, Nat.le_trans a8.size HG9.out.size, fun k hk => (HG9.out.block k (Nat.lt_of_lt_of_le hk a8.size) (fun e' => by have := hne _ e'.symm; omega)).trans (a8.block k hk)⟩
        rw [← HW11.out]
        exact (HS10.out.on (B := w.heap.size) (by omega) a9).drew
      refine ⟨_, some ⟨h, 0, none⟩, 1, rfl, ⟨(Kd.R_reads' p4).2.2, (Kd.R_reads' p4).2.1, (Kd.R_reads' p5).2.2, (Kd.R_reads' p5).2.1, (Kd.R_reads' p6).2.2, (Kd.R_reads' p6).2.1, (Kd.R_reads' p7).2.2, (Kd.R_reads' p7).2.1, (Kd.R_reads' p8).2.2, (Kd.R_reads' p8).2.1, (Kd.R_reads' p9).2.2, (Kd.R_reads' p9).2.1, (Kd.R_reads' p10).2.2, (Kd.R_reads' p10).2.1⟩, Nat.le_refl _, ?_, hb11.trans hb13⟩
      exact lit1 (k63_mk w13 ⟨⟨t0, t1⟩, { m with f1 := ridF n }⟩ (Kd.R_reads' q13.o9).2.1 (Kd.R_reads' q13.o9).2.2 (Kd.R_reads' q13.o10).2.1 (Kd.R_reads' q13.o10).2.2) hlit rfl⟩
    clear h10 h10' hne h10g hw10 hH hH1 hH2 hH3 e5 hs0
    go_wp2_with fail
    refine start_ (n := 7) (S := AskS g #[.int .u64 n.a0, .int .u16 n.a1, .int .i64 n.a2, .bool n.a3, .slice s1.A4 n.l4.length s1.c4, .slice s1.A5 n.l5.length s1.c5, .slice s1.A6 n.l6.length s1.c6, .slice s1.A7 n.l7.length s1.c7, .slice A9' (n.l8 ++ [askPend n t0 t1 m why job]).length c9', .slice s1.A9 n.l9.length s1.c9, .slice s1.A10 n.l10.length s1.c10, .int .u32 (ridF n), .int .i64 n.a12, .int .i64 n.a13] #[.int .u64 t0, .int .u16 t1] #[.int .i64 m.f0, .int .u32 (ridF n), .int .u8 m.f2, .bool m.f3, .int .u64 m.f4, .string m.f5, .string m.f6, .int .u64 m.f7.f0, .int .u16 m.f7.f1, .slice ms2.A9 m.f8.length ms2.c9, .slice ms2.A10 m.f9.length ms2.c10]) (ds := []) #[false, false, false, false, false, false, false] (by kernel_rfl) rfl rfl (by rw [hw11]; exact hs9) (fun hJ => ?_)
    rw [hw11] at hJ ⊢
    clear hw11 hs9
    refine take_ (i := 0) (N := some 44) (v := ?_) (a' := ?_) #[true, false, false, false, false, false, false] rfl rfl (by kernel_rfl) (fun _ _ _ h => h) (Or.inl ⟨by rfl, ?_⟩) hJ ?_ ?_
    rotate_left
    · rintro w' ⟨s0, s1_, s2⟩
      refine load_yields (x := .tmp 5) ?_ ?_ s0 Try.underlying34 rfl (by kernel_rfl)
      · rfl
      · rfl
    rotate_left
    · simp only [Act.put, List.setIfInBounds_toArray, List.set_cons_zero, List.set_cons_succ, i64_w, i32_w]
      rfl
    refine take_ (i := 1) (N := some 45) (v := ?_) (a' := ?_) #[true, true, false, false, false, false, false] rfl rfl (by kernel_rfl) (fun _ _ _ h => h) (Or.inl ⟨by rfl, ?_⟩) hJ ?_ ?_
    rotate_left
    · rintro w' ⟨s0, s1_, s2⟩
      refine load_yields (x := .tmp 6) ?_ ?_ s1_ Try.underlying25 rfl (by kernel_rfl)
      · rfl
      · rfl
    rotate_left
    · simp only [Act.put, List.setIfInBounds_toArray, List.set_cons_zero, List.set_cons_succ, i64_w, i32_w]
      rfl
    refine take_ (i := 2) (N := some 46) (v := ?_) (a' := ?_) #[true, true, true, false, false, false, false] rfl rfl (by kernel_rfl) (fun _ _ _ h => h) (Or.inl ⟨by rfl, ?_⟩) hJ ?_ ?_
    rotate_left
    · rintro w' ⟨s0, s1_, s2⟩
      refine load_yields (x := .tmp 7) ?_ ?_ s2 Try.underlying37 rfl (by kernel_rfl)
      · rfl
      · rfl
    rotate_left
    · simp only [Act.put, List.setIfInBounds_toArray, List.set_cons_zero, List.set_cons_succ, i64_w, i32_w]
      rfl
    refine pure_ (i := 3) (N := some 47) (v := ?_) (a' := ?_) #[true, true, true, true, false, false, false] rfl rfl (by kernel_rfl) (fun _ _ _ h => h) (Or.inl ⟨by rfl, ?_⟩) ?_ ?_
    rotate_left
    · intro w'
      go_simp
      with_reducible rfl
    rotate_left
    · simp only [Act.put, List.setIfInBounds_toArray, List.set_cons_zero, List.set_cons_succ, i64_w, i32_w]
      rfl
    refine two_ (i := 4) (j := 5) (Ni := some 48) (Nj := none) #[true, true, true, true, true, false, false] #[true, true, true, true, false, true, false] rfl rfl rfl rfl (by kernel_rfl) (by decide) (by decide) (fun K hK => ?_) (fun K hK => ?_)
    · obtain ⟨w12, hw12⟩ : ∃ w12, w11.alloc (.cells #[.int .u64 t0, .int .u16 t1, .int .i64 m.f0, .int .u32 (ridF n), .int .u8 m.f2, .bool m.f3, .int .u64 m.f4, .string m.f5, .string m.f6, .int .u64 m.f7.f0, .int .u16 m.f7.f1, .slice ms2.A9 m.f8.length ms2.c9, .slice ms2.A10 m.f9.length ms2.c10] 63) = w12 := ⟨_, rfl⟩
      have HL12 : Aside0 (w12.heap[w11.heap.size]? = some (.cells #[.int .u64 t0, .int .u16 t1, .int .i64 m.f0, .int .u32 (ridF n), .int .u8 m.f2, .bool m.f3, .int .u64 m.f4, .string m.f5, .string m.f6, .int .u64 m.f7.f0, .int .u16 m.f7.f1, .slice ms2.A9 m.f8.length ms2.c9, .slice ms2.A10 m.f9.length ms2.c10] 63 (0, 0)) ∧ Below w11.heap.size w11 w12) := ⟨by rw [← hw12]; exact ⟨heap_alloc_new w11 _, below_alloc (Below.refl _ _) _⟩⟩
      refine event_step (w1 := w12) (v := .slice (some ⟨w11.heap.size, 0, none⟩) 1 1) (by rfl) (by rw [← hw12]; go_simp; try rfl) ?_
      clear hw12
      have hS_ := HSL.out _ _ HL12.out.2 hJ
      refine hK.out _ _ hS_ (fun hJ_4 => ?_)
      clear hS_
      clear hK K
      refine norm_ (a' := ?_) ?_ ?_
      rotate_left
      · show Act.put _ (some 48) _ = _
        simp only [Act.put, List.setIfInBounds_toArray, List.set_cons_zero, List.set_cons_succ, i64_w, i32_w]
        rfl
      refine one_ (i := 5) (N := none) #[true, true, true, true, true, true, false] rfl rfl (by kernel_rfl) (by decide) (fun K hK => ?_)
      refine store_step 34 _ _ (g + 1 + 1 + 1) 0 _ #[.int .u64 n.a0, .int .u16 n.a1, .int .i64 n.a2, .bool n.a3, .slice s1.A4 n.l4.length s1.c4, .slice s1.A5 n.l5.length s1.c5, .slice s1.A6 n.l6.length s1.c6, .slice s1.A7 n.l7.length s1.c7, .slice A9' (n.l8 ++ [askPend n t0 t1 m why job]).length c9', .slice s1.A9 n.l9.length s1.c9, .slice s1.A10 n.l10.length s1.c10, .int .u32 (ridF n), .int .i64 n.a12, .int .i64 n.a13] 34 _ [.int .u64 n.a0, .int .u16 n.a1, .int .i64 n.a2, .bool n.a3, .slice s1.A4 n.l4.length s1.c4, .slice s1.A5 n.l5.length s1.c5, .slice s1.A6 n.l6.length s1.c6, .slice s1.A7 n.l7.length s1.c7, .slice A9' (n.l8 ++ [askPend n t0 t1 m why job]).length c9', .slice s1.A9 n.l9.length s1.c9, .slice s1.A10 n.l10.length s1.c10, .int .u32 (ridF n), .int .i64 n.a12, .int .i64 n.a13] (by rfl) rfl rfl rfl ((HL12.out.2.block _ (blk_lt HF10.out)).trans HF10.out) rfl (by kernel_rfl) (by simp) (by simp [Value.oneCell']) (by simp) ?_
      intro w13 e10 hs11
      have hS_ := HSF.out _ _ hs11 hJ_4
      have HS11 := Aside0.mk hs11
      clear hs11
      refine hK.out _ _ hS_ (fun hJ_4_5 => ?_)
      clear hS_
      clear hK K
      refine norm_ (a' := ?_) ?_ ?_
      rotate_left
      · show Act.put _ (none) _ = _
        simp only [Act.put, List.setIfInBounds_toArray, List.set_cons_zero, List.set_cons_succ, i64_w, i32_w]
        rfl
      refine pure_ (i := 6) (N := some 11) (v := ?_) (a' := ?_) #[true, true, true, true, true, true, true] rfl rfl (by kernel_rfl) (fun _ _ _ h => h) (Or.inl ⟨by rfl, ?_⟩) ?_ ?_
      rotate_left
      · intro w'
        go_simp
        with_reducible rfl
      rotate_left
      · simp only [Act.put, List.setIfInBounds_toArray, List.set_cons_zero, List.set_cons_succ, i64_w, i32_w]
        rfl
      refine done_ (by kernel_rfl) ?_
      go_wp2_with fail
      have hblk : w13.heap[g + 1 + 1 + 1]? = some (.cells #[.int .u64 n.a0, .int .u16 n.a1, .int .i64 n.a2, .bool n.a3, .slice s1.A4 n.l4.length s1.c4, .slice s1.A5 n.l5.length s1.c5, .slice s1.A6 n.l6.length s1.c6, .slice s1.A7 n.l7.length s1.c7, .slice A9' (n.l8 ++ [askPend n t0 t1 m why job]).length c9', .slice s1.A9 n.l9.length s1.c9, .slice s1.A10 n.l10.length s1.c10, .int .u32 (ridF n), .int .i64 n.a12, .int .i64 n.a13] 34 (0, 0)) := e10
      obtain ⟨y0, y1, y2, y3, y4, y5, y6, y7, y8, y9, y10, y11, y12, y13, _⟩ := box14f hblk
      refine bodyPost_ret (v := .tuple #[nv { n with a11 := ridF n, l8 := n.l8 ++ [askPend n t0 t1 m why job] } { s1 with A8 := A9', c8 := c9' }, .slice (some ⟨w11.heap.size, 0, none⟩) 1 1]) ?hres rfl ?_
      case hres =>
        simp only [results, Try.f10]
        go_simp
      have hlit : w13.heap[w11.heap.size]? = some (.cells #[.int .u64 t0, .int .u16 t1, .int .i64 m.f0, .int .u32 (ridF n), .int .u8 m.f2, .bool m.f3, .int .u64 m.f4, .string m.f5, .string m.f6, .int .u64 m.f7.f0, .int .u16 m.f7.f1, .slice ms2.A9 m.f8.length ms2.c9, .slice ms2.A10 m.f9.length ms2.c10] 63 (0, 0)) := HS11.out.blk (by have := HLT.out; omega) HL12.out.1
      have hk13 : ∀ k : Nat, k < w11.heap.size → k ≠ g + 1 + 1 + 1 → w13.heap[k]? = w11.heap[k]? := fun k hk hne => (HS11.out.far k hne).trans (HL12.out.2.block k hk)
      have hb13 : Below w.heap.size w11 w13 := (HL12.out.2.mono (by have := HLT.out; have := HGG.out; omega)).trans (HS11.out.below (by have := HGG.out; omega))
      exact HFIN.out w13 (w11.heap.size) hk13 hb13 hlit
    · refine store_step 34 _ _ (g + 1 + 1 + 1) 0 _ #[.int .u64 n.a0, .int .u16 n.a1, .int .i64 n.a2, .bool n.a3, .slice s1.A4 n.l4.length s1.c4, .slice s1.A5 n.l5.length s1.c5, .slice s1.A6 n.l6.length s1.c6, .slice s1.A7 n.l7.length s1.c7, .slice A9' (n.l8 ++ [askPend n t0 t1 m why job]).length c9', .slice s1.A9 n.l9.length s1.c9, .slice s1.A10 n.l10.length s1.c10, .int .u32 (ridF n), .int .i64 n.a12, .int .i64 n.a13] 34 _ [.int .u64 n.a0, .int .u16 n.a1, .int .i64 n.a2, .bool n.a3, .slice s1.A4 n.l4.length s1.c4, .slice s1.A5 n.l5.length s1.c5, .slice s1.A6 n.l6.length s1.c6, .slice s1.A7 n.l7.length s1.c7, .slice A9' (n.l8 ++ [askPend n t0 t1 m why job]).length c9', .slice s1.A9 n.l9.length s1.c9, .slice s1.A10 n.l10.length s1.c10, .int .u32 (ridF n), .int .i64 n.a12, .int .i64 n.a13] (by rfl) rfl rfl rfl HF10.out rfl (by kernel_rfl) (by simp) (by simp [Value.oneCell']) (by simp) ?_
      intro w12 e10 hs11
      have hS_ := HSF.out _ _ hs11 hJ
      have HS11 := Aside0.mk hs11
      clear hs11
      refine hK.out _ _ hS_ (fun hJ_5 => ?_)
      clear hS_
      clear hK K
      refine norm_ (a' := ?_) ?_ ?_
      rotate_left
      · show Act.put _ (none) _ = _
        simp only [Act.put, List.setIfInBounds_toArray, List.set_cons_zero, List.set_cons_succ, i64_w, i32_w]
        rfl
      refine one_ (i := 4) (N := some 48) #[true, true, true, true, true, true, false] rfl rfl (by kernel_rfl) (by decide) (fun K hK => ?_)
      obtain ⟨w13, hw13⟩ : ∃ w13, w12.alloc (.cells #[.int .u64 t0, .int .u16 t1, .int .i64 m.f0, .int .u32 (ridF n), .int .u8 m.f2, .bool m.f3, .int .u64 m.f4, .string m.f5, .string m.f6, .int .u64 m.f7.f0, .int .u16 m.f7.f1, .slice ms2.A9 m.f8.length ms2.c9, .slice ms2.A10 m.f9.length ms2.c10] 63) = w13 := ⟨_, rfl⟩
      have HL12 : Aside0 (w13.heap[w12.heap.size]? = some (.cells #[.int .u64 t0, .int .u16 t1, .int .i64 m.f0, .int .u32 (ridF n), .int .u8 m.f2, .bool m.f3, .int .u64 m.f4, .string m.f5, .string m.f6, .int .u64 m.f7.f0, .int .u16 m.f7.f1, .slice ms2.A9 m.f8.length ms2.c9, .slice ms2.A10 m.f9.length ms2.c10] 63 (0, 0)) ∧ Below w12.heap.size w12 w13) := ⟨by rw [← hw13]; exact ⟨heap_alloc_new w12 _, below_alloc (Below.refl _ _) _⟩⟩
      refine event_step (w1 := w13) (v := .slice (some ⟨w12.heap.size, 0, none⟩) 1 1) (by rfl) (by rw [← hw13]; go_simp; try rfl) ?_
      clear hw13
      have hS_ := HSL.out _ _ HL12.out.2 hJ_5
      refine hK.out _ _ hS_ (fun hJ_5_4 => ?_)
      clear hS_
      clear hK K
      refine norm_ (a' := ?_) ?_ ?_
      rotate_left
      · show Act.put _ (some 48) _ = _
        simp only [Act.put, List.setIfInBounds_toArray, List.set_cons_zero, List.set_cons_succ, i64_w, i32_w]
        rfl
      refine pure_ (i := 6) (N := some 11) (v := ?_) (a' := ?_) #[true, true, true, true, true, true, true] rfl rfl (by kernel_rfl) (fun _ _ _ h => h) (Or.inl ⟨by rfl, ?_⟩) ?_ ?_
      rotate_left
      · intro w'
        go_simp
        with_reducible rfl
      rotate_left
      · simp only [Act.put, List.setIfInBounds_toArray, List.set_cons_zero, List.set_cons_succ, i64_w, i32_w]
        rfl
      refine done_ (by kernel_rfl) ?_
      go_wp2_with fail
      have hblk : w13.heap[g + 1 + 1 + 1]? = some (.cells #[.int .u64 n.a0, .int .u16 n.a1, .int .i64 n.a2, .bool n.a3, .slice s1.A4 n.l4.length s1.c4, .slice s1.A5 n.l5.length s1.c5, .slice s1.A6 n.l6.length s1.c6, .slice s1.A7 n.l7.length s1.c7, .slice A9' (n.l8 ++ [askPend n t0 t1 m why job]).length c9', .slice s1.A9 n.l9.length s1.c9, .slice s1.A10 n.l10.length s1.c10, .int .u32 (ridF n), .int .i64 n.a12, .int .i64 n.a13] 34 (0, 0)) := (HL12.out.2.block _ (blk_lt e10)).trans e10
      obtain ⟨y0, y1, y2, y3, y4, y5, y6, y7, y8, y9, y10, y11, y12, y13, _⟩ := box14f hblk
      refine bodyPost_ret (v := .tuple #[nv { n with a11 := ridF n, l8 := n.l8 ++ [askPend n t0 t1 m why job] } { s1 with A8 := A9', c8 := c9' }, .slice (some ⟨w12.heap.size, 0, none⟩) 1 1]) ?hres rfl ?_
      case hres =>
        simp only [results, Try.f10]
        go_simp
      have hlit : w13.heap[w12.heap.size]? = some (.cells #[.int .u64 t0, .int .u16 t1, .int .i64 m.f0, .int .u32 (ridF n), .int .u8 m.f2, .bool m.f3, .int .u64 m.f4, .string m.f5, .string m.f6, .int .u64 m.f7.f0, .int .u16 m.f7.f1, .slice ms2.A9 m.f8.length ms2.c9, .slice ms2.A10 m.f9.length ms2.c10] 63 (0, 0)) := HL12.out.1
      have hk13 : ∀ k : Nat, k < w11.heap.size → k ≠ g + 1 + 1 + 1 → w13.heap[k]? = w11.heap[k]? := fun k hk hne => (HL12.out.2.block k (by have := HS11.out.size; omega)).trans (HS11.out.far k hne)
      have hb13 : Below w.heap.size w11 w13 := (HS11.out.below (by have := HGG.out; omega)).trans (HL12.out.2.mono (by have := HS11.out.size; have := HLT.out; have := HGG.out; omega))
      exact HFIN.out w13 (w12.heap.size) hk13 hb13 hlit
-- axioms: mcopy_ok
-- axioms: ask_ok
end
section
open Go Go.Proofs Go.RowKit Go.Lib Go.Proofs.Ytfgalgeloflilaa.P Go.Proofs.YtfgalgeloflilaaW.PrintWords Go.Proofs.YtfgalgeloflilaaW.PrintLast Go.Proofs.YtfgalgeloflilaaW.PrintMore
set_option maxRecDepth 100000 in
set_option maxHeartbeats 8000000 in
theorem rask_ok (n : ND) (s : NA) (t0 t1 : Int) (m : S37) (ms : MA) (why job : Int) (w : World) (h : NC w n s) (hm : MC w m ms) :
    Calls Try.prog 11 #[nv n s, .agg #[.int .u64 t0, .int .u16 t1], mv m ms, .int .i64 why, .int .i64 job] w (AskP (askN n t0 t1 m why job) (askO n t0 t1 m) w) := by
  obtain ⟨g, hg⟩ : ∃ g, w.heap.size = g := ⟨_, rfl⟩
  obtain ⟨W, hW⟩ : ∃ W, (((w.alloc (.cells #[.int .u64 n.a0, .int .u16 n.a1, .int .i64 n.a2, .bool n.a3, .slice s.A4 n.l4.length s.c4, .slice s.A5 n.l5.length s.c5, .slice s.A6 n.l6.length s.c6, .slice s.A7 n.l7.length s.c7, .slice s.A8 n.l8.length s.c8, .slice s.A9 n.l9.length s.c9, .slice s.A10 n.l10.length s.c10, .int .u32 n.a11, .int .i64 n.a12, .int .i64 n.a13] 34)).alloc (.cells #[.int .u64 t0, .int .u16 t1] 25)).alloc (.cells #[.int .i64 m.f0, .int .u32 m.f1, .int .u8 m.f2, .bool m.f3, .int .u64 m.f4, .string m.f5, .string m.f6, .int .u64 m.f7.f0, .int .u16 m.f7.f1, .slice ms.A9 m.f8.length ms.c9, .slice ms.A10 m.f9.length ms.c10] 37)).alloc (.cells #[.int .u64 0, .int .u16 0, .int .i64 0, .bool false, .slice none 0 0, .slice none 0 0, .slice none 0 0, .slice none 0 0, .slice none 0 0, .slice none 0 0, .slice none 0 0, .int .u32 0, .int .i64 0, .int .i64 0] 34) = W := ⟨_, rfl⟩
  obtain ⟨hbW, hsW, e5, e6, e7, e10⟩ := alloc4 hW
  rw [hg] at hsW e5 e6 e7 e10
  have HN := Aside0.mk h
  have HM := Aside0.mk hm
  have HBW := Aside0.mk hbW
  have HSW := Aside0.mk hsW
  have HGG := Aside0.mk hg
  have HE := Aside0.mk (And.intro e5 (And.intro e6 (And.intro e7 e10)))
  clear h hm hbW hsW
  unfold askN askO
  have c8 : W.cell? ⟨g, 8, none⟩ = some (.slice s.A8 n.l8.length s.c8) := (blk_cell e5 8).trans rfl
  by_cases hfull : 64 ≤ n.l8.length
  · rw [if_pos hfull, if_pos hfull]
    have hfull' : 63 < n.l8.length := by omega
    clear e6 e7
    go_enter Try.func11, Try.ntmps11
    go_wp2_with (first
      | (refine gate_ (.load 34 (.tmp 5)) rfl ?_; refine wpList_load_row rfl 34 _ rfl g rfl 34 _ (0, 0) _ e5 Try.underlying34 rfl (by kernel_rfl) ?_)
      | (refine store_box (.store 34 (.tmp 10) (.tmp 16)) 34 _ _ (g + 1 + 1 + 1) 0 _ #[.int .u64 n.a0, .int .u16 n.a1, .int .i64 n.a2, .bool n.a3, .slice s.A4 n.l4.length s.c4, .slice s.A5 n.l5.length s.c5, .slice s.A6 n.l6.length s.c6, .slice s.A7 n.l7.length s.c7, .slice s.A8 n.l8.length s.c8, .slice s.A9 n.l9.length s.c9, .slice s.A10 n.l10.length s.c10, .int .u32 n.a11, .int .i64 n.a12, .int .i64 n.a13] 34 _ [.int .u64 n.a0, .int .u16 n.a1, .int .i64 n.a2, .bool n.a3, .slice s.A4 n.l4.length s.c4, .slice s.A5 n.l5.length s.c5, .slice s.A6 n.l6.length s.c6, .slice s.A7 n.l7.length s.c7, .slice s.A8 n.l8.length s.c8, .slice s.A9 n.l9.length s.c9, .slice s.A10 n.l10.length s.c10, .int .u32 n.a11, .int .i64 n.a12, .int .i64 n.a13] rfl rfl rfl rfl rfl rfl e10 rfl (by kernel_rfl) (by simp) (by simp [Value.oneCell']) (by simp) ?_; intro w3 e10' hs3; have HS3 := Aside0.mk hs3; clear hs3 e10 hW))
    obtain ⟨y0, y1, y2, y3, y4, y5, y6, y7, y8, y9, y10, y11, y12, y13, _⟩ := box14f e10'
    refine bodyPost_ret (v := .tuple #[nv n s, .slice none 0 0]) ?hres rfl ?_
    case hres =>
      simp only [results, Try.f11]
      go_simp
    have hb3 := HS3.out.on (B := w.heap.size) (by have := HGG.out; omega) HBW.out
    exact ⟨s, none, 0, rfl, HN.out.below hb3, Nat.le_refl _, ⟨rfl, by decide, fun h => absurd h (by decide)⟩, hb3⟩
  · rw [if_neg hfull, if_neg hfull]
    have HFU := Aside0.mk hfull
    have hfull' : ¬ 63 < n.l8.length := by omega
    have c11 : W.cell? ⟨g, 11, none⟩ = some (.int .u32 n.a11) := (blk_cell e5 11).trans rfl
    go_enter Try.func11, Try.ntmps11
    go_wp2_with (refine store_box (.store 32 (.tmp 20) (.tmp 19)) 32 _ _ g 11 _ #[.int .u64 n.a0, .int .u16 n.a1, .int .i64 n.a2, .bool n.a3, .slice s.A4 n.l4.length s.c4, .slice s.A5 n.l5.length s.c5, .slice s.A6 n.l6.length s.c6, .slice s.A7 n.l7.length s.c7, .slice s.A8 n.l8.length s.c8, .slice s.A9 n.l9.length s.c9, .slice s.A10 n.l10.length s.c10, .int .u32 (ridF n), .int .i64 n.a12, .int .i64 n.a13] 34 (.int .u32 (ridF n)) [.int .u32 (ridF n)] rfl rfl rfl rfl rfl rfl e5 rfl (by kernel_rfl) (by simp) (by simp [Value.oneCell']) (by simp) ?_; intro w3 e5' hs3; have HS3 := Aside0.mk hs3; clear hs3 e5 c8 c11 hW; refine hold_ ?_)
    intro _
    have c11 : w3.cell? ⟨g, 11, none⟩ = some (.int .u32 (ridF n)) := (blk_cell e5' 11).trans rfl
    have f7 := HS3.out.blk (by omega) e7
    go_wp2_with (refine store_box (.store 32 (.tmp 23) (.tmp 22)) 32 _ _ (g + 1 + 1) 1 _ #[.int .i64 m.f0, .int .u32 (ridF n), .int .u8 m.f2, .bool m.f3, .int .u64 m.f4, .string m.f5, .string m.f6, .int .u64 m.f7.f0, .int .u16 m.f7.f1, .slice ms.A9 m.f8.length ms.c9, .slice ms.A10 m.f9.length ms.c10] 37 (.int .u32 (ridF n)) [.int .u32 (ridF n)] rfl rfl rfl rfl rfl rfl f7 rfl (by kernel_rfl) (by simp) (by simp [Value.oneCell']) (by simp) ?_; intro w3b f7' hs4; have HS4 := Aside0.mk hs4; clear hs4 f7 c11)
    obtain ⟨w4, hw4⟩ : ∃ w4, w3b.drew = w4 := ⟨_, rfl⟩
    have h4 : ∀ k : Nat, w4.heap[k]? = w3b.heap[k]? := fun k => by rw [← hw4]; rfl
    have hs0 : AskS g #[.int .u64 n.a0, .int .u16 n.a1, .int .i64 n.a2, .bool n.a3, .slice s.A4 n.l4.length s.c4, .slice s.A5 n.l5.length s.c5, .slice s.A6 n.l6.length s.c6, .slice s.A7 n.l7.length s.c7, .slice s.A8 n.l8.length s.c8, .slice s.A9 n.l9.length s.c9, .slice s.A10 n.l10.length s.c10, .int .u32 (ridF n), .int .i64 n.a12, .int .i64 n.a13] #[.int .u64 t0, .int .u16 t1] #[.int .i64 m.f0, .int .u32 (ridF n), .int .u8 m.f2, .bool m.f3, .int .u64 m.f4, .string m.f5, .string m.f6, .int .u64 m.f7.f0, .int .u16 m.f7.f1, .slice ms.A9 m.f8.length ms.c9, .slice ms.A10 m.f9.length ms.c10] w4 := ⟨(h4 _).trans (HS4.out.blk (by omega) e5'), (h4 _).trans (HS4.out.blk (by omega) (HS3.out.blk (by omega) e6)), (h4 _).trans f7'⟩
    have HF4 : Aside0 (w4.heap[g + 1 + 1 + 1]? = some (.cells #[.int .u64 0, .int .u16 0, .int .i64 0, .bool false, .slice none 0 0, .slice none 0 0, .slice none 0 0, .slice none 0 0, .slice none 0 0, .slice none 0 0, .slice none 0 0, .int .u32 0, .int .i64 0, .int .i64 0] 34 (0, 0))) := ⟨(h4 _).trans (HS4.out.blk (by omega) (HS3.out.blk (by omega) e10))⟩
    have HB4 : Aside0 (Below w.heap.size w w4) := ⟨by rw [← hw4]; exact (HS4.out.on (by have := HGG.out; omega) (HS3.out.on (by have := HGG.out; omega) HBW.out)).drew⟩
    have HN4 : Aside0 (NC w4 n s) := ⟨HN.out.below HB4.out⟩
    have HNX : Aside0 (∀ V, Below w.heap.size w V → NC V { n with a11 := ridF n } s) := ⟨fun V hV => ⟨(HN.out.below hV).r4, (HN.out.below hV).q4, (HN.out.below hV).r5, (HN.out.below hV).q5, (HN.out.below hV).r6, (HN.out.below hV).q6, (HN.out.below hV).r7, (HN.out.below hV).q7, (HN.out.below hV).r8, (HN.out.below hV).q8, (HN.out.below hV).r9, (HN.out.below hV).q9, (HN.out.below hV).r10, (HN.out.below hV).q10⟩⟩
    have HW4 : Aside0 (W.heap.size ≤ w4.heap.size) := ⟨by rw [← hw4]; show W.heap.size ≤ w3b.heap.size; rw [HS4.out.size, HS3.out.size]; exact Nat.le_refl _⟩
    obtain ⟨nw, hnw⟩ : ∃ nw, nowF n = nw := ⟨_, rfl⟩
    have hnl := nowF_le n
    rw [hnw] at hnl
    have hw8 : wrap64 (nw + 8) = nw + 8 := by unfold wrap64; omega
    have HNW := Aside0.mk hnw
    have HLEN : Aside0 ((n.l8.length + 1) * 56 ≤ 140737488355328) := ⟨by have := HFU.out; omega⟩
    have HLEN0 : Aside0 ((([] : List S51).length + n.l8.length) * 56 ≤ 140737488355328) := ⟨by have := HFU.out; simp only [List.length_nil]; omega⟩
    have HSK : Aside0 (∀ V V', Below V.heap.size V V' → AskS g #[.int .u64 n.a0, .int .u16 n.a1, .int .i64 n.a2, .bool n.a3, .slice s.A4 n.l4.length s.c4, .slice s.A5 n.l5.length s.c5, .slice s.A6 n.l6.length s.c6, .slice s.A7 n.l7.length s.c7, .slice s.A8 n.l8.length s.c8, .slice s.A9 n.l9.length s.c9, .slice s.A10 n.l10.length s.c10, .int .u32 (ridF n), .int .i64 n.a12, .int .i64 n.a13] #[.int .u64 t0, .int .u16 t1] #[.int .i64 m.f0, .int .u32 (ridF n), .int .u8 m.f2, .bool m.f3, .int .u64 m.f4, .string m.f5, .string m.f6, .int .u64 m.f7.f0, .int .u16 m.f7.f1, .slice ms.A9 m.f8.length ms.c9, .slice ms.A10 m.f9.length ms.c10] V → AskS g #[.int .u64 n.a0, .int .u16 n.a1, .int .i64 n.a2, .bool n.a3, .slice s.A4 n.l4.length s.c4, .slice s.A5 n.l5.length s.c5, .slice s.A6 n.l6.length s.c6, .slice s.A7 n.l7.length s.c7, .slice s.A8 n.l8.length s.c8, .slice s.A9 n.l9.length s.c9, .slice s.A10 n.l10.length s.c10, .int .u32 (ridF n), .int .i64 n.a12, .int .i64 n.a13] #[.int .u64 t0, .int .u16 t1] #[.int .i64 m.f0, .int .u32 (ridF n), .int .u8 m.f2, .bool m.f3, .int .u64 m.f4, .string m.f5, .string m.f6, .int .u64 m.f7.f0, .int .u16 m.f7.f1, .slice ms.A9 m.f8.length ms.c9, .slice ms.A10 m.f9.length ms.c10] V') := ⟨fun V V' hb h => ⟨(hb.block _ (blk_lt h.1)).trans h.1, (hb.block _ (blk_lt h.2.1)).trans h.2.1, (hb.block _ (blk_lt h.2.2)).trans h.2.2⟩⟩
    have HSG : Aside0 (∀ (V V' : World) (ob : Option Nat), V.grownBy V' ob → (∀ k, ob = some k → W.heap.size ≤ k) → AskS g #[.int .u64 n.a0, .int .u16 n.a1, .int .i64 n.a2, .bool n.a3, .slice s.A4 n.l4.length s.c4, .slice s.A5 n.l5.length s.c5, .slice s.A6 n.l6.length s.c6, .slice s.A7 n.l7.length s.c7, .slice s.A8 n.l8.length s.c8, .slice s.A9 n.l9.length s.c9, .slice s.A10 n.l10.length s.c10, .int .u32 (ridF n), .int .i64 n.a12, .int .i64 n.a13] #[.int .u64 t0, .int .u16 t1] #[.int .i64 m.f0, .int .u32 (ridF n), .int .u8 m.f2, .bool m.f3, .int .u64 m.f4, .string m.f5, .string m.f6, .int .u64 m.f7.f0, .int .u16 m.f7.f1, .slice ms.A9 m.f8.length ms.c9, .slice ms.A10 m.f9.length ms.c10] V → AskS g #[.int .u64 n.a0, .int .u16 n.a1, .int .i64 n.a2, .bool n.a3, .slice s.A4 n.l4.length s.c4, .slice s.A5 n.l5.length s.c5, .slice s.A6 n.l6.length s.c6, .slice s.A7 n.l7.length s.c7, .slice s.A8 n.l8.length s.c8, .slice s.A9 n.l9.length s.c9, .slice s.A10 n.l10.length s.c10, .int .u32 (ridF n), .int .i64 n.a12, .int .i64 n.a13] #[.int .u64 t0, .int .u16 t1] #[.int .i64 m.f0, .int .u32 (ridF n), .int .u8 m.f2, .bool m.f3, .int .u64 m.f4, .string m.f5, .string m.f6, .int .u64 m.f7.f0, .int .u16 m.f7.f1, .slice ms.A9 m.f8.length ms.c9, .slice ms.A10 m.f9.length ms.c10] V') := ⟨fun V V' ob hb hob h => by
      have hsw := HSW.out
      exact ⟨(hb.block _ (blk_lt h.1) (fun e => by have := hob _ e.symm; omega)).trans h.1, (hb.block _ (blk_lt h.2.1) (fun e => by have := hob _ e.symm; omega)).trans h.2.1, (hb.block _ (blk_lt h.2.2) (fun e => by have := hob _ e.symm; omega)).trans h.2.2⟩⟩
    have HGB : Aside0 (∀ (V V' : World) (ob : Option Nat), w.heap.size ≤ V.heap.size → V.grownBy V' ob → (∀ k, ob = some k → W.heap.size ≤ k) → Below w.heap.size w V → Below w.heap.size w V') := ⟨fun V V' ob hle hg hob hb => by
      have hbw := HBW.out.size
      exact ⟨hg.os.trans hb.os, hg.tape.trans hb.tape, hg.output.trans hb.output, Nat.le_trans hb.size hg.size, fun k hk => (hg.block k (by omega) (fun e => by have := hob _ e.symm; omega)).trans (hb.block k hk)⟩⟩
    clear hnw hnl hfull' e5' f7' e6 e7 e10 h4
    refine start_ (n := 19) (S := AskS g #[.int .u64 n.a0, .int .u16 n.a1, .int .i64 n.a2, .bool n.a3, .slice s.A4 n.l4.length s.c4, .slice s.A5 n.l5.length s.c5, .slice s.A6 n.l6.length s.c6, .slice s.A7 n.l7.length s.c7, .slice s.A8 n.l8.length s.c8, .slice s.A9 n.l9.length s.c9, .slice s.A10 n.l10.length s.c10, .int .u32 (ridF n), .int .i64 n.a12, .int .i64 n.a13] #[.int .u64 t0, .int .u16 t1] #[.int .i64 m.f0, .int .u32 (ridF n), .int .u8 m.f2, .bool m.f3, .int .u64 m.f4, .string m.f5, .string m.f6, .int .u64 m.f7.f0, .int .u16 m.f7.f1, .slice ms.A9 m.f8.length ms.c9, .slice ms.A10 m.f9.length ms.c10]) (ds := [18]) #[false, false, false, false, false, false, false, false, false, false, false, false, false, false, false, false, false, false, false] (by kernel_rfl) rfl rfl (by rw [hw4]; exact hs0) (fun hH => ?_)
    rw [hw4] at hH ⊢
    clear hw4 hs0
    refine pure_ (i := 1) (N := some 25) (v := ?_) (a' := ?_) #[false, true, false, false, false, false, false, false, false, false, false, false, false, false, false, false, false, false, false] rfl rfl (by kernel_rfl) (fun _ _ _ h => h) (Or.inl ⟨by rfl, ?_⟩) ?_ ?_
    rotate_left
    · intro w'
      go_simp
      with_reducible rfl
    rotate_left
    · simp only [Act.put, List.setIfInBounds_toArray, List.set_cons_zero, List.set_cons_succ, i64_w, i32_w]
      rfl
    refine take_ (i := 2) (N := some 26) (v := ?_) (a' := ?_) #[false, true, true, false, false, false, false, false, false, false, false, false, false, false, false, false, false, false, false] rfl rfl (by kernel_rfl) (fun _ _ _ h => h) (Or.inl ⟨by rfl, ?_⟩) hH ?_ ?_
    rotate_left
    · rintro w' ⟨s0, s1_, s2⟩
      have c_ : _ = some _ := (blk_cell s0 8).trans rfl
      go_simp
      with_reducible rfl
    rotate_left
    · simp only [Act.put, List.setIfInBounds_toArray, List.set_cons_zero, List.set_cons_succ, i64_w, i32_w]
      rfl
    refine pure_ (i := 4) (N := some 28) (v := ?_) (a' := ?_) #[false, true, true, false, true, false, false, false, false, false, false, false, false, false, false, false, false, false, false] rfl rfl (by kernel_rfl) (fun _ _ _ h => h) (Or.inl ⟨by rfl, ?_⟩) ?_ ?_
    rotate_left
    · intro w'
      go_simp
      with_reducible rfl
    rotate_left
    · simp only [Act.put, List.setIfInBounds_toArray, List.set_cons_zero, List.set_cons_succ, i64_w, i32_w]
      rfl
    refine take_ (i := 5) (N := some 29) (v := ?_) (a' := ?_) #[false, true, true, false, true, true, false, false, false, false, false, false, false, false, false, false, false, false, false] rfl rfl (by kernel_rfl) (fun _ _ _ h => h) (Or.inl ⟨by rfl, ?_⟩) hH ?_ ?_
    rotate_left
    · rintro w' ⟨s0, s1_, s2⟩
      have c_ : _ = some _ := (blk_cell s0 11).trans rfl
      go_simp
      with_reducible rfl
    rotate_left
    · simp only [Act.put, List.setIfInBounds_toArray, List.set_cons_zero, List.set_cons_succ, i64_w, i32_w]
      rfl
    refine pure_ (i := 6) (N := some 30) (v := ?_) (a' := ?_) #[false, true, true, false, true, true, true, false, false, false, false, false, false, false, false, false, false, false, false] rfl rfl (by kernel_rfl) (fun _ _ _ h => h) (Or.inl ⟨by rfl, ?_⟩) ?_ ?_
    rotate_left
    · intro w'
      go_simp
      with_reducible rfl
    rotate_left
    · simp only [Act.put, List.setIfInBounds_toArray, List.set_cons_zero, List.set_cons_succ, i64_w, i32_w]
      rfl
    refine take_ (i := 7) (N := some 31) (v := ?_) (a' := ?_) #[false, true, true, false, true, true, true, true, false, false, false, false, false, false, false, false, false, false, false] rfl rfl (by kernel_rfl) (fun _ _ _ h => h) (Or.inl ⟨by rfl, ?_⟩) hH ?_ ?_
    rotate_left
    · rintro w' ⟨s0, s1_, s2⟩
      have c_ : _ = some _ := (blk_cell s2 0).trans rfl
      go_simp
      with_reducible rfl
    rotate_left
    · simp only [Act.put, List.setIfInBounds_toArray, List.set_cons_zero, List.set_cons_succ, i64_w, i32_w]
      rfl
    refine pure_ (i := 8) (N := some 32) (v := ?_) (a' := ?_) #[false, true, true, false, true, true, true, true, true, false, false, false, false, false, false, false, false, false, false] rfl rfl (by kernel_rfl) (fun _ _ _ h => h) (Or.inl ⟨by rfl, ?_⟩) ?_ ?_
    rotate_left
    · intro w'
      go_simp
      with_reducible rfl
    rotate_left
    · simp only [Act.put, List.setIfInBounds_toArray, List.set_cons_zero, List.set_cons_succ, i64_w, i32_w]
      rfl
    refine pure_ (i := 9) (N := some 33) (v := ?_) (a' := ?_) #[false, true, true, false, true, true, true, true, true, true, false, false, false, false, false, false, false, false, false] rfl rfl (by kernel_rfl) (fun _ _ _ h => h) (Or.inl ⟨by rfl, ?_⟩) ?_ ?_
    rotate_left
    · intro w'
      go_simp
      with_reducible rfl
    rotate_left
    · simp only [Act.put, List.setIfInBounds_toArray, List.set_cons_zero, List.set_cons_succ, i64_w, i32_w]
      rfl
    refine take_ (i := 10) (N := some 34) (v := ?_) (a' := ?_) #[false, true, true, false, true, true, true, true, true, true, true, false, false, false, false, false, false, false, false] rfl rfl (by kernel_rfl) (fun _ _ _ h => h) (Or.inl ⟨by rfl, ?_⟩) hH ?_ ?_
    rotate_left
    · rintro w' ⟨s0, s1_, s2⟩
      refine load_yields (x := .tmp 6) ?_ ?_ s1_ Try.underlying25 rfl (by kernel_rfl)
      · rfl
      · rfl
    rotate_left
    · simp only [Act.put, List.setIfInBounds_toArray, List.set_cons_zero, List.set_cons_succ, i64_w, i32_w]
      rfl
    refine take_ (i := 11) (N := some 35) (v := ?_) (a' := ?_) #[false, true, true, false, true, true, true, true, true, true, true, true, false, false, false, false, false, false, false] rfl rfl (by kernel_rfl) (fun _ _ _ h => h) (Or.inl ⟨by rfl, ?_⟩) hH ?_ ?_
    rotate_left
    · rintro w' ⟨s0, s1_, s2⟩
      refine load_yields (x := .tmp 5) ?_ ?_ s0 Try.underlying34 rfl (by kernel_rfl)
      · rfl
      · rfl
    rotate_left
    · simp only [Act.put, List.setIfInBounds_toArray, List.set_cons_zero, List.set_cons_succ, i64_w, i32_w]
      rfl
    refine one_ (i := 0) (N := some 24) #[true, true, true, false, true, true, true, true, true, true, true, true, false, false, false, false, false, false, false] rfl rfl (by kernel_rfl) (by decide) (fun K hK => ?_)
    obtain ⟨w5, hw5⟩ : ∃ w5, w4.alloc (.cells #[] 51) = w5 := ⟨_, rfl⟩
    have HL5 : Aside0 (Below w4.heap.size w4 w5 ∧ Kd.R k51 51 w5 W.heap.size (fun _ => True) (.slice (some ⟨w4.heap.size, 0, none⟩) 0 0) []) := ⟨by rw [← hw5]; exact ⟨below_alloc (Below.refl _ _) _, fun _ _ => trivial, [], World.ownsRow_made w4 #[] 0 HW4.out (by decide) (by simp), Reps.none _ _⟩⟩
    refine event_step (w1 := w5) (v := .slice (some ⟨w4.heap.size, 0, none⟩) 0 0) (by rfl) (by rw [← hw5]; go_simp; try rfl) ?_
    clear hw5
    have hS_ := HSK.out _ _ HL5.out.1 hH
    refine hK.out _ _ hS_ (fun hH1 => ?_)
    clear hS_
    clear hK K
    refine norm_ (a' := ?_) ?_ ?_
    rotate_left
    · show Act.put _ (some 24) _ = _
      simp only [Act.put, List.setIfInBounds_toArray, List.set_cons_zero, List.set_cons_succ, i64_w, i32_w]
      rfl
    refine one_ (i := 3) (N := some 27) #[true, true, true, true, true, true, true, true, true, true, true, true, false, false, false, false, false, false, false] rfl rfl (by kernel_rfl) (by decide) (fun K hK => ?_)
    have HP5 : Aside0 (Kd.C k51 w5 s.A8 n.l8.length n.l8) := ⟨Kd.C_below HN4.out.r8 HL5.out.1⟩
    have HZ5 : Aside0 (W.heap.size ≤ w5.heap.size) := ⟨Nat.le_trans HW4.out HL5.out.1.size⟩
    refine Kd.R_append_rows_step k51 (Rr := k51.K w5) (w0 := w5) W.heap.size (by rfl) _ _ 29 51 _ 56 rfl Try.underlying29 info51 rfl (by decide) (by decide) (.slice (some ⟨w4.heap.size, 0, none⟩) 0 0) [] n.l8 _ n.l8.length _ (fun _ => True) (fun _ => False) rfl rfl HL5.out.2 HP5.out (fun _ _ h => h) (fun _ h => h.elim) (fun _ _ => trivial) (Below.refl _ _) HZ5.out HLEN0.out ?_
    intro v6 w6 hO6 hb6 hg6 _
    obtain ⟨A6, c6, rfl, _, _⟩ := Kd.R_reads hO6
    have hS_ := HSG.out w5 _ _ hg6 (fun k hk => Kd.R_base HL5.out.2 k hk) hH1
    have HO6 := Aside0.mk hO6
    have HG6 := Aside0.mk hg6
    clear hO6 hb6 hg6
    refine hK.out _ _ hS_ (fun hH2 => ?_)
    clear hS_
    clear hK K
    refine norm_ (a' := ?_) ?_ ?_
    rotate_left
    · show Act.put _ (some 27) _ = _
      simp only [Act.put, List.setIfInBounds_toArray, List.set_cons_zero, List.set_cons_succ, i64_w, i32_w]
      rfl
    refine one_ (i := 12) (N := some 36) #[true, true, true, true, true, true, true, true, true, true, true, true, true, false, false, false, false, false, false] rfl rfl (by kernel_rfl) (by decide) (fun K hK => ?_)
    have HN6 : Aside0 (NC w6 { n with a11 := ridF n } s) := ⟨HNX.out _ (HGB.out w5 _ _ (Nat.le_trans HB4.out.size HL5.out.1.size) HG6.out (fun k hk => Kd.R_base HL5.out.2 k hk) (below_then HB4.out HB4.out.size HL5.out.1))⟩
    refine goes_ Try.func26 (by kernel_rfl) rfl #[.agg #[.int .u64 n.a0, .int .u16 n.a1, .int .i64 n.a2, .bool n.a3, .slice s.A4 n.l4.length s.c4, .slice s.A5 n.l5.length s.c5, .slice s.A6 n.l6.length s.c6, .slice s.A7 n.l7.length s.c7, .slice s.A8 n.l8.length s.c8, .slice s.A9 n.l9.length s.c9, .slice s.A10 n.l10.length s.c10, .int .u32 (ridF n), .int .i64 n.a12, .int .i64 n.a13]] (by rfl) rfl rfl (by (try simp only [List.map_toArray, List.map_cons, List.map_nil]); first | done | rfl) ?_
    have hnow := rnow_ok { n with a11 := ridF n } s w6 HN6.out
    rw [show nowF { n with a11 := ridF n } = nowF n from rfl, HNW.out] at hnow
    refine hnow.mono ?_
    rintro e w7 ⟨rfl, hb7⟩
    refine ⟨_, rfl, ?_⟩
    have hS_ := HSK.out _ _ hb7 hH2
    have HB7 := Aside0.mk hb7
    clear hb7 hnow
    refine hK.out _ _ hS_ (fun hH3 => ?_)
    clear hS_
    clear hK K
    refine norm_ (a' := ?_) ?_ ?_
    rotate_left
    · show Act.put _ (some 36) _ = _
      simp only [Act.put, List.setIfInBounds_toArray, List.set_cons_zero, List.set_cons_succ, i64_w, i32_w]
      rfl
    refine pure_ (i := 13) (N := some 37) (v := ?_) (a' := ?_) #[true, true, true, true, true, true, true, true, true, true, true, true, true, true, false, false, false, false, false] rfl rfl (by kernel_rfl) (fun _ _ _ h => h) (Or.inl ⟨by rfl, ?_⟩) ?_ ?_
    rotate_left
    · intro w'
      go_simp
      with_reducible rfl
    rotate_left
    · simp only [Act.put, List.setIfInBounds_toArray, List.set_cons_zero, List.set_cons_succ, i64_w, i32_w]
      rfl
    refine pure_ (i := 14) (N := some 38) (v := ?_) (a' := ?_) #[true, true, true, true, true, true, true, true, true, true, true, true, true, true, true, false, false, false, false] rfl rfl (by kernel_rfl) (fun _ _ _ h => h) (Or.inl ⟨by rfl, ?_⟩) ?_ ?_
    rotate_left
    · intro w'
      go_simp
      with_reducible rfl
    rotate_left
    · simp only [Act.put, List.setIfInBounds_toArray, List.set_cons_zero, List.set_cons_succ, i64_w, i32_w]
      rfl
    refine one_ (i := 15) (N := some 39) #[true, true, true, true, true, true, true, true, true, true, true, true, true, true, true, true, false, false, false] rfl rfl (by kernel_rfl) (by decide) (fun K hK => ?_)
    obtain ⟨w8, hw8⟩ : ∃ w8, w7.alloc (.cells #[.int .u32 (ridF n), .int .i64 m.f0, .int .i64 why, .int .i64 job, .int .u64 t0, .int .u16 t1, .int .i64 (nw + 8)] 51) = w8 := ⟨_, rfl⟩
    have HL8 : Aside0 (w8.heap[w7.heap.size]? = some (.cells #[.int .u32 (ridF n), .int .i64 m.f0, .int .i64 why, .int .i64 job, .int .u64 t0, .int .u16 t1, .int .i64 (nw + 8)] 51 (0, 0)) ∧ Below w7.heap.size w7 w8) := ⟨by rw [← hw8]; exact ⟨heap_alloc_new w7 _, below_alloc (Below.refl _ _) _⟩⟩
    refine event_step (w1 := w8) (v := .slice (some ⟨w7.heap.size, 0, none⟩) 1 1) (by rfl) (by rw [← hw8]; go_simp; try rfl) ?_
    clear hw8
    have hS_ := HSK.out _ _ HL8.out.2 hH3
    refine hK.out _ _ hS_ (fun hH4 => ?_)
    clear hS_
    clear hK K
    refine norm_ (a' := ?_) ?_ ?_
    rotate_left
    · show Act.put _ (some 39) _ = _
      simp only [Act.put, List.setIfInBounds_toArray, List.set_cons_zero, List.set_cons_succ, i64_w, i32_w]
      rfl
    refine one_ (i := 16) (N := some 40) #[true, true, true, true, true, true, true, true, true, true, true, true, true, true, true, true, true, false, false] rfl rfl (by kernel_rfl) (by decide) (fun K hK => ?_)
    have HO8 : Aside0 (Kd.R k51 51 w8 W.heap.size (fun _ => True) (.slice A6 ([] ++ n.l8).length c6) n.l8) := ⟨Kd.R_below (Kd.R_below HO6.out HB7.out) HL8.out.2⟩
    have HSZ8 : Aside0 (W.heap.size ≤ w8.heap.size) := ⟨Nat.le_trans HZ5.out (Nat.le_trans HG6.out.size (Nat.le_trans HB7.out.size HL8.out.2.size))⟩
    have HLIT := Aside0.mk (lit1 (g := w7.heap.size) (k51_mk w8 (askPend n t0 t1 m why job)) HL8.out.1 (by rw [← HNW.out]; rfl))
    refine Kd.R_append_rows_step k51 (Rr := k51.K w8) (w0 := w8) W.heap.size (by rfl) _ _ 29 51 _ 56 rfl Try.underlying29 info51 rfl (by decide) (by decide) (.slice A6 ([] ++ n.l8).length c6) n.l8 [askPend n t0 t1 m why job] _ 1 1 (fun _ => True) (fun _ => False) rfl rfl HO8.out HLIT.out (fun _ _ h => h) (fun _ h => h.elim) (fun _ _ => trivial) (Below.refl _ _) HSZ8.out HLEN.out ?_
    intro v9 w9 hO9 hb9 hg9 _
    obtain ⟨A9', c9', rfl, _, _⟩ := Kd.R_reads hO9
    have hS_ := HSG.out w8 _ _ hg9 (fun k hk => Kd.R_base HO8.out k hk) hH4
    have HO9 := Aside0.mk hO9
    have HG9 := Aside0.mk hg9
    clear hO9 hb9 hg9
    refine hK.out _ _ hS_ (fun hH5 => ?_)
    clear hS_
    clear hK K
    refine norm_ (a' := ?_) ?_ ?_
    rotate_left
    · show Act.put _ (some 40) _ = _
      simp only [Act.put, List.setIfInBounds_toArray, List.set_cons_zero, List.set_cons_succ, i64_w, i32_w]
      rfl
    refine pure_ (i := 17) (N := some 41) (v := ?_) (a' := ?_) #[true, true, true, true, true, true, true, true, true, true, true, true, true, true, true, true, true, true, false] rfl rfl (by kernel_rfl) (fun _ _ _ h => h) (Or.inl ⟨by rfl, ?_⟩) ?_ ?_
    rotate_left
    · intro w'
      go_simp
      with_reducible rfl
    rotate_left
    · simp only [Act.put, List.setIfInBounds_toArray, List.set_cons_zero, List.set_cons_succ, i64_w, i32_w]
      rfl
    refine last_ (i := 18) (N := none) #[true, true, true, true, true, true, true, true, true, true, true, true, true, true, true, true, true, true, true] rfl rfl (by kernel_rfl) (by decide) (fun K hK => ?_)
    refine store_step 29 _ _ g 8 _ #[.int .u64 n.a0, .int .u16 n.a1, .int .i64 n.a2, .bool n.a3, .slice s.A4 n.l4.length s.c4, .slice s.A5 n.l5.length s.c5, .slice s.A6 n.l6.length s.c6, .slice s.A7 n.l7.length s.c7, .slice A9' (n.l8 ++ [askPend n t0 t1 m why job]).length c9', .slice s.A9 n.l9.length s.c9, .slice s.A10 n.l10.length s.c10, .int .u32 (ridF n), .int .i64 n.a12, .int .i64 n.a13] 34 (.slice A9' (n.l8 ++ [askPend n t0 t1 m why job]).length c9') [.slice A9' (n.l8 ++ [askPend n t0 t1 m why job]).length c9'] (by rfl) rfl rfl rfl hH5.1 rfl (by kernel_rfl) (by simp) (by simp [Value.oneCell']) (by simp) ?_
    intro w10 e5 hs10
    have HS10 := Aside0.mk hs10
    clear hs10
    refine hK.out _ _ ?_
    clear hK K
    refine norm_ (a' := ?_) ?_ ?_
    rotate_left
    · show Act.put _ (none) _ = _
      simp only [Act.put, List.setIfInBounds_toArray, List.set_cons_zero, List.set_cons_succ, i64_w, i32_w]
      rfl
    refine done_ (by kernel_rfl) ?_
    obtain ⟨w11, hw11⟩ : ∃ w11, w10.drew = w11 := ⟨_, rfl⟩
    have HW11 := Aside0.mk hw11
    have hw10 : ∀ k : Nat, w11.heap[k]? = w10.heap[k]? := fun k => by rw [← hw11]; rfl
    have hs9 : AskS g #[.int .u64 n.a0, .int .u16 n.a1, .int .i64 n.a2, .bool n.a3, .slice s.A4 n.l4.length s.c4, .slice s.A5 n.l5.length s.c5, .slice s.A6 n.l6.length s.c6, .slice s.A7 n.l7.length s.c7, .slice A9' (n.l8 ++ [askPend n t0 t1 m why job]).length c9', .slice s.A9 n.l9.length s.c9, .slice s.A10 n.l10.length s.c10, .int .u32 (ridF n), .int .i64 n.a12, .int .i64 n.a13] #[.int .u64 t0, .int .u16 t1] #[.int .i64 m.f0, .int .u32 (ridF n), .int .u8 m.f2, .bool m.f3, .int .u64 m.f4, .string m.f5, .string m.f6, .int .u64 m.f7.f0, .int .u16 m.f7.f1, .slice ms.A9 m.f8.length ms.c9, .slice ms.A10 m.f9.length ms.c10] w11 := ⟨(hw10 _).trans e5, (hw10 _).trans (HS10.out.blk (by omega) hH5.2.1), (hw10 _).trans (HS10.out.blk (by omega) hH5.2.2)⟩
    have hB5 := below_then HB4.out HB4.out.size HL5.out.1
    have hB6 := HGB.out w5 _ _ hB5.size HG6.out (fun k hk => Kd.R_base HL5.out.2 k hk) hB5
    have hB8 := below_then (below_then hB6 hB6.size HB7.out) (Nat.le_trans hB6.size HB7.out.size) HL8.out.2
    have hB9 := HGB.out w8 _ _ hB8.size HG9.out (fun k hk => Kd.R_base HO8.out k hk) hB8
    have hB11 : Below w.heap.size w w11 := by
      rw [← hw11]
      exact (HS10.out.on (B := w.heap.size) (by have := HGG.out; omega) hB9).drew
    have h10 : w9.heap[g + 1 + 1 + 1]? = some (.cells #[.int .u64 0, .int .u16 0, .int .i64 0, .bool false, .slice none 0 0, .slice none 0 0, .slice none 0 0, .slice none 0 0, .slice none 0 0, .slice none 0 0, .slice none 0 0, .int .u32 0, .int .i64 0, .int .i64 0] 34 (0, 0)) := by
      have hsw := HSW.out
      have a5 := (HL5.out.1.block _ (blk_lt HF4.out)).trans HF4.out
      have a6 := (HG6.out.block _ (blk_lt a5) (fun e => by have := Kd.R_base HL5.out.2 _ e.symm; omega)).trans a5
      have a7 := (HB7.out.block _ (blk_lt a6)).trans a6
      have a8 := (HL8.out.2.block _ (blk_lt a7)).trans a7
      exact (HG9.out.block _ (blk_lt a8) (fun e => by have := Kd.R_base HO8.out _ e.symm; omega)).trans a8
    have HF10 : Aside0 (w11.heap[g + 1 + 1 + 1]? = some (.cells #[.int .u64 0, .int .u16 0, .int .i64 0, .bool false, .slice none 0 0, .slice none 0 0, .slice none 0 0, .slice none 0 0, .slice none 0 0, .slice none 0 0, .slice none 0 0, .int .u32 0, .int .i64 0, .int .i64 0] 34 (0, 0))) := ⟨(hw10 _).trans (HS10.out.blk (by omega) h10)⟩
    have HSF : Aside0 (∀ V V', Sto V V' (g + 1 + 1 + 1) → AskS g #[.int .u64 n.a0, .int .u16 n.a1, .int .i64 n.a2, .bool n.a3, .slice s.A4 n.l4.length s.c4, .slice s.A5 n.l5.length s.c5, .slice s.A6 n.l6.length s.c6, .slice s.A7 n.l7.length s.c7, .slice A9' (n.l8 ++ [askPend n t0 t1 m why job]).length c9', .slice s.A9 n.l9.length s.c9, .slice s.A10 n.l10.length s.c10, .int .u32 (ridF n), .int .i64 n.a12, .int .i64 n.a13] #[.int .u64 t0, .int .u16 t1] #[.int .i64 m.f0, .int .u32 (ridF n), .int .u8 m.f2, .bool m.f3, .int .u64 m.f4, .string m.f5, .string m.f6, .int .u64 m.f7.f0, .int .u16 m.f7.f1, .slice ms.A9 m.f8.length ms.c9, .slice ms.A10 m.f9.length ms.c10] V → AskS g #[.int .u64 n.a0, .int .u16 n.a1, .int .i64 n.a2, .bool n.a3, .slice s.A4 n.l4.length s.c4, .slice s.A5 n.l5.length s.c5, .slice s.A6 n.l6.length s.c6, .slice s.A7 n.l7.length s.c7, .slice A9' (n.l8 ++ [askPend n t0 t1 m why job]).length c9', .slice s.A9 n.l9.length s.c9, .slice s.A10 n.l10.length s.c10, .int .u32 (ridF n), .int .i64 n.a12, .int .i64 n.a13] #[.int .u64 t0, .int .u16 t1] #[.int .i64 m.f0, .int .u32 (ridF n), .int .u8 m.f2, .bool m.f3, .int .u64 m.f4, .string m.f5, .string m.f6, .int .u64 m.f7.f0, .int .u16 m.f7.f1, .slice ms.A9 m.f8.length ms.c9, .slice ms.A10 m.f9.length ms.c10] V') := ⟨fun V V' hs h => ⟨hs.blk (by omega) h.1, hs.blk (by omega) h.2.1, hs.blk (by omega) h.2.2⟩⟩
    have HSL : Aside0 (∀ V V', Below V.heap.size V V' → AskS g #[.int .u64 n.a0, .int .u16 n.a1, .int .i64 n.a2, .bool n.a3, .slice s.A4 n.l4.length s.c4, .slice s.A5 n.l5.length s.c5, .slice s.A6 n.l6.length s.c6, .slice s.A7 n.l7.length s.c7, .slice A9' (n.l8 ++ [askPend n t0 t1 m why job]).length c9', .slice s.A9 n.l9.length s.c9, .slice s.A10 n.l10.length s.c10, .int .u32 (ridF n), .int .i64 n.a12, .int .i64 n.a13] #[.int .u64 t0, .int .u16 t1] #[.int .i64 m.f0, .int .u32 (ridF n), .int .u8 m.f2, .bool m.f3, .int .u64 m.f4, .string m.f5, .string m.f6, .int .u64 m.f7.f0, .int .u16 m.f7.f1, .slice ms.A9 m.f8.length ms.c9, .slice ms.A10 m.f9.length ms.c10] V → AskS g #[.int .u64 n.a0, .int .u16 n.a1, .int .i64 n.a2, .bool n.a3, .slice s.A4 n.l4.length s.c4, .slice s.A5 n.l5.length s.c5, .slice s.A6 n.l6.length s.c6, .slice s.A7 n.l7.length s.c7, .slice A9' (n.l8 ++ [askPend n t0 t1 m why job]).length c9', .slice s.A9 n.l9.length s.c9, .slice s.A10 n.l10.length s.c10, .int .u32 (ridF n), .int .i64 n.a12, .int .i64 n.a13] #[.int .u64 t0, .int .u16 t1] #[.int .i64 m.f0, .int .u32 (ridF n), .int .u8 m.f2, .bool m.f3, .int .u64 m.f4, .string m.f5, .string m.f6, .int .u64 m.f7.f0, .int .u16 m.f7.f1, .slice ms.A9 m.f8.length ms.c9, .slice ms.A10 m.f9.length ms.c10] V') := ⟨fun V V' hb h => ⟨(hb.block _ (blk_lt h.1)).trans h.1, (hb.block _ (blk_lt h.2.1)).trans h.2.1, (hb.block _ (blk_lt h.2.2)).trans h.2.2⟩⟩
    have HLT : Aside0 (g + 1 + 1 + 1 < w11.heap.size) := ⟨blk_lt HF10.out⟩
    have HFIN : Aside0 (∀ (w13 : World) (h : Nat), (∀ k : Nat, k < w11.heap.size → k ≠ g + 1 + 1 + 1 → w13.heap[k]? = w11.heap[k]?) → Below w.heap.size w11 w13 → w13.heap[h]? = some (.cells #[.int .u64 t0, .int .u16 t1, .int .i64 m.f0, .int .u32 (ridF n), .int .u8 m.f2, .bool m.f3, .int .u64 m.f4, .string m.f5, .string m.f6, .int .u64 m.f7.f0, .int .u16 m.f7.f1, .slice ms.A9 m.f8.length ms.c9, .slice ms.A10 m.f9.length ms.c10] 63 (0, 0)) → AskP { n with a11 := ridF n, l8 := n.l8 ++ [askPend n t0 t1 m why job] } [⟨⟨t0, t1⟩, { m with f1 := ridF n }⟩] w (.returned (.tuple #[nv { n with a11 := ridF n, l8 := n.l8 ++ [askPend n t0 t1 m why job] } { s with A8 := A9', c8 := c9' }, .slice (some ⟨h, 0, none⟩) 1 1])) w13) := ⟨by
      intro w13 h hk13 hb13 hlit
      have hsw := HSW.out
      have hmv : ∀ k : Nat, W.heap.size ≤ k → k < w9.heap.size → w13.heap[k]? = w9.heap[k]? := fun k h1 h2 => by
        have h3 : w11.heap.size = w9.heap.size := by rw [← HW11.out]; exact HS10.out.size
        exact (hk13 k (by omega) (by omega)).trans ((hw10 k).trans (HS10.out.far k (by omega)))
      have p8 := Kd.R_step (Kd.R_bound HO9.out) (fun k hk hlt => hmv k hk.2.1 hlt)
      have hB := hB11.trans hb13
      have hn := HN.out.below hB
      have q13 := HM.out.below hB
      refine ⟨_, some ⟨h, 0, none⟩, 1, rfl, ⟨hn.r4, hn.q4, hn.r5, hn.q5, hn.r6, hn.q6, hn.r7, hn.q7, (Kd.R_reads' p8).2.2, (Kd.R_reads' p8).2.1, hn.r9, hn.q9, hn.r10, hn.q10⟩, Nat.le_refl _, ?_, hB⟩
      exact lit1 (k63_mk w13 ⟨⟨t0, t1⟩, { m with f1 := ridF n }⟩ q13.q9 q13.r9 q13.q10 q13.r10) hlit rfl⟩
    clear h10 hw10 hB5 hB6 hB8 hB9 hB11 hH hH1 hH2 hH3 hH4 hH5 e5
    go_wp2_with fail
    refine start_ (n := 7) (S := AskS g #[.int .u64 n.a0, .int .u16 n.a1, .int .i64 n.a2, .bool n.a3, .slice s.A4 n.l4.length s.c4, .slice s.A5 n.l5.length s.c5, .slice s.A6 n.l6.length s.c6, .slice s.A7 n.l7.length s.c7, .slice A9' (n.l8 ++ [askPend n t0 t1 m why job]).length c9', .slice s.A9 n.l9.length s.c9, .slice s.A10 n.l10.length s.c10, .int .u32 (ridF n), .int .i64 n.a12, .int .i64 n.a13] #[.int .u64 t0, .int .u16 t1] #[.int .i64 m.f0, .int .u32 (ridF n), .int .u8 m.f2, .bool m.f3, .int .u64 m.f4, .string m.f5, .string m.f6, .int .u64 m.f7.f0, .int .u16 m.f7.f1, .slice ms.A9 m.f8.length ms.c9, .slice ms.A10 m.f9.length ms.c10]) (ds := []) #[false, false, false, false, false, false, false] (by kernel_rfl) rfl rfl (by rw [hw11]; exact hs9) (fun hJ => ?_)
    rw [hw11] at hJ ⊢
    clear hw11 hs9
    refine take_ (i := 0) (N := some 42) (v := ?_) (a' := ?_) #[true, false, false, false, false, false, false] rfl rfl (by kernel_rfl) (fun _ _ _ h => h) (Or.inl ⟨by rfl, ?_⟩) hJ ?_ ?_
    rotate_left
    · rintro w' ⟨s0, s1_, s2⟩
      refine load_yields (x := .tmp 5) ?_ ?_ s0 Try.underlying34 rfl (by kernel_rfl)
      · rfl
      · rfl
    rotate_left
    · simp only [Act.put, List.setIfInBounds_toArray, List.set_cons_zero, List.set_cons_succ, i64_w, i32_w]
      rfl
    refine take_ (i := 1) (N := some 43) (v := ?_) (a' := ?_) #[true, true, false, false, false, false, false] rfl rfl (by kernel_rfl) (fun _ _ _ h => h) (Or.inl ⟨by rfl, ?_⟩) hJ ?_ ?_
    rotate_left
    · rintro w' ⟨s0, s1_, s2⟩
      refine load_yields (x := .tmp 6) ?_ ?_ s1_ Try.underlying25 rfl (by kernel_rfl)
      · rfl
      · rfl
    rotate_left
    · simp only [Act.put, List.setIfInBounds_toArray, List.set_cons_zero, List.set_cons_succ, i64_w, i32_w]
      rfl
    refine take_ (i := 2) (N := some 44) (v := ?_) (a' := ?_) #[true, true, true, false, false, false, false] rfl rfl (by kernel_rfl) (fun _ _ _ h => h) (Or.inl ⟨by rfl, ?_⟩) hJ ?_ ?_
    rotate_left
    · rintro w' ⟨s0, s1_, s2⟩
      refine load_yields (x := .tmp 7) ?_ ?_ s2 Try.underlying37 rfl (by kernel_rfl)
      · rfl
      · rfl
    rotate_left
    · simp only [Act.put, List.setIfInBounds_toArray, List.set_cons_zero, List.set_cons_succ, i64_w, i32_w]
      rfl
    refine pure_ (i := 3) (N := some 45) (v := ?_) (a' := ?_) #[true, true, true, true, false, false, false] rfl rfl (by kernel_rfl) (fun _ _ _ h => h) (Or.inl ⟨by rfl, ?_⟩) ?_ ?_
    rotate_left
    · intro w'
      go_simp
      with_reducible rfl
    rotate_left
    · simp only [Act.put, List.setIfInBounds_toArray, List.set_cons_zero, List.set_cons_succ, i64_w, i32_w]
      rfl
    refine two_ (i := 4) (j := 5) (Ni := some 46) (Nj := none) #[true, true, true, true, true, false, false] #[true, true, true, true, false, true, false] rfl rfl rfl rfl (by kernel_rfl) (by decide) (by decide) (fun K hK => ?_) (fun K hK => ?_)
    · obtain ⟨w12, hw12⟩ : ∃ w12, w11.alloc (.cells #[.int .u64 t0, .int .u16 t1, .int .i64 m.f0, .int .u32 (ridF n), .int .u8 m.f2, .bool m.f3, .int .u64 m.f4, .string m.f5, .string m.f6, .int .u64 m.f7.f0, .int .u16 m.f7.f1, .slice ms.A9 m.f8.length ms.c9, .slice ms.A10 m.f9.length ms.c10] 63) = w12 := ⟨_, rfl⟩
      have HL12 : Aside0 (w12.heap[w11.heap.size]? = some (.cells #[.int .u64 t0, .int .u16 t1, .int .i64 m.f0, .int .u32 (ridF n), .int .u8 m.f2, .bool m.f3, .int .u64 m.f4, .string m.f5, .string m.f6, .int .u64 m.f7.f0, .int .u16 m.f7.f1, .slice ms.A9 m.f8.length ms.c9, .slice ms.A10 m.f9.length ms.c10] 63 (0, 0)) ∧ Below w11.heap.size w11 w12) := ⟨by rw [← hw12]; exact ⟨heap_alloc_new w11 _, below_alloc (Below.refl _ _) _⟩⟩
      refine event_step (w1 := w12) (v := .slice (some ⟨w11.heap.size, 0, none⟩) 1 1) (by rfl) (by rw [← hw12]; go_simp; try rfl) ?_
      clear hw12
      have hS_ := HSL.out _ _ HL12.out.2 hJ
      refine hK.out _ _ hS_ (fun hJ_4 => ?_)
      clear hS_
      clear hK K
      refine norm_ (a' := ?_) ?_ ?_
      rotate_left
      · show Act.put _ (some 46) _ = _
        simp only [Act.put, List.setIfInBounds_toArray, List.set_cons_zero, List.set_cons_succ, i64_w, i32_w]
        rfl
      refine one_ (i := 5) (N := none) #[true, true, true, true, true, true, false] rfl rfl (by kernel_rfl) (by decide) (fun K hK => ?_)
      refine store_step 34 _ _ (g + 1 + 1 + 1) 0 _ #[.int .u64 n.a0, .int .u16 n.a1, .int .i64 n.a2, .bool n.a3, .slice s.A4 n.l4.length s.c4, .slice s.A5 n.l5.length s.c5, .slice s.A6 n.l6.length s.c6, .slice s.A7 n.l7.length s.c7, .slice A9' (n.l8 ++ [askPend n t0 t1 m why job]).length c9', .slice s.A9 n.l9.length s.c9, .slice s.A10 n.l10.length s.c10, .int .u32 (ridF n), .int .i64 n.a12, .int .i64 n.a13] 34 _ [.int .u64 n.a0, .int .u16 n.a1, .int .i64 n.a2, .bool n.a3, .slice s.A4 n.l4.length s.c4, .slice s.A5 n.l5.length s.c5, .slice s.A6 n.l6.length s.c6, .slice s.A7 n.l7.length s.c7, .slice A9' (n.l8 ++ [askPend n t0 t1 m why job]).length c9', .slice s.A9 n.l9.length s.c9, .slice s.A10 n.l10.length s.c10, .int .u32 (ridF n), .int .i64 n.a12, .int .i64 n.a13] (by rfl) rfl rfl rfl ((HL12.out.2.block _ (blk_lt HF10.out)).trans HF10.out) rfl (by kernel_rfl) (by simp) (by simp [Value.oneCell']) (by simp) ?_
      intro w13 e10 hs11
      have hS_ := HSF.out _ _ hs11 hJ_4
      have HS11 := Aside0.mk hs11
      clear hs11
      refine hK.out _ _ hS_ (fun hJ_4_5 => ?_)
      clear hS_
      clear hK K
      refine norm_ (a' := ?_) ?_ ?_
      rotate_left
      · show Act.put _ (none) _ = _
        simp only [Act.put, List.setIfInBounds_toArray, List.set_cons_zero, List.set_cons_succ, i64_w, i32_w]
        rfl
      refine pure_ (i := 6) (N := some 11) (v := ?_) (a' := ?_) #[true, true, true, true, true, true, true] rfl rfl (by kernel_rfl) (fun _ _ _ h => h) (Or.inl ⟨by rfl, ?_⟩) ?_ ?_
      rotate_left
      · intro w'
        go_simp
        with_reducible rfl
      rotate_left
      · simp only [Act.put, List.setIfInBounds_toArray, List.set_cons_zero, List.set_cons_succ, i64_w, i32_w]
        rfl
      refine done_ (by kernel_rfl) ?_
      go_wp2_with fail
      have hblk : w13.heap[g + 1 + 1 + 1]? = some (.cells #[.int .u64 n.a0, .int .u16 n.a1, .int .i64 n.a2, .bool n.a3, .slice s.A4 n.l4.length s.c4, .slice s.A5 n.l5.length s.c5, .slice s.A6 n.l6.length s.c6, .slice s.A7 n.l7.length s.c7, .slice A9' (n.l8 ++ [askPend n t0 t1 m why job]).length c9', .slice s.A9 n.l9.length s.c9, .slice s.A10 n.l10.length s.c10, .int .u32 (ridF n), .int .i64 n.a12, .int .i64 n.a13] 34 (0, 0)) := e10
      obtain ⟨y0, y1, y2, y3, y4, y5, y6, y7, y8, y9, y10, y11, y12, y13, _⟩ := box14f hblk
      refine bodyPost_ret (v := .tuple #[nv { n with a11 := ridF n, l8 := n.l8 ++ [askPend n t0 t1 m why job] } { s with A8 := A9', c8 := c9' }, .slice (some ⟨w11.heap.size, 0, none⟩) 1 1]) ?hres rfl ?_
      case hres =>
        simp only [results, Try.f11]
        go_simp
      have hlit : w13.heap[w11.heap.size]? = some (.cells #[.int .u64 t0, .int .u16 t1, .int .i64 m.f0, .int .u32 (ridF n), .int .u8 m.f2, .bool m.f3, .int .u64 m.f4, .string m.f5, .string m.f6, .int .u64 m.f7.f0, .int .u16 m.f7.f1, .slice ms.A9 m.f8.length ms.c9, .slice ms.A10 m.f9.length ms.c10] 63 (0, 0)) := HS11.out.blk (by have := HLT.out; omega) HL12.out.1
      have hk13 : ∀ k : Nat, k < w11.heap.size → k ≠ g + 1 + 1 + 1 → w13.heap[k]? = w11.heap[k]? := fun k hk hne => (HS11.out.far k hne).trans (HL12.out.2.block k hk)
      have hb13 : Below w.heap.size w11 w13 := (HL12.out.2.mono (by have := HLT.out; have := HGG.out; omega)).trans (HS11.out.below (by have := HGG.out; omega))
      exact HFIN.out w13 (w11.heap.size) hk13 hb13 hlit
    · refine store_step 34 _ _ (g + 1 + 1 + 1) 0 _ #[.int .u64 n.a0, .int .u16 n.a1, .int .i64 n.a2, .bool n.a3, .slice s.A4 n.l4.length s.c4, .slice s.A5 n.l5.length s.c5, .slice s.A6 n.l6.length s.c6, .slice s.A7 n.l7.length s.c7, .slice A9' (n.l8 ++ [askPend n t0 t1 m why job]).length c9', .slice s.A9 n.l9.length s.c9, .slice s.A10 n.l10.length s.c10, .int .u32 (ridF n), .int .i64 n.a12, .int .i64 n.a13] 34 _ [.int .u64 n.a0, .int .u16 n.a1, .int .i64 n.a2, .bool n.a3, .slice s.A4 n.l4.length s.c4, .slice s.A5 n.l5.length s.c5, .slice s.A6 n.l6.length s.c6, .slice s.A7 n.l7.length s.c7, .slice A9' (n.l8 ++ [askPend n t0 t1 m why job]).length c9', .slice s.A9 n.l9.length s.c9, .slice s.A10 n.l10.length s.c10, .int .u32 (ridF n), .int .i64 n.a12, .int .i64 n.a13] (by rfl) rfl rfl rfl HF10.out rfl (by kernel_rfl) (by simp) (by simp [Value.oneCell']) (by simp) ?_
      intro w12 e10 hs11
      have hS_ := HSF.out _ _ hs11 hJ
      have HS11 := Aside0.mk hs11
      clear hs11
      refine hK.out _ _ hS_ (fun hJ_5 => ?_)
      clear hS_
      clear hK K
      refine norm_ (a' := ?_) ?_ ?_
      rotate_left
      · show Act.put _ (none) _ = _
        simp only [Act.put, List.setIfInBounds_toArray, List.set_cons_zero, List.set_cons_succ, i64_w, i32_w]
        rfl
      refine one_ (i := 4) (N := some 46) #[true, true, true, true, true, true, false] rfl rfl (by kernel_rfl) (by decide) (fun K hK => ?_)
      obtain ⟨w13, hw13⟩ : ∃ w13, w12.alloc (.cells #[.int .u64 t0, .int .u16 t1, .int .i64 m.f0, .int .u32 (ridF n), .int .u8 m.f2, .bool m.f3, .int .u64 m.f4, .string m.f5, .string m.f6, .int .u64 m.f7.f0, .int .u16 m.f7.f1, .slice ms.A9 m.f8.length ms.c9, .slice ms.A10 m.f9.length ms.c10] 63) = w13 := ⟨_, rfl⟩
      have HL12 : Aside0 (w13.heap[w12.heap.size]? = some (.cells #[.int .u64 t0, .int .u16 t1, .int .i64 m.f0, .int .u32 (ridF n), .int .u8 m.f2, .bool m.f3, .int .u64 m.f4, .string m.f5, .string m.f6, .int .u64 m.f7.f0, .int .u16 m.f7.f1, .slice ms.A9 m.f8.length ms.c9, .slice ms.A10 m.f9.length ms.c10] 63 (0, 0)) ∧ Below w12.heap.size w12 w13) := ⟨by rw [← hw13]; exact ⟨heap_alloc_new w12 _, below_alloc (Below.refl _ _) _⟩⟩
      refine event_step (w1 := w13) (v := .slice (some ⟨w12.heap.size, 0, none⟩) 1 1) (by rfl) (by rw [← hw13]; go_simp; try rfl) ?_
      clear hw13
      have hS_ := HSL.out _ _ HL12.out.2 hJ_5
      refine hK.out _ _ hS_ (fun hJ_5_4 => ?_)
      clear hS_
      clear hK K
      refine norm_ (a' := ?_) ?_ ?_
      rotate_left
      · show Act.put _ (some 46) _ = _
        simp only [Act.put, List.setIfInBounds_toArray, List.set_cons_zero, List.set_cons_succ, i64_w, i32_w]
        rfl
      refine pure_ (i := 6) (N := some 11) (v := ?_) (a' := ?_) #[true, true, true, true, true, true, true] rfl rfl (by kernel_rfl) (fun _ _ _ h => h) (Or.inl ⟨by rfl, ?_⟩) ?_ ?_
      rotate_left
      · intro w'
        go_simp
        with_reducible rfl
      rotate_left
      · simp only [Act.put, List.setIfInBounds_toArray, List.set_cons_zero, List.set_cons_succ, i64_w, i32_w]
        rfl
      refine done_ (by kernel_rfl) ?_
      go_wp2_with fail
      have hblk : w13.heap[g + 1 + 1 + 1]? = some (.cells #[.int .u64 n.a0, .int .u16 n.a1, .int .i64 n.a2, .bool n.a3, .slice s.A4 n.l4.length s.c4, .slice s.A5 n.l5.length s.c5, .slice s.A6 n.l6.length s.c6, .slice s.A7 n.l7.length s.c7, .slice A9' (n.l8 ++ [askPend n t0 t1 m why job]).length c9', .slice s.A9 n.l9.length s.c9, .slice s.A10 n.l10.length s.c10, .int .u32 (ridF n), .int .i64 n.a12, .int .i64 n.a13] 34 (0, 0)) := (HL12.out.2.block _ (blk_lt e10)).trans e10
      obtain ⟨y0, y1, y2, y3, y4, y5, y6, y7, y8, y9, y10, y11, y12, y13, _⟩ := box14f hblk
      refine bodyPost_ret (v := .tuple #[nv { n with a11 := ridF n, l8 := n.l8 ++ [askPend n t0 t1 m why job] } { s with A8 := A9', c8 := c9' }, .slice (some ⟨w12.heap.size, 0, none⟩) 1 1]) ?hres rfl ?_
      case hres =>
        simp only [results, Try.f11]
        go_simp
      have hlit : w13.heap[w12.heap.size]? = some (.cells #[.int .u64 t0, .int .u16 t1, .int .i64 m.f0, .int .u32 (ridF n), .int .u8 m.f2, .bool m.f3, .int .u64 m.f4, .string m.f5, .string m.f6, .int .u64 m.f7.f0, .int .u16 m.f7.f1, .slice ms.A9 m.f8.length ms.c9, .slice ms.A10 m.f9.length ms.c10] 63 (0, 0)) := HL12.out.1
      have hk13 : ∀ k : Nat, k < w11.heap.size → k ≠ g + 1 + 1 + 1 → w13.heap[k]? = w11.heap[k]? := fun k hk hne => (HL12.out.2.block k (by have := HS11.out.size; omega)).trans (HS11.out.far k hne)
      have hb13 : Below w.heap.size w11 w13 := (HS11.out.below (by have := HGG.out; omega)).trans (HL12.out.2.mono (by have := HS11.out.size; have := HLT.out; have := HGG.out; omega))
      exact HFIN.out w13 (w12.heap.size) hk13 hb13 hlit
-- axioms: rask_ok
end
end Go.Proofs.Ytfgalgeloflilaa.H
