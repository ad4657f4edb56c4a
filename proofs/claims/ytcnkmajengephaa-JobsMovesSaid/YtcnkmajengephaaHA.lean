/- Mine. Chapter 31, by hand: a node as one value; the printed contracts, turned to it. -/
import Derived.Test.YtcnkmajengephaaPx11
namespace Go.Proofs.Ytcnkmajengephaa.H
open Go Go.Proofs Go.RowKit Go.Lib Go.Proofs.Ytcnkmajengephaa.P Go.Proofs.YtcnkmajengephaaW.PrintWords Go.Proofs.YtcnkmajengephaaW.PrintLast Go.Proofs.YtcnkmajengephaaW.PrintMore
set_option linter.unusedVariables false
set_option linter.unusedSimpArgs false
structure ND where
  a0 : Int
  a1 : Int
  a2 : Int
  a3 : Bool
  l4 : List S71
  l5 : List S71
  l6 : List S74
  l7 : List S68
  l8 : List S78
  l9 : List S36
  l10 : List S51
  a11 : Int
  a12 : Int
  a13 : Int
/-- Where a node's rows lie. -/
structure NA where
  (A4 A5 A6 A7 A8 A9 A10 : Option Addr)
  (c4 c5 c6 c7 c8 c9 c10 : Nat)
/-- A node's value. -/
abbrev nv (n : ND) (s : NA) : Value := .agg #[.int .u64 n.a0, .int .u16 n.a1, .int .i64 n.a2, .bool n.a3, .slice s.A4 n.l4.length s.c4, .slice s.A5 n.l5.length s.c5, .slice s.A6 n.l6.length s.c6, .slice s.A7 n.l7.length s.c7, .slice s.A8 n.l8.length s.c8, .slice s.A9 n.l9.length s.c9, .slice s.A10 n.l10.length s.c10, .int .u32 n.a11, .int .i64 n.a12, .int .i64 n.a13]
/-- A node's rows read so. -/
structure NC (w : World) (n : ND) (s : NA) : Prop where
  r4 : Kd.C k71 w s.A4 n.l4.length n.l4
  q4 : n.l4.length ≤ s.c4
  r5 : Kd.C k71 w s.A5 n.l5.length n.l5
  q5 : n.l5.length ≤ s.c5
  r6 : Kd.C k74 w s.A6 n.l6.length n.l6
  q6 : n.l6.length ≤ s.c6
  r7 : Kd.C k68 w s.A7 n.l7.length n.l7
  q7 : n.l7.length ≤ s.c7
  r8 : Kd.C k78 w s.A8 n.l8.length n.l8
  q8 : n.l8.length ≤ s.c8
  r9 : Kd.C k36 w s.A9 n.l9.length n.l9
  q9 : n.l9.length ≤ s.c9
  r10 : Kd.C k51 w s.A10 n.l10.length n.l10
  q10 : n.l10.length ≤ s.c10
theorem NC.below {w w1 : World} {n : ND} {s : NA} (h : NC w n s) (hb : Below w.heap.size w w1) : NC w1 n s :=
  ⟨Kd.C_below h.r4 hb, h.q4, Kd.C_below h.r5 hb, h.q5, Kd.C_below h.r6 hb, h.q6, Kd.C_below h.r7 hb, h.q7, Kd.C_below h.r8 hb, h.q8, Kd.C_below h.r9 hb, h.q9, Kd.C_below h.r10 hb, h.q10⟩
/-- A node's rows are its own. -/
structure NR (w : World) (base : Nat) (n : ND) (s : NA) : Prop where
  o4 : Kd.R k71 71 w base (fun _ => True) (.slice s.A4 n.l4.length s.c4) n.l4
  o5 : Kd.R k71 71 w base (fun _ => True) (.slice s.A5 n.l5.length s.c5) n.l5
  o6 : Kd.R k74 74 w base (fun _ => True) (.slice s.A6 n.l6.length s.c6) n.l6
  o7 : Kd.R k68 68 w base (fun _ => True) (.slice s.A7 n.l7.length s.c7) n.l7
  o8 : Kd.R k78 78 w base (fun _ => True) (.slice s.A8 n.l8.length s.c8) n.l8
  o9 : Kd.R k36 36 w base (fun _ => True) (.slice s.A9 n.l9.length s.c9) n.l9
  o10 : Kd.R k51 51 w base (fun _ => True) (.slice s.A10 n.l10.length s.c10) n.l10
theorem NR.below {w w1 : World} {base : Nat} {n : ND} {s : NA} (h : NR w base n s) (hb : Below w.heap.size w w1) : NR w1 base n s :=
  ⟨Kd.R_below h.o4 hb, Kd.R_below h.o5 hb, Kd.R_below h.o6 hb, Kd.R_below h.o7 hb, Kd.R_below h.o8 hb, Kd.R_below h.o9 hb, Kd.R_below h.o10 hb⟩
theorem NR.reads {w : World} {base : Nat} {n : ND} {s : NA} (h : NR w base n s) : NC w n s :=
  ⟨(Kd.R_reads' h.o4).2.2, (Kd.R_reads' h.o4).2.1, (Kd.R_reads' h.o5).2.2, (Kd.R_reads' h.o5).2.1, (Kd.R_reads' h.o6).2.2, (Kd.R_reads' h.o6).2.1, (Kd.R_reads' h.o7).2.2, (Kd.R_reads' h.o7).2.1, (Kd.R_reads' h.o8).2.2, (Kd.R_reads' h.o8).2.1, (Kd.R_reads' h.o9).2.2, (Kd.R_reads' h.o9).2.1, (Kd.R_reads' h.o10).2.2, (Kd.R_reads' h.o10).2.1⟩
/-- Rows that are not too long for the machine. -/
structure NB (n : ND) : Prop where
  b4 : n.l4.length * 24 ≤ 140737488351232
  b5 : n.l5.length * 24 ≤ 140737488351232
  b6 : n.l6.length * 24 ≤ 140737488351232
  b7 : n.l7.length * 32 ≤ 140737488351232
  b8 : n.l8.length * 56 ≤ 140737488351232
  b9 : n.l9.length * 128 ≤ 140737488351232
  b10 : n.l10.length * 64 ≤ 140737488351232
theorem copy_f (n : ND) (hb : NB n) : pend_Copy.f n.a0 n.a1 n.a2 n.a3 n.l4 n.l5 n.l6 n.l7 n.l8 n.l9 n.l10 n.a11 n.a12 n.a13 = some (n.a0, n.a1, n.a2, n.a3, n.l4, n.l5, n.l6, n.l7, n.l8, n.l9, n.l10, n.a11, n.a12, n.a13) := by
  unfold pend_Copy.f api_Entry.f api_Finger.f api_Pair.f api_Pend.f api_Job.f api_Result.f
  rw [if_pos (by have := hb.b4; omega), if_pos (by have := hb.b5; omega), if_pos (by have := hb.b6; omega), if_pos (by have := hb.b7; omega), if_pos (by have := hb.b8; omega), if_pos (by have := hb.b9; omega), if_pos (by have := hb.b10; omega)]
  rfl
/-- A node that is made. -/
def NodeP (n : ND) (w : World) (e : Ending) (w' : World) : Prop := ∃ s, e = .returned (nv n s) ∧ NR w' w.heap.size n s ∧ Below w.heap.size w w'
set_option maxHeartbeats 2000000 in
theorem copy_ok (n : ND) (s : NA) (w : World) (h : NC w n s) (hb : NB n) : Calls Try.prog 22 #[nv n s] w (NodeP n w) := by
  refine (pend_Copy.calls n.a0 n.a1 n.a2 n.a3 s.A4 s.c4 n.l4 s.A5 s.c5 n.l5 s.A6 s.c6 n.l6 s.A7 s.c7 n.l7 s.A8 s.c8 n.l8 s.A9 s.c9 n.l9 s.A10 s.c10 n.l10 n.a11 n.a12 n.a13 n.a0 n.a1 n.a2 n.a3 n.l4 n.l5 n.l6 n.l7 n.l8 n.l9 n.l10 n.a11 n.a12 n.a13 w h.r4 h.q4 h.r5 h.q5 h.r6 h.q6 h.r7 h.q7 h.r8 h.q8 h.r9 h.q9 h.r10 h.q10 (copy_f n hb)).mono ?_
  rintro e w' ⟨v4, v5, v6, v7, v8, v9, v10, rfl, R4, R5, R6, R7, R8, R9, R10, hB⟩
  obtain ⟨A4, c4, rfl, _, _⟩ := Kd.R_reads R4
  obtain ⟨A5, c5, rfl, _, _⟩ := Kd.R_reads R5
  obtain ⟨A6, c6, rfl, _, _⟩ := Kd.R_reads R6
  obtain ⟨A7, c7, rfl, _, _⟩ := Kd.R_reads R7
  obtain ⟨A8, c8, rfl, _, _⟩ := Kd.R_reads R8
  obtain ⟨A9, c9, rfl, _, _⟩ := Kd.R_reads R9
  obtain ⟨A10, c10, rfl, _, _⟩ := Kd.R_reads R10
  exact ⟨⟨A4, A5, A6, A7, A8, A9, A10, c4, c5, c6, c7, c8, c9, c10⟩, rfl, ⟨Kd.R_mono R4 (fun _ _ => trivial), Kd.R_mono R5 (fun _ _ => trivial), Kd.R_mono R6 (fun _ _ => trivial), Kd.R_mono R7 (fun _ _ => trivial), Kd.R_mono R8 (fun _ _ => trivial), Kd.R_mono R9 (fun _ _ => trivial), Kd.R_mono R10 (fun _ _ => trivial)⟩, hB⟩
#print axioms copy_ok
end Go.Proofs.Ytcnkmajengephaa.H
