/- Mine. Boxes whose cells are known whole: loads, stores; steps of regions that draw. -/
import Derived.Test.YtcnkmajengephaaHA
import Derived.StillTailTactics
namespace Go.Proofs.Ytcnkmajengephaa.H
open Go Go.Proofs Go.RowKit Go.Lib Go.Proofs.Ytcnkmajengephaa.P Go.Proofs.YtcnkmajengephaaW.PrintWords Go.Proofs.YtcnkmajengephaaW.PrintLast Go.Proofs.YtcnkmajengephaaW.PrintMore
set_option linter.unusedVariables false
set_option linter.unusedSimpArgs false
/-- To stop a walk at an operation: (refine gate_ .. rfl ?_; refine hold_ ?_). -/
theorem hold_ {p : Prop} (h : True → p) : p := h trivial
/-- A world with one block written. -/
structure Sto (w w1 : World) (g : Nat) : Prop where
  os : w1.os = w.os
  tape : w1.tape = w.tape
  output : w1.output = w.output
  size : w1.heap.size = w.heap.size
  far : ∀ k, k ≠ g → w1.heap[k]? = w.heap[k]?
theorem Sto.below {w w1 : World} {g B : Nat} (h : Sto w w1 g) (hB : B ≤ g) : Below B w w1 :=
  ⟨h.os, h.tape, h.output, Nat.le_of_eq h.size.symm, fun k hk => h.far k (by omega)⟩
theorem Sto.on {w0 w w1 : World} {g B : Nat} (h : Sto w w1 g) (hB : B ≤ g) (h0 : Below B w0 w) : Below B w0 w1 := h0.trans (h.below hB)
theorem Sto.blk {w w1 : World} {g k : Nat} {o : Obj} (h : Sto w w1 g) (hk : k ≠ g) (hb : w.heap[k]? = some o) : w1.heap[k]? = some o := (h.far k hk).trans hb
section
variable {P : Program} {ops : Array Oper} {rest : List Oper} {o : Oper} {a : Act} {Q : Exit → Act → World → Prop} {W : World} {Kc : Act → World → Prop}
theorem store_run {t : TypeId} {g o' : Nat} {cur cur' : Array Value} {e : TypeId} {u : Value} {seg : List Value} (hb : W.heap[g]? = some (.cells cur e (0, 0))) (hu : u.cells.toList = seg) (ht : (P.info? t).map (·.size) = some seg.length)
    (hfit : o' + seg.length ≤ cur.size) (h1 : ∀ q ∈ seg, q.oneCell' = true) (hc : (cur.toList.take o' ++ seg ++ cur.toList.drop (o' + seg.length)).toArray = cur') :
    ∃ w1, (Instr.storeAt t (.pointer (some ⟨g, o', none⟩)) u).run P W = .ok () w1 ∧ w1.heap[g]? = some (.cells cur' e (0, 0)) ∧ Sto W w1 g := by
  refine ⟨W.setCells g o' seg, run_store_run t u seg hb hu ht hfit h1, ?_, ?_⟩
  · obtain ⟨cur2, h3, _, h5⟩ := setCells_row seg o' W cur hb hfit
    have : cur2 = cur' := by rw [← hc, ← h5]
    rw [← this]; exact h3
  · obtain ⟨s1, s2, s3, s4⟩ := setCells_same g seg o' W
    exact ⟨s1, s2, s3, s4, fun k hk => setCells_far seg o' k hk⟩
/-- A store into a box. -/
theorem store_box (op : Op) (t : TypeId) (p x : Operand) (g o' : Nat) (cur cur' : Array Value) (e : TypeId) (u : Value) (seg : List Value) (ho : o.op = op) (hop : op = .store t p x) (hN : o.dst = none) (hgd : o.guard = none) (haddr : a.eval p = .pointer (some ⟨g, o', none⟩)) (hx : a.eval x = u)
    (hb : W.heap[g]? = some (.cells cur e (0, 0))) (hu : u.cells.toList = seg) (ht : (P.info? t).map (·.size) = some seg.length) (hfit : o' + seg.length ≤ cur.size) (h1 : ∀ q ∈ seg, q.oneCell' = true)
    (hc : (cur.toList.take o' ++ seg ++ cur.toList.drop (o' + seg.length)).toArray = cur')
    (h : ∀ w1, w1.heap[g]? = some (.cells cur' e (0, 0)) → Sto W w1 g → wpList P ops Q rest a w1) : wpList P ops Q (o :: rest) a W := by
  obtain ⟨w1, hr, h2, h3⟩ := store_run (P := P) hb hu ht hfit h1 hc
  refine wpList_plain hgd fun K hK => ?_
  unfold Oper.wp
  rw [show (execOp a.eval o).run P W = .ok .skip w1 from by simp [execOp, ho, hop, haddr, hx, hr, Result.andThen]]
  show K (a.put o.dst undef) w1
  have hput : a.put o.dst undef = a := by rw [hN]; rfl
  rw [hput]
  exact hK a w1 (h w1 h2 h3)
theorem store_step (t : TypeId) (p x : Operand) (g o' : Nat) (cur cur' : Array Value) (e : TypeId) (u : Value) (seg : List Value) (hw : Region.wanted o (yielded ops a.tmps) = true) (hop : o.op = .store t p x) (haddr : a.eval p = .pointer (some ⟨g, o', none⟩)) (hx : a.eval x = u)
    (hb : W.heap[g]? = some (.cells cur e (0, 0))) (hu : u.cells.toList = seg) (ht : (P.info? t).map (·.size) = some seg.length) (hfit : o' + seg.length ≤ cur.size) (h1 : ∀ q ∈ seg, q.oneCell' = true)
    (hc : (cur.toList.take o' ++ seg ++ cur.toList.drop (o' + seg.length)).toArray = cur')
    (h : ∀ w1, w1.heap[g]? = some (.cells cur' e (0, 0)) → Sto W w1 g → Kc (a.put o.dst undef) w1) : if Region.wanted o (yielded ops a.tmps) = true then Oper.wp P o a W Kc Q else Kc (a.put o.dst undef) W := by
  obtain ⟨w1, hr, h2, h3⟩ := store_run (P := P) hb hu ht hfit h1 hc
  rw [if_pos hw]
  unfold Oper.wp
  rw [show (execOp a.eval o).run P W = .ok .skip w1 from by simp [execOp, hop, haddr, hx, hr, Result.andThen]]
  exact h w1 h2 h3
theorem load_yields {ev : Operand → Value} {ty : TypeId} {x : Operand} {g : Nat} {t : TypeId} {cs : Array Value} {d : TypeDesc} (ho : o.op = .load ty x) (hx : ev x = .pointer (some ⟨g, 0, none⟩)) (hg : W.heap[g]? = some (.cells cs t (0, 0)))
    (hu : P.underlying ty = some d) (hd : (match d with | .struct _ | .array _ _ => true | _ => false) = true) (hi : (P.info? ty).map (·.size) = some cs.size) : (execOp ev o).run P W = .ok (.value (.agg cs)) W := by
  unfold execOp
  simp only [ho, hx, Instr.loadAt, Instr.sureAddr, Sem.run_bind, Sem.run_pure, Result.andThen_ok, Go.run_loadVar_row W g t ty cs (0, 0) d hg hu hd hi]
end
theorem NR.step {w w1 : World} {base : Nat} {n : ND} {s : NA} (h : NR w base n s) (hm : ∀ k, base ≤ k → k < w.heap.size → w1.heap[k]? = w.heap[k]?) : NR w1 base n s :=
  ⟨Kd.R_mono (Kd.R_step (Kd.R_bound h.o4) (fun k hk hlt => hm k hk.2.1 hlt)) (fun _ _ => trivial), Kd.R_mono (Kd.R_step (Kd.R_bound h.o5) (fun k hk hlt => hm k hk.2.1 hlt)) (fun _ _ => trivial), Kd.R_mono (Kd.R_step (Kd.R_bound h.o6) (fun k hk hlt => hm k hk.2.1 hlt)) (fun _ _ => trivial), Kd.R_mono (Kd.R_step (Kd.R_bound h.o7) (fun k hk hlt => hm k hk.2.1 hlt)) (fun _ _ => trivial), Kd.R_mono (Kd.R_step (Kd.R_bound h.o8) (fun k hk hlt => hm k hk.2.1 hlt)) (fun _ _ => trivial), Kd.R_mono (Kd.R_step (Kd.R_bound h.o9) (fun k hk hlt => hm k hk.2.1 hlt)) (fun _ _ => trivial), Kd.R_mono (Kd.R_step (Kd.R_bound h.o10) (fun k hk hlt => hm k hk.2.1 hlt)) (fun _ _ => trivial)⟩
end Go.Proofs.Ytcnkmajengephaa.H
