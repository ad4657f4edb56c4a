/- Mine. Chapters 22 and 23, by hand (turned from chapter 21): Whole of the parts. -/
import Derived.Test.YtaeelmkpjgmdlaaHPB
namespace Go.Proofs.Ytaeelmkpjgmdlaa.H
open Go Go.Proofs Go.RowKit Go.Lib Go.Proofs.Ytaeelmkpjgmdlaa.P Go.Proofs.YtaeelmkpjgmdlaaW.PrintWords Go.Proofs.YtaeelmkpjgmdlaaW.PrintLast Go.Proofs.YtaeelmkpjgmdlaaW.PrintMore Go.Proofs.YtaeelmkpjgmdlaaW.PrintFlat
set_option linter.unusedVariables false
set_option linter.unusedSimpArgs false
def nilS : Value := .slice none 0 0
def vAt (qs : List Q) (i : Int) : Value := ((qs.find? fun x => x.i == i).map Q.v).getD nilS
def bAt (qs : List Q) (i : Int) : List Int := ((qs.find? fun x => x.i == i).map Q.bs).getD []
def whole (qs : List Q) (n : Nat) : List Int := (List.range n).flatMap fun (i : Nat) => bAt qs i
theorem whole_succ (qs : List Q) (n : Nat) : whole qs (n + 1) = whole qs n ++ bAt qs n := by simp [whole, List.range_succ]
theorem at_is (qs : List Q) (hn : (qs.map Q.i).Nodup) (i : Int) : (DD qs).atKey (.int .i64 i) (.held nilS) = .held (vAt qs i) := by
  obtain ⟨h1, h2⟩ := at_DD (.held nilS) i qs hn
  unfold vAt
  cases hf : qs.find? (fun x => x.i == i) with
  | none =>
    rw [List.find?_eq_none] at hf
    exact h2 (fun x hx he => hf x hx (by simp [he]))
  | some x =>
    have hx := List.mem_of_find?_eq_some hf
    have he := List.find?_some hf
    exact h1 x hx (by simpa using he)
theorem wpList_lookup {P : Program} (w : World) {ops : Array Oper} {rest : List Oper} {o : Oper} {a : Act} {Q : Exit → Act → World → Prop} (hg : o.guard = none) (m x : Operand) (t : TypeId) (hop : o.op = Op.lookup t m x false)
    (v : Value) (key : Value) (b : Nat) (hm : a.eval m = .map (some b)) (hx : a.eval x = key) (hrun : (Instr.lookup t (.map (some b)) key false).run P w = .ok v w)
    (hK : wpList P ops Q rest (a.put o.dst v) w) : wpList P ops Q (o :: rest) a w := by
  refine wpList_plain hg fun K' hK' => ?_
  unfold Oper.wp
  simp [execOp, hop, hm, hx, hrun, Result.andThen]
  exact hK' _ _ hK
def WholeP (c : Int) (qs : List Q) (W : World) (e : Ending) (w' : World) : Prop := Below W.heap.size W w' ∧
  (((qs.length : Int) < c ∧ e = .returned (.tuple #[.slice none 0 0, .bool false])) ∨ (c ≤ qs.length ∧ ∃ v, e = .returned (.tuple #[v, .bool true]) ∧ Kd.R (Kd.int .u8) 5 w' W.heap.size (fun _ => True) v (whole qs c.toNat)))
theorem look_run {own : Nat → Prop} {p b : Nat} {c : Int} {qs : List Q} {W : World} (h : CS own p b c qs W) (i : Int) (hi : (Lit.int .i64 i).wf = true) : (Instr.lookup 116 (.map (some b)) (.int .i64 i) false).run Try.prog W = .ok (vAt qs i) W := by
  obtain ⟨v, ps, hrun, hv⟩ := h.mp.lookup (Maps.int_keyed Try.underlying3) Try.underlying116 (Try.zeroValue36 W) (zd := .held nilS) (zp := []) rfl (Maps.keyOf_int_mk (P := Try.prog) Try.underlying3 hi)
  rw [at_is qs h.nd] at hv
  have : v = vAt qs i := by
    have h1 := congrArg (fun z : Option (DataW Value × List MemPlace) => z.map Prod.fst) hv
    simpa using h1
  rw [← this]
  exact hrun
theorem at_reads {own : Nat → Prop} {p b : Nat} {c : Int} {qs : List Q} {W : World} (h : CS own p b c qs W) (i : Int) : ∃ A cc, vAt qs i = .slice A (bAt qs i).length cc ∧ (bAt qs i).length ≤ cc ∧ Kd.C (Kd.int .u8) W A (bAt qs i).length (bAt qs i) := by
  unfold vAt bAt
  cases hf : qs.find? (fun x => x.i == i) with
  | none => exact ⟨none, 0, rfl, Nat.le_refl _, ⟨rfl, Nat.zero_le _, fun h => absurd h (Nat.lt_irrefl _)⟩⟩
  | some x => exact Kd.R_reads (h.el x (List.mem_of_find?_eq_some hf))
theorem bAt_le (qs : List Q) (i : Int) : ((bAt qs i).length : Int) ≤ tot qs := by
  unfold bAt
  cases hf : qs.find? (fun x => x.i == i) with
  | none =>
    have : ∀ l : List Q, 0 ≤ tot l := fun l => by
      unfold tot
      induction l with
      | nil => simp
      | cons x r ih => simp only [List.map_cons, List.sum_cons]; omega
    simpa using this qs
  | some x =>
    have hx := List.mem_of_find?_eq_some hf
    have : ∀ l : List Q, x ∈ l → (x.bs.length : Int) ≤ tot l ∧ 0 ≤ tot l := fun l => by
      unfold tot
      induction l with
      | nil => intro h; simp at h
      | cons y r ih =>
        intro h
        have h0 : 0 ≤ (r.map fun x => (x.bs.length : Int)).sum := by
          clear ih h
          induction r with
          | nil => simp
          | cons z t ih => simp only [List.map_cons, List.sum_cons]; omega
        simp only [List.map_cons, List.sum_cons]
        rcases List.mem_cons.1 h with rfl | h
        · omega
        · have := (ih h).1; omega
    exact (this qs hx).1
theorem whole_le (qs : List Q) (n : Nat) : ((whole qs n).length : Int) ≤ n * tot qs := by
  induction n with
  | zero => simp [whole]
  | succ n ih =>
    rw [whole_succ, List.length_append]
    have := bAt_le qs n
    rw [show ((n + 1 : Nat) : Int) = (n : Int) + 1 by omega, Int.add_mul, Int.one_mul]
    omega
set_option maxRecDepth 100000 in
set_option maxHeartbeats 2000000 in
theorem whole_calls {own : Nat → Prop} {p b : Nat} {c : Int} {qs : List Q} {W : World} (h : CS own p b c qs W) (hc : c ≤ 65535) (hc0 : 0 ≤ c) (hl : qs.length ≤ 65535) (ht : tot qs ≤ 4194304) (ht0 : 0 ≤ tot qs) :
    Calls Try.prog 35 #[.pointer (some ⟨p, 0, none⟩)] W (WholeP c qs W) := by
  obtain ⟨g0, g1, g2, g3, _⟩ := h.cells
  have hmis := missing_calls h hc hc0 hl
  have HM := Aside0.mk hmis
  have HH := Aside0.mk h
  have HB := Aside0.mk (Below.refl W.heap.size W)
  by_cases hlt : (qs.length : Int) < c
  · have hm1 : 0 < c - (qs.length : Int) := by omega
    clear h hmis
    go_enter Try.func35, Try.ntmps35
    go_wp2_with (first | (go_at_call 64; refine HM.out.mono ?_; rintro e w1 ⟨rfl, hb1⟩; have HB1 := Aside0.mk hb1; clear hb1) | go_in)
    go_ret2
    exact ⟨HB1.out, .inl ⟨hlt, rfl⟩⟩
  · have hm1 : ¬ (0 < c - (qs.length : Int)) := by omega
    have HT := Aside0.mk (And.intro ht ht0)
    clear h hmis ht ht0
    go_enter Try.func35, Try.ntmps35
    go_wp2_with (first | (go_at_call 64; refine HM.out.mono ?_; rintro e w1 ⟨rfl, hb1⟩; have HB1 := Aside0.mk hb1; have hH1 := HH.out.frame (S := fun _ => False) (Fr.of_below hb1) (fun _ _ h => h); obtain ⟨j0, j1, j2, j3, _⟩ := hH1.cells; have HH1 := Aside0.mk hH1; clear hb1 hH1) | go_in)
    obtain ⟨T, hT⟩ : ∃ T : Nat, tot qs = T := ⟨(tot qs).toNat, by have := HT.out; omega⟩
    obtain ⟨i0, hi, hz0, hz1, hz2⟩ := info_parts i5
    obtain ⟨w2, hmk, hown2, hg2⟩ := run_make_own w1 W.heap.size 36 5 i0 _ 1 Try.underlying36 hi hz0 hz1 .i64 .i64 T (by rw [hz2]; have := HT.out; omega) (by unfold maxLen; have := HT.out; omega) HB1.out.size
    rw [← hT] at hmk
    rw [hmk]
    simp only [Result.andThen_ok]
    have hb2 : Below w1.heap.size w1 w2 := ⟨hg2.os, hg2.tape, hg2.output, hg2.size, fun k hk => hg2.block k hk (by simp)⟩
    have hR2 : Kd.R (Kd.int .u8) 5 w2 W.heap.size (fun _ => True) (.slice (some ⟨w1.heap.size, 0, none⟩) 0 T) [] := ⟨fun _ _ => trivial, [], hown2, Reps.none _ _⟩
    have HR2 := Aside0.mk hR2
    have hH2 := HH1.out.frame (S := fun _ => False) (Fr.of_below hb2) (fun _ _ h => h)
    have HH2 := Aside0.mk hH2
    have HB2 := Aside0.mk (below_then HB1.out HB1.out.size hb2)
    have y1 := (hb2.cell (World.block_lt_of_cell? _ _ j1)).trans j1
    clear hown2 hg2 hmk hb2 hR2 hH2 hi hz0 hz1 hz2 j0 j1 j2 j3
    go_wp2
    have HC := Aside0.mk (And.intro hc (And.intro hc0 hl))
    go_loopg [4, 5, 22] c.toNat (fun gg s4 _ s22 wr => ∃ k : Nat, k ≤ c.toNat ∧ c.toNat - k ≤ gg ∧ s22 = .int .i64 k ∧ Aside0 (Below W.heap.size W wr) ∧ Aside0 (Kd.R (Kd.int .u8) 5 wr W.heap.size (fun _ => True) s4 (whole qs k)))
    case atStart => exact ⟨0, Nat.zero_le _, by omega, rfl, HB2, HR2⟩
    case round =>
      obtain ⟨k, hk, hgg, rfl, HBk, HRk⟩ := hrel
      have hHk := HH.out.frame (S := fun _ => False) (Fr.of_below HBk.out) (fun _ _ h => h)
      obtain ⟨q0, q1, q2, q3, _⟩ := hHk.cells
      obtain ⟨A4, c4, rfl, hlc4, _⟩ := Kd.R_reads HRk.out
      by_cases hlt : k < c.toNat
      · have hkc : (k : Int) < c := by omega
        have hlook := look_run hHk (k : Int) (by simp [Lit.wf, IntKind.min, IntKind.max, IntKind.bits, IntKind.signed]; omega)
        obtain ⟨A5, c5, hv5, hlc5, hC5⟩ := at_reads hHk (k : Int)
        rw [hv5] at hlook
        have HC5 := Aside0.mk hC5
        have hsz : ((whole qs k).length + (bAt qs k).length) * 1 ≤ 140737488355328 := by
          have h1 := whole_le qs k
          have h2 := bAt_le qs k
          have h3 := HT.out
          have h4 : (k : Int) * tot qs ≤ 65535 * 4194304 := Int.mul_le_mul (by omega) h3.1 h3.2 (by omega)
          omega
        have HSZ := Aside0.mk hsz
        clear hC5 hHk hsz hv5
        go_wp2_with (first
          | (at_lookup; refine wpList_lookup _ rfl _ _ 116 rfl _ _ b rfl rfl hlook ?_)
          | (at_builtin; refine Kd.R_append_rows (Kd.int .u8) (Rr := (Kd.int .u8).K wr) (w0 := W) W.heap.size rfl _ _ 36 5 _ 1 rfl Try.underlying36 i5 rfl (by decide) (by decide) _ (whole qs k) (bAt qs k) _ _ _ (fun _ => True) (fun _ => False) rfl rfl HRk.out HC5.out (fun _ _ h => h) (fun _ h => h.elim) (fun _ _ => trivial) HBk.out HBk.out.size HSZ.out ?_; intro v1 w3 hown3 hb3 hg3 hat3; have HO3 := Aside0.mk hown3; have HB3 := Aside0.mk hb3; clear hown3 hb3 hg3 hat3))
        go_roundg (c.toNat - (k + 1))
        case measure => omega
        case rel =>
          refine ⟨k + 1, by omega, by omega, by go_num, HB3, ⟨?_⟩⟩
          rw [whole_succ]
          exact HO3.out
      · have hkc : ¬ ((k : Int) < c) := by omega
        have hkk : k = c.toNat := by omega
        clear hHk
        go_wp2
        go_ret2
        refine ⟨HBk.out, .inr ⟨by omega, _, rfl, ?_⟩⟩
        rw [← hkk]
        exact HRk.out
#print axioms whole_calls
end Go.Proofs.Ytaeelmkpjgmdlaa.H
