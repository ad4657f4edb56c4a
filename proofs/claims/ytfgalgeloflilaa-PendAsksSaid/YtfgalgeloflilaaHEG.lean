/- Mine: slices.Delete of one element, at a row that is one's own. -/
import Derived.Test.YtfgalgeloflilaaHAD
import Derived.Test.YtfgalgeloflilaaWFlat
namespace Go.Proofs.Ytfgalgeloflilaa.H
open Go Go.Proofs Go.RowKit Go.Lib Go.Proofs.Ytfgalgeloflilaa.P Go.Proofs.YtfgalgeloflilaaW.PrintWords Go.Proofs.YtfgalgeloflilaaW.PrintLast Go.Proofs.YtfgalgeloflilaaW.PrintMore Go.Proofs.YtfgalgeloflilaaW.PrintFlat
set_option linter.unusedVariables false
set_option linter.unusedSimpArgs false
theorem run_clear_row (P : Program) (w : World) (t e ty : TypeId) (z : Value) (ht : P.underlying t = some (.slice e)) (hv : ∀ w, (zeroValue e).run P w = .ok z w) (h1 : ∀ v ∈ z.cells.toList, v.oneCell' = true) (g o n c : Nat) (hn : 0 < n) (cur : Array Value) (et : TypeId)
    (hg : w.heap[g]? = some (.cells cur et (0, 0))) (hfit : o + n * z.cells.size ≤ cur.size) :
    (Builtin.clear_ #[t] ty #[.slice (some ⟨g, o, none⟩) n c]).run P w = .ok (.tuple #[]) (w.setRow g (cur.toList.take o ++ (Builtin.zeroCells z.cells n).toList ++ cur.toList.drop (o + (Builtin.zeroCells z.cells n).toList.length)).toArray) := by
  have hl : (Builtin.zeroCells z.cells n).toList.length = n * z.cells.size := by simp [Builtin.zeroCells]
  have ho : ∀ v ∈ (Builtin.zeroCells z.cells n).toList, v.oneCell' = true := by
    intro v hv
    simp only [Builtin.zeroCells, Array.toList_map, List.mem_map] at hv
    obtain ⟨i, hi, rfl⟩ := hv
    have hi2 : i < n * z.cells.size := by simpa using hi
    have hs : 0 < z.cells.size := by
      rcases Nat.eq_zero_or_pos z.cells.size with h | h
      · rw [h] at hi2; omega
      · exact h
    rw [getElem!_pos z.cells (i % z.cells.size) (Nat.mod_lt _ hs)]
    exact h1 _ (by simp)
  have hst := run_storeCells_at P g o et (Builtin.zeroCells z.cells n).toList 0 cur w hg (by rw [hl]; simpa using hfit) ho
  obtain ⟨m, rfl⟩ : ∃ m, n = m + 1 := ⟨n - 1, by omega⟩
  simp only [Nat.add_zero] at hst
  simp [Builtin.clear_, run_underlying ht, hv, hst]
/-- A row of one's own stays what it is where only places behind its elements are written. -/
theorem R_tail {α : Type} {d : Kd α} {e : Nat} {w : World} {base : Nat} {ok : Nat → Prop} {g c m : Nat} {xs : List α} (h : d.R e w base ok (.slice (some ⟨g, 0, none⟩) m c) xs) {cur cur' : Array Value} (hb : w.heap[g]? = some (.cells cur e (0, 0)))
    (hs : cur'.size = cur.size) (ht : cur'.toList.take (m * d.sz) = cur.toList.take (m * d.sz)) : d.R e (w.setRow g cur') base ok (.slice (some ⟨g, 0, none⟩) m c) xs ∧ w.grownBy (w.setRow g cur') (some g) := by
  have hfar : ∀ k, k ≠ g → (w.setRow g cur').heap[k]? = w.heap[k]? := fun k hk => by
    show (w.heap.modify g _)[k]? = _
    rw [Array.getElem?_modify]
    rw [if_neg (fun e => hk e.symm)]
  have hsz : (w.setRow g cur').heap.size = w.heap.size := by show (w.heap.modify g _).size = _; simp
  obtain ⟨h0, inner, hown, hr⟩ := h
  refine ⟨⟨h0, inner, ⟨hown.1, ?_⟩, hr.imp_ (fun _ _ hp => d.M_move (fun k hk => hfar k (fun e => hk.2 (by rw [e]; rfl))) hp)⟩, rfl, rfl, rfl, by rw [hsz]; exact Nat.le_refl _, fun k hk hn => hfar k (fun e => hn (by rw [e]))⟩
  rcases hown.2 with ⟨hv, _⟩ | ⟨g', cap, cur0, hv, hg, hh, h3, h4, h5, h6⟩
  · cases hv
  · injection hv with ha hm hc
    injection ha with ha
    injection ha with hg'
    subst hg'
    subst hc
    rw [hb] at hh
    injection hh with hh
    injection hh with hcu _ _
    subst hcu
    subst hm
    refine .inr ⟨g, c, cur', rfl, hg, setRow_heap w g cur cur' e (0, 0) hb, h3, h4, by rw [hs, h5], ?_⟩
    rw [ht]
    exact h6
set_option maxRecDepth 100000 in
set_option maxHeartbeats 4000000 in
theorem del_calls {base g c k : Nat} {ok : Nat → Prop} {xs : List S51} {W : World} (hR : k51.R 51 W base ok (.slice (some ⟨g, 0, none⟩) xs.length c) xs) (hk : k < xs.length) (hbase : base ≤ W.heap.size) (hmax : xs.length ≤ 140737488355328) :
    Calls Try.prog 40 #[.slice (some ⟨g, 0, none⟩) xs.length c, .int .i64 k, .int .i64 ((k : Int) + 1)] W fun e w' => e = .returned (.slice (some ⟨g, 0, none⟩) (xs.length - 1) c) ∧ k51.R 51 w' base ok (.slice (some ⟨g, 0, none⟩) (xs.length - 1) c) (xs.eraseIdx k) ∧ W.grownBy w' (some g) := by
  have HR := Aside0.mk (Kd.R_below hR (Below.drew (Below.refl _ _)))
  have hlc := (Kd.R_reads' hR).2.1
  have HK := Aside0.mk hk
  have HBS : Aside0 (base ≤ W.drew.heap.size) := ⟨hbase⟩
  have hmix : Try.prog.follows .mixedOrders = true := by kernel_rfl
  clear hR
  have b0 : (0 ≤ (k : Int)) = True := eq_true (by omega)
  have b1 : (k ≤ c) = True := eq_true (by omega)
  have b2 : (0 ≤ (k : Int) + 1) = True := eq_true (by omega)
  have b3 : ((k : Int) + 1 ≤ (xs.length : Int)) = True := eq_true (by omega)
  have b4 : (k + 1 ≤ xs.length) = True := eq_true (by omega)
  have e0 : ((k : Int) == (k : Int) + 1) = false := by rw [beq_eq_false_iff_ne]; omega
  go_enter Try.func40, Try.ntmps40
  go_wp2_with fail
  refine start_ (n := 8) (S := fun _ => True) (ds := []) #[false, false, false, false, false, false, false, false] (by kernel_rfl) rfl rfl trivial (fun hHeld => ?_)
  refine pure_ (i := 0) (N := some 20) (v := ?_) (a' := ?_) #[true, false, false, false, false, false, false, false] rfl rfl (by kernel_rfl) (fun _ _ _ h => h) (Or.inl ⟨by rfl, ?_⟩) ?_ ?_
  rotate_left
  · intro w'
    go_simp
    with_reducible rfl
  rotate_left
  · simp only [Act.put, List.setIfInBounds_toArray, List.set_cons_zero, List.set_cons_succ, i64_w, i32_w]
    rfl
  refine pure_ (i := 1) (N := some 21) (v := ?_) (a' := ?_) #[true, true, false, false, false, false, false, false] rfl rfl (by kernel_rfl) (fun _ _ _ h => h) (Or.inl ⟨by rfl, ?_⟩) ?_ ?_
  rotate_left
  · intro w'
    go_simp
    with_reducible rfl
  rotate_left
  · simp only [Act.put, List.setIfInBounds_toArray, List.set_cons_zero, List.set_cons_succ, i64_w, i32_w]
    rfl
  refine pure_ (i := 2) (N := some 22) (v := ?_) (a' := ?_) #[true, true, true, false, false, false, false, false] rfl rfl (by kernel_rfl) (fun _ _ _ h => h) (Or.inl ⟨by rfl, ?_⟩) ?_ ?_
  rotate_left
  · intro w'
    go_simp
    with_reducible rfl
  rotate_left
  · simp only [Act.put, List.setIfInBounds_toArray, List.set_cons_zero, List.set_cons_succ, i64_w, i32_w]
    rfl
  refine pure_ (i := 3) (N := some 23) (v := ?_) (a' := ?_) #[true, true, true, true, false, false, false, false] rfl rfl (by kernel_rfl) (fun _ _ _ h => h) (Or.inl ⟨by rfl, ?_⟩) ?_ ?_
  rotate_left
  · intro w'
    go_simp
    with_reducible rfl
  rotate_left
  · simp only [Act.put, List.setIfInBounds_toArray, List.set_cons_zero, List.set_cons_succ, i64_w, i32_w]
    rfl
  refine pure_ (i := 4) (N := some 24) (v := ?_) (a' := ?_) #[true, true, true, true, true, false, false, false] rfl rfl (by kernel_rfl) (fun _ _ _ h => h) (Or.inl ⟨by rfl, ?_⟩) ?_ ?_
  rotate_left
  · intro w'
    go_simp
    with_reducible rfl
  rotate_left
  · simp only [Act.put, List.setIfInBounds_toArray, List.set_cons_zero, List.set_cons_succ, i64_w, i32_w]
    rfl
  refine pure_ (i := 5) (N := some 25) (v := ?_) (a' := ?_) #[true, true, true, true, true, true, false, false] rfl rfl (by kernel_rfl) (fun _ _ _ h => h) (Or.inl ⟨by rfl, ?_⟩) ?_ ?_
  rotate_left
  · intro w'
    go_simp
    with_reducible rfl
  rotate_left
  · simp only [Act.put, List.setIfInBounds_toArray, List.set_cons_zero, List.set_cons_succ, i64_w, i32_w]
    rfl
  refine one_ (i := 6) (N := some 26) #[true, true, true, true, true, true, true, false] rfl rfl (by kernel_rfl) (by decide) (fun K hK => ?_)
  refine Kd.R_delete_step (P := Try.prog) k51 (w0 := W.drew) base (by rfl) _ _ 29 51 rfl Try.underlying29 (by kernel_rfl) (xs := xs) (ok := ok) (k := k) (n := xs.length) (c := c) (A := if c = k + 1 then some ⟨g, 0, none⟩ else some ⟨g, (k + 1) * 7, none⟩) (m := xs.length - (k + 1)) (c2 := c - (k + 1)) rfl rfl ?hA rfl HR.out HK.out (Below.refl _ _) HBS.out ?_
  (case hA => show _ = if c = k + 1 then _ else (some (⟨g, 0, none⟩ : Addr)).map (fun a => a.add ((k + 1) * 7)); by_cases hh : c = k + 1 <;> simp [hh, Addr.add])
  intro w2 hR2 hb2 hg2
  refine hK.out _ _ trivial (fun _ => ?_)
  have HR2 := Aside0.mk hR2
  have HG2 := Aside0.mk hg2
  clear hR2 hb2 hg2
  clear hK K
  refine norm_ (a' := ?_) ?_ ?_
  rotate_left
  · show Act.put _ (some 26) _ = _
    simp only [Act.put, List.setIfInBounds_toArray, List.set_cons_zero, List.set_cons_succ, i64_w, i32_w]
    rfl
  refine pure_ (i := 7) (N := some 0) (v := ?_) (a' := ?_) #[true, true, true, true, true, true, true, true] rfl rfl (by kernel_rfl) (fun _ _ _ h => h) (Or.inl ⟨by rfl, ?_⟩) ?_ ?_
  rotate_left
  · intro w'
    go_simp
    with_reducible rfl
  rotate_left
  · simp only [Act.put, List.setIfInBounds_toArray, List.set_cons_zero, List.set_cons_succ, i64_w, i32_w]
    rfl
  refine done_ (by kernel_rfl) ?_
  generalize (if c = k + 1 then (some (⟨g, 0, none⟩ : Addr)) else some ⟨g, (k + 1) * 7, none⟩) = AA
  obtain ⟨cur, hcur, hcsz⟩ : ∃ cur, w2.heap[g]? = some (.cells cur 51 (0, 0)) ∧ cur.size = c * 7 := by
    obtain ⟨_, inner, hown, _⟩ := HR2.out
    rcases hown.2 with ⟨hv, _⟩ | ⟨g', cap, cur, hv, _, hh, _, _, h5, _⟩
    · cases hv
    · injection hv with ha _ hc
      injection ha with ha
      injection ha with hg'
      subst hg'
      subst hc
      exact ⟨cur, hh, h5⟩
  have hzs : ((.agg #[.int .u32 0, .int .i64 0, .int .i64 0, .int .i64 0, .int .u64 0, .int .u16 0, .int .i64 0]) : Value).cells.size = 7 := by decide
  have hcl : ∀ ty, (Builtin.clear_ #[29] ty #[.slice (some ⟨g, (xs.length - 1) * 7, none⟩) (xs.length - (xs.length - 1)) (c - (xs.length - 1))]).run Try.prog w2 = .ok (.tuple #[]) (w2.setRow g (cur.toList.take ((xs.length - 1) * 7) ++ (Builtin.zeroCells ((.agg #[.int .u32 0, .int .i64 0, .int .i64 0, .int .i64 0, .int .u64 0, .int .u16 0, .int .i64 0]) : Value).cells (xs.length - (xs.length - 1))).toList ++ cur.toList.drop ((xs.length - 1) * 7 + (Builtin.zeroCells ((.agg #[.int .u32 0, .int .i64 0, .int .i64 0, .int .i64 0, .int .u64 0, .int .u16 0, .int .i64 0]) : Value).cells (xs.length - (xs.length - 1))).toList.length)).toArray) :=
    fun ty => run_clear_row Try.prog w2 29 51 ty (.agg #[.int .u32 0, .int .i64 0, .int .i64 0, .int .i64 0, .int .u64 0, .int .u16 0, .int .i64 0]) Try.underlying29 (fun w => Try.zeroValue51 w) (by decide) g ((xs.length - 1) * 7) _ _ (by omega) cur 51 hcur (by rw [hzs, hcsz]; omega)
  have hzl : (Builtin.zeroCells ((.agg #[.int .u32 0, .int .i64 0, .int .i64 0, .int .i64 0, .int .u64 0, .int .u16 0, .int .i64 0]) : Value).cells (xs.length - (xs.length - 1))).toList.length = (xs.length - (xs.length - 1)) * 7 := by simp [Builtin.zeroCells, hzs]
  obtain ⟨R2, hR2⟩ : ∃ R2, (cur.toList.take ((xs.length - 1) * 7) ++ (Builtin.zeroCells ((.agg #[.int .u32 0, .int .i64 0, .int .i64 0, .int .i64 0, .int .u64 0, .int .u16 0, .int .i64 0]) : Value).cells (xs.length - (xs.length - 1))).toList ++ cur.toList.drop ((xs.length - 1) * 7 + (Builtin.zeroCells ((.agg #[.int .u32 0, .int .i64 0, .int .i64 0, .int .i64 0, .int .u64 0, .int .u16 0, .int .i64 0]) : Value).cells (xs.length - (xs.length - 1))).toList.length)).toArray = R2 := ⟨_, rfl⟩
  rw [hR2] at hcl
  have HT : Aside0 (k51.R 51 (w2.setRow g R2) base ok (.slice (some ⟨g, 0, none⟩) (xs.length - 1) c) (xs.eraseIdx k) ∧ w2.grownBy (w2.setRow g R2) (some g)) := ⟨by
    have hLc : cur.toList.length = c * 7 := by rw [← hcsz]; exact Array.length_toList
    have hle : (xs.length - 1) * 7 + (xs.length - (xs.length - 1)) * 7 ≤ c * 7 := by omega
    refine R_tail HR2.out hcur ?_ ?_
    · rw [← hR2]
      simp only [List.size_toArray, List.length_append, List.length_take, List.length_drop, hzl, hLc, hcsz]
      omega
    · rw [← hR2]
      show List.take ((xs.length - 1) * 7) _ = List.take ((xs.length - 1) * 7) _
      rw [List.toList_toArray, List.append_assoc, List.take_append_of_le_length (by rw [List.length_take, hLc]; omega), List.take_take, Nat.min_self]⟩
  clear hzs hzl hR2 hcur hcsz
  go_wp2
  go_ret
  exact ⟨rfl, HT.out.1, ⟨HT.out.2.os.trans HG2.out.os, HT.out.2.tape.trans HG2.out.tape, HT.out.2.output.trans HG2.out.output, Nat.le_trans HG2.out.size HT.out.2.size, fun q hq hn => (HT.out.2.block q (Nat.lt_of_lt_of_le hq HG2.out.size) hn).trans (HG2.out.block q hq hn)⟩⟩
-- axioms: del_calls
section
open Go Go.Proofs Go.RowKit Go.Lib Go.Proofs.Ytfgalgeloflilaa.P Go.Proofs.YtfgalgeloflilaaW.PrintWords Go.Proofs.YtfgalgeloflilaaW.PrintLast Go.Proofs.YtfgalgeloflilaaW.PrintMore
theorem alloc3 {w W : World} {a b c : Obj} (h : ((w.alloc a).alloc b).alloc c = W) : Below w.heap.size w W ∧ W.heap.size = w.heap.size + 1 + 1 + 1 ∧ W.heap[w.heap.size]? = some a ∧ W.heap[w.heap.size + 1]? = some b ∧ W.heap[w.heap.size + 1 + 1]? = some c := by
  subst h
  have s1 := alloc_size w a
  have s2 := alloc_size (w.alloc a) b
  have s3 := alloc_size ((w.alloc a).alloc b) c
  have n1 := heap_alloc_new w a
  have n2 := heap_alloc_new (w.alloc a) b
  have n3 := heap_alloc_new ((w.alloc a).alloc b) c
  rw [s1] at n2
  rw [s2, s1] at n3
  refine ⟨((below_alloc (Below.refl _ _) a).alloc (by omega) b).alloc (by omega) c, by omega, ?_, ?_, n3⟩
  · rw [heap_alloc_old _ c (by omega), heap_alloc_old _ b (by omega)]; exact n1
  · rw [heap_alloc_old _ c (by omega)]; exact n2
theorem addr_z (g q : Nat) : Addr.add ⟨g, 0, none⟩ q = ⟨g, q, none⟩ := by
  unfold Addr.add
  split <;> simp_all
theorem R_some {α : Type} {d : Kd α} {e : Nat} {w : World} {base : Nat} {ok : Nat → Prop} {A : Option Addr} {n c : Nat} {xs : List α} (h : d.R e w base ok (.slice A n c) xs) (hn : 0 < xs.length) : ∃ g, A = some ⟨g, 0, none⟩ := by
  obtain ⟨_, inner, hown, _⟩ := h
  rcases hown.2 with ⟨_, h0⟩ | ⟨g, cap, cur, hv, _⟩
  · omega
  · injection hv with ha; exact ⟨g, ha⟩
/-- The cells of a request in a row that begins a block. -/
theorem at51 {w : World} {b n k : Nat} {l : List S51} (h : Kd.C k51 w (some ⟨b, 0, none⟩) n l) (hk : k < l.length) :
    w.cell? ⟨b, k * 7, none⟩ = some (.int .u32 (rd_T51 l k).f0) ∧ w.cell? ⟨b, k * 7 + 1, none⟩ = some (.int .i64 (rd_T51 l k).f1) ∧ w.cell? ⟨b, k * 7 + 2, none⟩ = some (.int .i64 (rd_T51 l k).f2) ∧ w.cell? ⟨b, k * 7 + 3, none⟩ = some (.int .i64 (rd_T51 l k).f3) ∧
      w.cell? ⟨b, k * 7 + 4, none⟩ = some (.int .u64 (rd_T51 l k).f4.f0) ∧ w.cell? ⟨b, k * 7 + 5, none⟩ = some (.int .u16 (rd_T51 l k).f4.f1) ∧ w.cell? ⟨b, k * 7 + 6, none⟩ = some (.int .i64 (rd_T51 l k).f5) := by
  obtain ⟨ad, e, hc⟩ := h.2.2 (by have := h.1; omega)
  injection e with e
  subst e
  have hx : l[k]? = some (rd_T51 l k) := by
    unfold rd_T51
    simp [List.getD_eq_getElem?_getD, hk]
  obtain ⟨c, _, h2, h3⟩ := hc k _ hx
  obtain rfl := k51_open h2
  have h4 : ∀ i u, [Value.int .u32 (rd_T51 l k).f0, .int .i64 (rd_T51 l k).f1, .int .i64 (rd_T51 l k).f2, .int .i64 (rd_T51 l k).f3, .int .u64 (rd_T51 l k).f4.f0, .int .u16 (rd_T51 l k).f4.f1, .int .i64 (rd_T51 l k).f5][i]? = some u → w.cell? ⟨b, k * 7 + i, none⟩ = some u := fun i u hi => by
    have h5 := h3 i u hi
    rw [addr_z] at h5
    exact h5
  exact ⟨h4 0 _ rfl, h4 1 _ rfl, h4 2 _ rfl, h4 3 _ rfl, h4 4 _ rfl, h4 5 _ rfl, h4 6 _ rfl⟩
def takeN (n : ND) (i : Int) : ND := if 0 ≤ i ∧ i < (n.l8.length : Int) then { n with l8 := n.l8.eraseIdx i.toNat } else n
def takeX (n : ND) (i : Int) : S51 := if 0 ≤ i ∧ i < (n.l8.length : Int) then rd_T51 n.l8 i else z51
abbrev pv (x : S51) : Value := .agg #[.int .u32 x.f0, .int .i64 x.f1, .int .i64 x.f2, .int .i64 x.f3, .int .u64 x.f4.f0, .int .u16 x.f4.f1, .int .i64 x.f5]
def TakeS (g b6 : Nat) (c2 c6 : Array Value) (V : World) : Prop := V.heap[g]? = some (.cells c2 34 (0, 0)) ∧ V.heap[b6]? = some (.cells c6 51 (0, 0))
/-- A node and a request. -/
def TakeP (n : ND) (x : S51) (w : World) (e : Ending) (w' : World) : Prop := ∃ s, e = .returned (.tuple #[nv n s, pv x]) ∧ NC w' n s ∧ Below w.heap.size w w'
set_option maxRecDepth 100000 in
set_option maxHeartbeats 8000000 in
theorem take_ok (n : ND) (s : NA) (i : Int) (w : World) (h : NC w n s) (hb : NB n) : Calls Try.prog 14 #[nv n s, .int .i64 i] w (TakeP (takeN n i) (takeX n i) w) := by
  obtain ⟨g, hg⟩ : ∃ g, w.heap.size = g := ⟨_, rfl⟩
  obtain ⟨W, hW⟩ : ∃ W, ((w.alloc (.cells #[.int .u64 n.a0, .int .u16 n.a1, .int .i64 n.a2, .bool n.a3, .slice s.A4 n.l4.length s.c4, .slice s.A5 n.l5.length s.c5, .slice s.A6 n.l6.length s.c6, .slice s.A7 n.l7.length s.c7, .slice s.A8 n.l8.length s.c8, .slice s.A9 n.l9.length s.c9, .slice s.A10 n.l10.length s.c10, .int .u32 n.a11, .int .i64 n.a12, .int .i64 n.a13] 34)).alloc (.cells #[.int .u64 0, .int .u16 0, .int .i64 0, .bool false, .slice none 0 0, .slice none 0 0, .slice none 0 0, .slice none 0 0, .slice none 0 0, .slice none 0 0, .slice none 0 0, .int .u32 0, .int .i64 0, .int .i64 0] 34)).alloc (.cells #[.int .u32 0, .int .i64 0, .int .i64 0, .int .i64 0, .int .u64 0, .int .u16 0, .int .i64 0] 51) = W := ⟨_, rfl⟩
  obtain ⟨hbW, hsW, e2, e4, e5⟩ := alloc3 hW
  rw [hg] at hsW e2 e4 e5
  have HCP : Aside0 (∀ V, Below w.heap.size w V → Calls Try.prog 9 #[nv n s] V (NodeP n V)) := ⟨fun V hV => copy_ok n s V (h.below hV) hb⟩
  have HLN : Aside0 (n.l8.length * 56 ≤ 140737488351232) := ⟨hb.b8⟩
  have HBW := Aside0.mk hbW
  have HSW := Aside0.mk hsW
  have HGG := Aside0.mk hg
  have HE := Aside0.mk (And.intro e2 (And.intro e4 e5))
  clear h hb hbW hsW
  unfold takeN takeX
  by_cases hin : 0 ≤ i ∧ i < (n.l8.length : Int)
  · rw [if_pos hin, if_pos hin]
    obtain ⟨k, hk⟩ : ∃ k : Nat, i = k := ⟨i.toNat, by omega⟩
    subst hk
    rw [Int.toNat_natCast]
    have hkl : k < n.l8.length := by omega
    have HKL := Aside0.mk hkl
    have p0 : (0 ≤ (k : Int)) = True := eq_true (by omega)
    have p1 : ((k : Int) < (n.l8.length : Int)) = True := eq_true (by omega)
    obtain ⟨x, hx⟩ : ∃ x, rd_T51 n.l8 (k : Int) = x := ⟨_, rfl⟩
    rw [hx]
    have HX := Aside0.mk hx
    clear hin hx e4 e5
    go_enter Try.func14, Try.ntmps14
    go_wp2_with (refine gate_ (.load 34 (.tmp 2)) rfl ?_; refine wpList_load_row rfl 34 _ rfl g rfl 34 _ (0, 0) _ e2 Try.underlying34 rfl (by kernel_rfl) ?_)
    refine (HCP.out W HBW.out).mono ?_
    rintro e w1 ⟨s1, rfl, hR1, hb1⟩
    obtain ⟨b, hb8⟩ := R_some hR1.o8 (by have := HKL.out; omega)
    have HR1 := Aside0.mk hR1
    have HB1 := Aside0.mk hb1
    have f2 := (hb1.block g (by have := HSW.out; omega)).trans HE.out.1
    have f4 := (hb1.block (g + 1) (by have := HSW.out; omega)).trans HE.out.2.1
    have f5 := (hb1.block (g + 1 + 1) (by have := HSW.out; omega)).trans HE.out.2.2
    have HF := Aside0.mk (And.intro f4 f5)
    have HB8 := Aside0.mk hb8
    clear hR1 hb1 e2 f4 f5 hW hb8
    go_wp2_with (refine store_box (.store 34 (.tmp 2) (.tmp 8)) 34 _ _ g 0 _ #[.int .u64 n.a0, .int .u16 n.a1, .int .i64 n.a2, .bool n.a3, .slice s1.A4 n.l4.length s1.c4, .slice s1.A5 n.l5.length s1.c5, .slice s1.A6 n.l6.length s1.c6, .slice s1.A7 n.l7.length s1.c7, .slice s1.A8 n.l8.length s1.c8, .slice s1.A9 n.l9.length s1.c9, .slice s1.A10 n.l10.length s1.c10, .int .u32 n.a11, .int .i64 n.a12, .int .i64 n.a13] 34 _ [.int .u64 n.a0, .int .u16 n.a1, .int .i64 n.a2, .bool n.a3, .slice s1.A4 n.l4.length s1.c4, .slice s1.A5 n.l5.length s1.c5, .slice s1.A6 n.l6.length s1.c6, .slice s1.A7 n.l7.length s1.c7, .slice s1.A8 n.l8.length s1.c8, .slice s1.A9 n.l9.length s1.c9, .slice s1.A10 n.l10.length s1.c10, .int .u32 n.a11, .int .i64 n.a12, .int .i64 n.a13] rfl rfl rfl rfl rfl rfl f2 rfl (by kernel_rfl) (by simp) (by simp [Value.oneCell']) (by simp) ?_; intro w2 e2 hs2; have HS2 := Aside0.mk hs2; clear hs2 f2; refine hold_ ?_)
    intro _
    have c8 : w2.cell? ⟨g, 8, none⟩ = some (.slice (some ⟨b, 0, none⟩) n.l8.length s1.c8) := by rw [← HB8.out]; exact (blk_cell e2 8).trans rfl
    have hR2 : NR w2 W.heap.size n s1 := HR1.out.step (fun k hk hlt => HS2.out.far k (by have := HSW.out; omega))
    have hO8 : Kd.R k51 51 w2 W.heap.size (fun _ => True) (.slice (some ⟨b, 0, none⟩) n.l8.length s1.c8) n.l8 := by rw [← HB8.out]; exact hR2.o8
    obtain ⟨x0, x1, x2, x3, x4, x5, x6⟩ := at51 (Kd.R_reads' hO8).2.2 hkl
    rw [show rd_T51 n.l8 k = x from HX.out] at x0 x1 x2 x3 x4 x5 x6
    have HR2 := Aside0.mk hR2
    have HO8 := Aside0.mk hO8
    have E2 := Aside0.mk e2
    have hwk : wrap64 ((k : Int) + 1) = (k : Int) + 1 := by have := HLN.out; unfold wrap64; omega
    obtain ⟨W3, hW3⟩ : ∃ W3, w2.alloc (.cells #[.int .u32 x.f0, .int .i64 x.f1, .int .i64 x.f2, .int .i64 x.f3, .int .u64 x.f4.f0, .int .u16 x.f4.f1, .int .i64 x.f5] 51) = W3 := ⟨_, rfl⟩
    have hb3 : Below w2.heap.size w2 W3 := by rw [← hW3]; exact below_alloc (Below.refl _ _) _
    have e6 : W3.heap[w2.heap.size]? = some (.cells #[.int .u32 x.f0, .int .i64 x.f1, .int .i64 x.f2, .int .i64 x.f3, .int .u64 x.f4.f0, .int .u16 x.f4.f1, .int .i64 x.f5] 51 (0, 0)) := by rw [← hW3]; exact heap_alloc_new w2 _
    have HB3 := Aside0.mk hb3
    have E6 := Aside0.mk e6
    have c8' : W3.cell? ⟨g, 8, none⟩ = some (.slice (some ⟨b, 0, none⟩) n.l8.length s1.c8) := pw_cell_below hb3 c8
    have hlen : n.l8.length - 1 = (n.l8.eraseIdx k).length := (List.length_eraseIdx_of_lt HKL.out).symm
    have hdel := del_calls (Kd.R_below hO8 hb3) HKL.out (Nat.le_trans (Nat.le_trans HB1.out.size (Nat.le_of_eq HS2.out.size.symm)) hb3.size) (by have := HLN.out; omega)
    rw [hlen] at hdel
    have HDEL := Aside0.mk hdel
    have hgb : g + 1 + 1 < b := by have := Kd.R_base hO8 b rfl; have := HSW.out; omega
    have hbw2 : b < w2.heap.size := ((Kd.R_bound hO8).1 b rfl).2.2.1
    have HGBB := Aside0.mk (And.intro hgb hbw2)
    clear hR2 hO8 hb3 e6 e2 hlen hdel hgb hbw2
    go_wp2_with fail
    refine HDEL.out.mono ?_
    rintro e w4 ⟨rfl, hR4, hg4⟩
    have HR4 := Aside0.mk hR4
    have HG4 := Aside0.mk hg4
    have e2 : w4.heap[g]? = some (.cells #[.int .u64 n.a0, .int .u16 n.a1, .int .i64 n.a2, .bool n.a3, .slice s1.A4 n.l4.length s1.c4, .slice s1.A5 n.l5.length s1.c5, .slice s1.A6 n.l6.length s1.c6, .slice s1.A7 n.l7.length s1.c7, .slice s1.A8 n.l8.length s1.c8, .slice s1.A9 n.l9.length s1.c9, .slice s1.A10 n.l10.length s1.c10, .int .u32 n.a11, .int .i64 n.a12, .int .i64 n.a13] 34 (0, 0)) := (HG4.out.block g (blk_lt ((HB3.out.block g (blk_lt E2.out)).trans E2.out)) (fun e => by have := HGBB.out.1; cases e; omega)).trans ((HB3.out.block g (blk_lt E2.out)).trans E2.out)
    clear hR4 hg4 c8 c8' x0 x1 x2 x3 x4 x5 x6 hW3
    go_wp2_with (refine store_box (.store 29 (.tmp 31) (.tmp 30)) 29 _ _ g 8 _ #[.int .u64 n.a0, .int .u16 n.a1, .int .i64 n.a2, .bool n.a3, .slice s1.A4 n.l4.length s1.c4, .slice s1.A5 n.l5.length s1.c5, .slice s1.A6 n.l6.length s1.c6, .slice s1.A7 n.l7.length s1.c7, .slice (some ⟨b, 0, none⟩) (n.l8.eraseIdx k).length s1.c8, .slice s1.A9 n.l9.length s1.c9, .slice s1.A10 n.l10.length s1.c10, .int .u32 n.a11, .int .i64 n.a12, .int .i64 n.a13] 34 (.slice (some ⟨b, 0, none⟩) (n.l8.eraseIdx k).length s1.c8) [.slice (some ⟨b, 0, none⟩) (n.l8.eraseIdx k).length s1.c8] rfl rfl rfl rfl rfl rfl e2 rfl (by kernel_rfl) (by simp) (by simp [Value.oneCell']) (by simp) ?_; intro w5 e2' hs5; have HS5 := Aside0.mk hs5; clear hs5 e2)
    obtain ⟨b6, hb6⟩ : ∃ b6, w2.heap.size = b6 := ⟨_, rfl⟩
    obtain ⟨w6, hw6⟩ : ∃ w6, w5.drew = w6 := ⟨_, rfl⟩
    have h6 : ∀ q : Nat, w6.heap[q]? = w5.heap[q]? := fun q => by rw [← hw6]; rfl
    have hB6 : g + 1 + 1 < b6 := by have := HGBB.out; omega
    have hne6 : b6 ≠ b := by have := HGBB.out; omega
    have E6b := E6.out
    rw [hb6] at E6b ⊢
    have mv : ∀ (q : Nat) (c : Array Value) (t : TypeId), W3.heap[q]? = some (.cells c t (0, 0)) → q ≠ b → q ≠ g → w6.heap[q]? = some (.cells c t (0, 0)) := fun q c t hq h1 h2 => (h6 q).trans (HS5.out.blk h2 ((HG4.out.block q (blk_lt hq) (fun e => h1 (by cases e; rfl))).trans hq))
    have m4 := (HB3.out.block (g + 1) (blk_lt (HS2.out.blk (by omega) HF.out.1))).trans (HS2.out.blk (by omega) HF.out.1)
    have m5 := (HB3.out.block (g + 1 + 1) (blk_lt (HS2.out.blk (by omega) HF.out.2))).trans (HS2.out.blk (by omega) HF.out.2)
    have hgb1 := HGBB.out.1
    have HF6 : Aside0 (w6.heap[g + 1]? = some (.cells #[.int .u64 0, .int .u16 0, .int .i64 0, .bool false, .slice none 0 0, .slice none 0 0, .slice none 0 0, .slice none 0 0, .slice none 0 0, .slice none 0 0, .slice none 0 0, .int .u32 0, .int .i64 0, .int .i64 0] 34 (0, 0)) ∧ w6.heap[g + 1 + 1]? = some (.cells #[.int .u32 0, .int .i64 0, .int .i64 0, .int .i64 0, .int .u64 0, .int .u16 0, .int .i64 0] 51 (0, 0))) := ⟨mv _ _ _ m4 (by omega) (by omega), mv _ _ _ m5 (by omega) (by omega)⟩
    have hs6 : TakeS g b6 #[.int .u64 n.a0, .int .u16 n.a1, .int .i64 n.a2, .bool n.a3, .slice s1.A4 n.l4.length s1.c4, .slice s1.A5 n.l5.length s1.c5, .slice s1.A6 n.l6.length s1.c6, .slice s1.A7 n.l7.length s1.c7, .slice (some ⟨b, 0, none⟩) (n.l8.eraseIdx k).length s1.c8, .slice s1.A9 n.l9.length s1.c9, .slice s1.A10 n.l10.length s1.c10, .int .u32 n.a11, .int .i64 n.a12, .int .i64 n.a13] #[.int .u32 x.f0, .int .i64 x.f1, .int .i64 x.f2, .int .i64 x.f3, .int .u64 x.f4.f0, .int .u16 x.f4.f1, .int .i64 x.f5] w6 := ⟨(h6 g).trans e2', mv _ _ _ E6b hne6 (by omega)⟩
    have HBB6 := Aside0.mk hB6
    have HSF : Aside0 (∀ (V V' : World) (q : Nat), Sto V V' q → (q = g + 1 ∨ q = g + 1 + 1) → TakeS g b6 #[.int .u64 n.a0, .int .u16 n.a1, .int .i64 n.a2, .bool n.a3, .slice s1.A4 n.l4.length s1.c4, .slice s1.A5 n.l5.length s1.c5, .slice s1.A6 n.l6.length s1.c6, .slice s1.A7 n.l7.length s1.c7, .slice (some ⟨b, 0, none⟩) (n.l8.eraseIdx k).length s1.c8, .slice s1.A9 n.l9.length s1.c9, .slice s1.A10 n.l10.length s1.c10, .int .u32 n.a11, .int .i64 n.a12, .int .i64 n.a13] #[.int .u32 x.f0, .int .i64 x.f1, .int .i64 x.f2, .int .i64 x.f3, .int .u64 x.f4.f0, .int .u16 x.f4.f1, .int .i64 x.f5] V → TakeS g b6 #[.int .u64 n.a0, .int .u16 n.a1, .int .i64 n.a2, .bool n.a3, .slice s1.A4 n.l4.length s1.c4, .slice s1.A5 n.l5.length s1.c5, .slice s1.A6 n.l6.length s1.c6, .slice s1.A7 n.l7.length s1.c7, .slice (some ⟨b, 0, none⟩) (n.l8.eraseIdx k).length s1.c8, .slice s1.A9 n.l9.length s1.c9, .slice s1.A10 n.l10.length s1.c10, .int .u32 n.a11, .int .i64 n.a12, .int .i64 n.a13] #[.int .u32 x.f0, .int .i64 x.f1, .int .i64 x.f2, .int .i64 x.f3, .int .u64 x.f4.f0, .int .u16 x.f4.f1, .int .i64 x.f5] V') := ⟨fun V V' q hs hq h => ⟨hs.blk (by omega) h.1, hs.blk (by have := HBB6.out; omega) h.2⟩⟩
    have HFIN : Aside0 (∀ w8 : World, (∀ q : Nat, q ≠ g + 1 ∧ q ≠ g + 1 + 1 → w8.heap[q]? = w6.heap[q]?) → Below w.heap.size w6 w8 → TakeP { n with l8 := n.l8.eraseIdx k } x w (.returned (.tuple #[nv { n with l8 := n.l8.eraseIdx k } { s1 with A8 := some ⟨b, 0, none⟩, c8 := s1.c8 }, pv x])) w8) := ⟨by
      intro w8 hfar hb68
      have hsw := HSW.out
      have hgg := HGG.out
      have hmv : ∀ q : Nat, W.heap.size ≤ q → w8.heap[q]? = w4.heap[q]? := fun q hq => (hfar q (by omega)).trans ((h6 q).trans (HS5.out.far q (by omega)))
      have r3 := HR2.out.below HB3.out
      have p4 := Kd.R_step (Kd.R_bound (grow_other r3.o4 (Kd.R_below HO8.out HB3.out) HG4.out (by decide))) (fun q hq hlt => hmv q hq.2.1)
      have p5 := Kd.R_step (Kd.R_bound (grow_other r3.o5 (Kd.R_below HO8.out HB3.out) HG4.out (by decide))) (fun q hq hlt => hmv q hq.2.1)
      have p6 := Kd.R_step (Kd.R_bound (grow_other r3.o6 (Kd.R_below HO8.out HB3.out) HG4.out (by decide))) (fun q hq hlt => hmv q hq.2.1)
      have p7 := Kd.R_step (Kd.R_bound (grow_other r3.o7 (Kd.R_below HO8.out HB3.out) HG4.out (by decide))) (fun q hq hlt => hmv q hq.2.1)
      have p9 := Kd.R_step (Kd.R_bound (grow_other r3.o9 (Kd.R_below HO8.out HB3.out) HG4.out (by decide))) (fun q hq hlt => hmv q hq.2.1)
      have p10 := Kd.R_step (Kd.R_bound (grow_other r3.o10 (Kd.R_below HO8.out HB3.out) HG4.out (by decide))) (fun q hq hlt => hmv q hq.2.1)
      have p8 := Kd.R_step (Kd.R_bound HR4.out) (fun q hq hlt => hmv q hq.2.1)
      have hB2 := HS2.out.on (B := w.heap.size) (by omega) (below_then HBW.out HBW.out.size HB1.out)
      have hB3' := below_then hB2 hB2.size HB3.out
      have hB4 : Below w.heap.size w w4 := ⟨HG4.out.os.trans hB3'.os, HG4.out.tape.trans hB3'.tape, HG4.out.output.trans hB3'.output, Nat.le_trans hB3'.size HG4.out.size, fun q hq => (HG4.out.block q (Nat.lt_of_lt_of_le hq hB3'.size) (fun e => by have := HGBB.out.1; cases e; omega)).trans (hB3'.block q hq)⟩
      have hB6' : Below w.heap.size w w6 := by rw [← hw6]; exact (HS5.out.on (B := w.heap.size) (by omega) hB4).drew
      exact ⟨_, rfl, ⟨(Kd.R_reads' p4).2.2, (Kd.R_reads' p4).2.1, (Kd.R_reads' p5).2.2, (Kd.R_reads' p5).2.1, (Kd.R_reads' p6).2.2, (Kd.R_reads' p6).2.1, (Kd.R_reads' p7).2.2, (Kd.R_reads' p7).2.1, (Kd.R_reads' p8).2.2, (Kd.R_reads' p8).2.1, (Kd.R_reads' p9).2.2, (Kd.R_reads' p9).2.1, (Kd.R_reads' p10).2.2, (Kd.R_reads' p10).2.1⟩, hB6'.trans hb68⟩⟩
    clear m4 m5 mv E6b hgb1 hne6 hB6 hb6 e2' h6
    refine start_ (n := 4) (S := TakeS g b6 #[.int .u64 n.a0, .int .u16 n.a1, .int .i64 n.a2, .bool n.a3, .slice s1.A4 n.l4.length s1.c4, .slice s1.A5 n.l5.length s1.c5, .slice s1.A6 n.l6.length s1.c6, .slice s1.A7 n.l7.length s1.c7, .slice (some ⟨b, 0, none⟩) (n.l8.eraseIdx k).length s1.c8, .slice s1.A9 n.l9.length s1.c9, .slice s1.A10 n.l10.length s1.c10, .int .u32 n.a11, .int .i64 n.a12, .int .i64 n.a13] #[.int .u32 x.f0, .int .i64 x.f1, .int .i64 x.f2, .int .i64 x.f3, .int .u64 x.f4.f0, .int .u16 x.f4.f1, .int .i64 x.f5]) (ds := []) #[false, false, false, false] (by kernel_rfl) rfl rfl (by rw [hw6]; exact hs6) (fun hJ => ?_)
    rw [hw6] at hJ ⊢
    clear hw6 hs6
    refine take_ (i := 0) (N := some 32) (v := ?_) (a' := ?_) #[true, false, false, false] rfl rfl (by kernel_rfl) (fun _ _ _ h => h) (Or.inl ⟨by rfl, ?_⟩) hJ ?_ ?_
    rotate_left
    · rintro w' ⟨s0, s1_⟩
      refine load_yields (x := .tmp 2) ?_ ?_ s0 Try.underlying34 rfl (by kernel_rfl)
      · rfl
      · rfl
    rotate_left
    · simp only [Act.put, List.setIfInBounds_toArray, List.set_cons_zero, List.set_cons_succ, i64_w, i32_w]
      rfl
    refine take_ (i := 1) (N := some 33) (v := ?_) (a' := ?_) #[true, true, false, false] rfl rfl (by kernel_rfl) (fun _ _ _ h => h) (Or.inl ⟨by rfl, ?_⟩) hJ ?_ ?_
    rotate_left
    · rintro w' ⟨s0, s1_⟩
      refine load_yields (x := .tmp 6) ?_ ?_ s1_ Try.underlying51 rfl (by kernel_rfl)
      · rfl
      · rfl
    rotate_left
    · simp only [Act.put, List.setIfInBounds_toArray, List.set_cons_zero, List.set_cons_succ, i64_w, i32_w]
      rfl
    refine one_ (i := 2) (N := none) #[true, true, true, false] rfl rfl (by kernel_rfl) (by decide) (fun K hK => ?_)
    refine store_step 34 _ _ (g + 1) 0 _ #[.int .u64 n.a0, .int .u16 n.a1, .int .i64 n.a2, .bool n.a3, .slice s1.A4 n.l4.length s1.c4, .slice s1.A5 n.l5.length s1.c5, .slice s1.A6 n.l6.length s1.c6, .slice s1.A7 n.l7.length s1.c7, .slice (some ⟨b, 0, none⟩) (n.l8.eraseIdx k).length s1.c8, .slice s1.A9 n.l9.length s1.c9, .slice s1.A10 n.l10.length s1.c10, .int .u32 n.a11, .int .i64 n.a12, .int .i64 n.a13] 34 _ [.int .u64 n.a0, .int .u16 n.a1, .int .i64 n.a2, .bool n.a3, .slice s1.A4 n.l4.length s1.c4, .slice s1.A5 n.l5.length s1.c5, .slice s1.A6 n.l6.length s1.c6, .slice s1.A7 n.l7.length s1.c7, .slice (some ⟨b, 0, none⟩) (n.l8.eraseIdx k).length s1.c8, .slice s1.A9 n.l9.length s1.c9, .slice s1.A10 n.l10.length s1.c10, .int .u32 n.a11, .int .i64 n.a12, .int .i64 n.a13] (by rfl) rfl rfl rfl HF6.out.1 rfl (by kernel_rfl) (by simp) (by simp [Value.oneCell']) (by simp) ?_
    intro w7 eA hsA
    have hS_ := HSF.out _ _ _ hsA (.inl rfl) hJ
    have HSA := Aside0.mk hsA
    clear hsA
    refine hK.out _ _ hS_ (fun hJ1 => ?_)
    clear hS_
    clear hK K
    refine norm_ (a' := ?_) ?_ ?_
    rotate_left
    · show Act.put _ (none) _ = _
      simp only [Act.put, List.setIfInBounds_toArray, List.set_cons_zero, List.set_cons_succ, i64_w, i32_w]
      rfl
    refine one_ (i := 3) (N := none) #[true, true, true, true] rfl rfl (by kernel_rfl) (by decide) (fun K hK => ?_)
    refine store_step 51 _ _ (g + 1 + 1) 0 _ #[.int .u32 x.f0, .int .i64 x.f1, .int .i64 x.f2, .int .i64 x.f3, .int .u64 x.f4.f0, .int .u16 x.f4.f1, .int .i64 x.f5] 51 _ [.int .u32 x.f0, .int .i64 x.f1, .int .i64 x.f2, .int .i64 x.f3, .int .u64 x.f4.f0, .int .u16 x.f4.f1, .int .i64 x.f5] (by rfl) rfl rfl rfl (HSA.out.blk (by omega) HF6.out.2) rfl (by kernel_rfl) (by simp) (by simp [Value.oneCell']) (by simp) ?_
    intro w8 eB hsB
    have hS_ := HSF.out _ _ _ hsB (.inr rfl) hJ1
    have HSB := Aside0.mk hsB
    clear hsB
    refine hK.out _ _ hS_ (fun hJ2 => ?_)
    clear hS_
    clear hK K
    refine norm_ (a' := ?_) ?_ ?_
    rotate_left
    · show Act.put _ (none) _ = _
      simp only [Act.put, List.setIfInBounds_toArray, List.set_cons_zero, List.set_cons_succ, i64_w, i32_w]
      rfl
    refine done_ (by kernel_rfl) ?_
    go_wp2_with fail
    have h4 : w8.heap[g + 1]? = some (.cells #[.int .u64 n.a0, .int .u16 n.a1, .int .i64 n.a2, .bool n.a3, .slice s1.A4 n.l4.length s1.c4, .slice s1.A5 n.l5.length s1.c5, .slice s1.A6 n.l6.length s1.c6, .slice s1.A7 n.l7.length s1.c7, .slice (some ⟨b, 0, none⟩) (n.l8.eraseIdx k).length s1.c8, .slice s1.A9 n.l9.length s1.c9, .slice s1.A10 n.l10.length s1.c10, .int .u32 n.a11, .int .i64 n.a12, .int .i64 n.a13] 34 (0, 0)) := HSB.out.blk (by omega) eA
    have h5 : w8.heap[g + 1 + 1]? = some (.cells #[.int .u32 x.f0, .int .i64 x.f1, .int .i64 x.f2, .int .i64 x.f3, .int .u64 x.f4.f0, .int .u16 x.f4.f1, .int .i64 x.f5] 51 (0, 0)) := eB
    obtain ⟨y0, y1, y2, y3, y4, y5, y6, y7, y8, y9, y10, y11, y12, y13, _⟩ := box14f h4
    obtain ⟨z0, z1, z2, z3, z4, z5, z6, _⟩ := box7f h5
    refine bodyPost_ret (v := .tuple #[nv { n with l8 := n.l8.eraseIdx k } { s1 with A8 := some ⟨b, 0, none⟩, c8 := s1.c8 }, pv x]) ?hres rfl ?_
    case hres =>
      simp only [results, Try.f14]
      go_simp
    exact HFIN.out w8 (fun q hq => (HSB.out.far q (by omega)).trans (HSA.out.far q (by omega))) (HSB.out.on (by have := HGG.out; omega) (HSA.out.on (by have := HGG.out; omega) (Below.refl _ _)))
  · rw [if_neg hin, if_neg hin]
    have hcs : (i < 0) = True ∨ ((i < 0) = False ∧ ((n.l8.length : Int) ≤ i) = True) := by
      by_cases h1 : i < 0
      · exact .inl (eq_true h1)
      · exact .inr ⟨eq_false h1, eq_true (by omega)⟩
    clear hin e4 e5
    rcases hcs with p0 | ⟨p0, p1⟩
    all_goals
      go_enter Try.func14, Try.ntmps14
      go_wp2_with (refine gate_ (.load 34 (.tmp 2)) rfl ?_; refine wpList_load_row rfl 34 _ rfl g rfl 34 _ (0, 0) _ e2 Try.underlying34 rfl (by kernel_rfl) ?_)
      refine (HCP.out W HBW.out).mono ?_
      rintro e w1 ⟨s1, rfl, hR1, hb1⟩
      have HR1 := Aside0.mk hR1
      have HB1 := Aside0.mk hb1
      have f2 := (hb1.block g (by have := HSW.out; omega)).trans HE.out.1
      have f4 := (hb1.block (g + 1) (by have := HSW.out; omega)).trans HE.out.2.1
      have f5 := (hb1.block (g + 1 + 1) (by have := HSW.out; omega)).trans HE.out.2.2
      have HF := Aside0.mk (And.intro f4 f5)
      clear hR1 hb1 e2 f4 f5 hW
      go_wp2_with (refine store_box (.store 34 (.tmp 2) (.tmp 8)) 34 _ _ g 0 _ #[.int .u64 n.a0, .int .u16 n.a1, .int .i64 n.a2, .bool n.a3, .slice s1.A4 n.l4.length s1.c4, .slice s1.A5 n.l5.length s1.c5, .slice s1.A6 n.l6.length s1.c6, .slice s1.A7 n.l7.length s1.c7, .slice s1.A8 n.l8.length s1.c8, .slice s1.A9 n.l9.length s1.c9, .slice s1.A10 n.l10.length s1.c10, .int .u32 n.a11, .int .i64 n.a12, .int .i64 n.a13] 34 _ [.int .u64 n.a0, .int .u16 n.a1, .int .i64 n.a2, .bool n.a3, .slice s1.A4 n.l4.length s1.c4, .slice s1.A5 n.l5.length s1.c5, .slice s1.A6 n.l6.length s1.c6, .slice s1.A7 n.l7.length s1.c7, .slice s1.A8 n.l8.length s1.c8, .slice s1.A9 n.l9.length s1.c9, .slice s1.A10 n.l10.length s1.c10, .int .u32 n.a11, .int .i64 n.a12, .int .i64 n.a13] rfl rfl rfl rfl rfl rfl f2 rfl (by kernel_rfl) (by simp) (by simp [Value.oneCell']) (by simp) ?_; intro w2 e2 hs2; have HS2 := Aside0.mk hs2; clear hs2 f2; refine hold_ ?_)
      intro _
      have c8 : w2.cell? ⟨g, 8, none⟩ = some (.slice s1.A8 n.l8.length s1.c8) := (blk_cell e2 8).trans rfl
      have f4 := HS2.out.blk (by omega) HF.out.1
      go_wp2_with (first
        | (refine gate_ (.load 34 (.tmp 2)) rfl ?_; refine wpList_load_row rfl 34 _ rfl g rfl 34 _ (0, 0) _ e2 Try.underlying34 rfl (by kernel_rfl) ?_)
        | (refine store_box (.store 34 (.tmp 4) (.tmp 18)) 34 _ _ (g + 1) 0 _ #[.int .u64 n.a0, .int .u16 n.a1, .int .i64 n.a2, .bool n.a3, .slice s1.A4 n.l4.length s1.c4, .slice s1.A5 n.l5.length s1.c5, .slice s1.A6 n.l6.length s1.c6, .slice s1.A7 n.l7.length s1.c7, .slice s1.A8 n.l8.length s1.c8, .slice s1.A9 n.l9.length s1.c9, .slice s1.A10 n.l10.length s1.c10, .int .u32 n.a11, .int .i64 n.a12, .int .i64 n.a13] 34 _ [.int .u64 n.a0, .int .u16 n.a1, .int .i64 n.a2, .bool n.a3, .slice s1.A4 n.l4.length s1.c4, .slice s1.A5 n.l5.length s1.c5, .slice s1.A6 n.l6.length s1.c6, .slice s1.A7 n.l7.length s1.c7, .slice s1.A8 n.l8.length s1.c8, .slice s1.A9 n.l9.length s1.c9, .slice s1.A10 n.l10.length s1.c10, .int .u32 n.a11, .int .i64 n.a12, .int .i64 n.a13] rfl rfl rfl rfl rfl rfl f4 rfl (by kernel_rfl) (by simp) (by simp [Value.oneCell']) (by simp) ?_; intro w3 e4 hs3; have HS3 := Aside0.mk hs3; have f5 := HS3.out.blk (by omega) (HS2.out.blk (by omega) HF.out.2); clear hs3 f4 c8)
        | (refine store_box (.store 51 (.tmp 5) (.tmp 19)) 51 _ _ (g + 1 + 1) 0 _ #[.int .u32 0, .int .i64 0, .int .i64 0, .int .i64 0, .int .u64 0, .int .u16 0, .int .i64 0] 51 _ [.int .u32 0, .int .i64 0, .int .i64 0, .int .i64 0, .int .u64 0, .int .u16 0, .int .i64 0] rfl rfl rfl rfl rfl rfl f5 rfl (by kernel_rfl) (by simp) (by simp [Value.oneCell']) (by simp) ?_; intro w4 e5 hs4; have HS4 := Aside0.mk hs4; have e4' := HS4.out.blk (by omega) e4; clear hs4 f5 e4))
      obtain ⟨y0, y1, y2, y3, y4, y5, y6, y7, y8, y9, y10, y11, y12, y13, _⟩ := box14f e4'
      obtain ⟨z0, z1, z2, z3, z4, z5, z6, _⟩ := box7f e5
      refine bodyPost_ret (v := .tuple #[nv n s1, .agg #[.int .u32 0, .int .i64 0, .int .i64 0, .int .i64 0, .int .u64 0, .int .u16 0, .int .i64 0]]) ?hres rfl ?_
      case hres =>
        simp only [results, Try.f14]
        go_simp
      have hR4 : NR w4 W.heap.size n s1 := ((HR1.out.step (fun k hk hlt => HS2.out.far k (by have := HSW.out; omega))).step (fun k hk hlt => HS3.out.far k (by have := HSW.out; omega))).step (fun k hk hlt => HS4.out.far k (by have := HSW.out; omega))
      have hgg := HGG.out
      exact ⟨s1, rfl, hR4.reads, HS4.out.on (B := w.heap.size) (by omega) (HS3.out.on (B := w.heap.size) (by omega) (HS2.out.on (B := w.heap.size) (by omega) (below_then HBW.out HBW.out.size HB1.out)))⟩
-- axioms: take_ok
end
section
open Go Go.Proofs Go.RowKit Go.Lib Go.Proofs.Ytfgalgeloflilaa.P Go.Proofs.YtfgalgeloflilaaW.PrintWords Go.Proofs.YtfgalgeloflilaaW.PrintLast Go.Proofs.YtfgalgeloflilaaW.PrintMore
def restT (l : List S51) (i : Int) (k : Nat) : List S51 := if 0 ≤ i ∧ i < (k : Int) then (l.take k).eraseIdx i.toNat else l.take k
def xT (l : List S51) (i : Int) (k : Nat) : S51 := if 0 ≤ i ∧ i < (k : Int) then rd_T51 l i else z51
theorem restT_at {l : List S51} {k : Nat} (h : k < l.length) : restT l (k : Int) (k + 1) = restT l (k : Int) k ∧ xT l (k : Int) (k + 1) = rd_T51 l (k : Int) := by
  unfold restT xT
  rw [if_pos (by omega), if_neg (by omega), if_pos (by omega)]
  refine ⟨?_, rfl⟩
  have hl : (l.take k).length = k := by simp; omega
  rw [Int.toNat_natCast, rd_snoc l k h, List.eraseIdx_append_of_length_le (by rw [hl]; exact Nat.le_refl _)]
  rw [hl, Nat.sub_self]
  simp
theorem restT_ne {l : List S51} {i : Int} {k : Nat} (h : k < l.length) (hi : (k : Int) ≠ i) : restT l i (k + 1) = restT l i k ++ [rd_T51 l (k : Int)] ∧ xT l i (k + 1) = xT l i k := by
  unfold restT xT
  by_cases h1 : 0 ≤ i ∧ i < (k : Int)
  · rw [if_pos (by omega), if_pos h1, if_pos (by omega), if_pos h1]
    refine ⟨?_, rfl⟩
    rw [rd_snoc l k h, List.eraseIdx_append_of_lt_length (by simp; omega)]
  · rw [if_neg (by omega), if_neg h1, if_neg (by omega), if_neg h1]
    exact ⟨rd_snoc l k h, rfl⟩
theorem restT_len (l : List S51) (i : Int) (k : Nat) (hk : k ≤ l.length) : (restT l i k).length ≤ k := by
  unfold restT
  have h2 : (l.take k).length ≤ k := by simp; omega
  split
  · exact Nat.le_trans (List.length_eraseIdx_le (l.take k) i.toNat) h2
  · exact h2
theorem takeN_eq (n : ND) (i : Int) : takeN n i = { n with l8 := restT n.l8 i n.l8.length } ∧ takeX n i = xT n.l8 i n.l8.length := by
  unfold takeN takeX restT xT
  by_cases h : 0 ≤ i ∧ i < (n.l8.length : Int)
  · simp only [if_pos h, List.take_length, and_self]
  · simp only [if_neg h, List.take_length, and_self]
/-- What stays as it is in the rounds of Take. -/
structure RT (w wr : World) (g : Nat) (c2 c4 c5 c6 : Array Value) : Prop where
  b2 : wr.heap[g]? = some (.cells c2 34 (0, 0))
  b4 : wr.heap[g + 1]? = some (.cells c4 34 (0, 0))
  b5 : wr.heap[g + 1 + 1]? = some (.cells c5 51 (0, 0))
  b6 : wr.heap[g + 1 + 1 + 1]? = some (.cells c6 51 (0, 0))
  bel : Below w.heap.size w wr
theorem RT.grown {w wr w1 : World} {g : Nat} {c2 c4 c5 c6 : Array Value} (h : RT w wr g c2 c4 c5 c6) (hb : Below (g + 1 + 1 + 1 + 1) wr w1) (hg : w.heap.size = g) : RT w w1 g c2 c4 c5 c6 :=
  ⟨(hb.block _ (by omega)).trans h.b2, (hb.block _ (by omega)).trans h.b4, (hb.block _ (by omega)).trans h.b5, (hb.block _ (by omega)).trans h.b6, h.bel.trans (hb.mono (by omega))⟩
set_option maxRecDepth 100000 in
set_option maxHeartbeats 8000000 in
theorem rtake_ok (n : ND) (s : NA) (i : Int) (w : World) (h : NC w n s) (hl : n.l8.length ≤ 100000) : Calls Try.prog 15 #[nv n s, .int .i64 i] w (TakeP (takeN n i) (takeX n i) w) := by
  rw [(takeN_eq n i).1, (takeN_eq n i).2]
  obtain ⟨g, hg⟩ : ∃ g, w.heap.size = g := ⟨_, rfl⟩
  obtain ⟨W, hW⟩ : ∃ W, (((w.alloc (.cells #[.int .u64 n.a0, .int .u16 n.a1, .int .i64 n.a2, .bool n.a3, .slice s.A4 n.l4.length s.c4, .slice s.A5 n.l5.length s.c5, .slice s.A6 n.l6.length s.c6, .slice s.A7 n.l7.length s.c7, .slice s.A8 n.l8.length s.c8, .slice s.A9 n.l9.length s.c9, .slice s.A10 n.l10.length s.c10, .int .u32 n.a11, .int .i64 n.a12, .int .i64 n.a13] 34)).alloc (.cells #[.int .u64 0, .int .u16 0, .int .i64 0, .bool false, .slice none 0 0, .slice none 0 0, .slice none 0 0, .slice none 0 0, .slice none 0 0, .slice none 0 0, .slice none 0 0, .int .u32 0, .int .i64 0, .int .i64 0] 34)).alloc (.cells #[.int .u32 0, .int .i64 0, .int .i64 0, .int .i64 0, .int .u64 0, .int .u16 0, .int .i64 0] 51)).alloc (.cells #[.int .u32 0, .int .i64 0, .int .i64 0, .int .i64 0, .int .u64 0, .int .u16 0, .int .i64 0] 51) = W := ⟨_, rfl⟩
  obtain ⟨hbW, hsW, e2, e4, e5, e6⟩ := alloc4 hW
  rw [hg] at hsW e2 e4 e5 e6
  have HN := Aside0.mk h
  have HRT : Aside0 (RT w W g #[.int .u64 n.a0, .int .u16 n.a1, .int .i64 n.a2, .bool n.a3, .slice s.A4 n.l4.length s.c4, .slice s.A5 n.l5.length s.c5, .slice s.A6 n.l6.length s.c6, .slice s.A7 n.l7.length s.c7, .slice s.A8 n.l8.length s.c8, .slice s.A9 n.l9.length s.c9, .slice s.A10 n.l10.length s.c10, .int .u32 n.a11, .int .i64 n.a12, .int .i64 n.a13] #[.int .u64 0, .int .u16 0, .int .i64 0, .bool false, .slice none 0 0, .slice none 0 0, .slice none 0 0, .slice none 0 0, .slice none 0 0, .slice none 0 0, .slice none 0 0, .int .u32 0, .int .i64 0, .int .i64 0] #[.int .u32 0, .int .i64 0, .int .i64 0, .int .i64 0, .int .u64 0, .int .u16 0, .int .i64 0] #[.int .u32 (xT n.l8 i 0).f0, .int .i64 (xT n.l8 i 0).f1, .int .i64 (xT n.l8 i 0).f2, .int .i64 (xT n.l8 i 0).f3, .int .u64 (xT n.l8 i 0).f4.f0, .int .u16 (xT n.l8 i 0).f4.f1, .int .i64 (xT n.l8 i 0).f5]) := ⟨⟨e2, e4, e5, by rw [show xT n.l8 i 0 = z51 from if_neg (by omega)]; exact e6, hbW⟩⟩
  have HSW := Aside0.mk hsW
  have HGG := Aside0.mk hg
  have HL := Aside0.mk hl
  clear h hl hbW hsW e2 e4 e5
  go_enter Try.func15, Try.ntmps15
  go_wp2_with (refine store_box (.store 51 (.tmp 6) (.tmp 9)) 51 _ _ (g + 1 + 1 + 1) 0 _ #[.int .u32 0, .int .i64 0, .int .i64 0, .int .i64 0, .int .u64 0, .int .u16 0, .int .i64 0] 51 _ [.int .u32 0, .int .i64 0, .int .i64 0, .int .i64 0, .int .u64 0, .int .u16 0, .int .i64 0] rfl rfl rfl rfl rfl rfl e6 rfl (by kernel_rfl) (by simp) (by simp [Value.oneCell']) (by simp) ?_; intro w1 e6' hs1; have HS1 := Aside0.mk hs1; have E6 := Aside0.mk e6'; clear hs1 e6 e6' hW)
  have HRT1 : Aside0 (RT w w1 g #[.int .u64 n.a0, .int .u16 n.a1, .int .i64 n.a2, .bool n.a3, .slice s.A4 n.l4.length s.c4, .slice s.A5 n.l5.length s.c5, .slice s.A6 n.l6.length s.c6, .slice s.A7 n.l7.length s.c7, .slice s.A8 n.l8.length s.c8, .slice s.A9 n.l9.length s.c9, .slice s.A10 n.l10.length s.c10, .int .u32 n.a11, .int .i64 n.a12, .int .i64 n.a13] #[.int .u64 0, .int .u16 0, .int .i64 0, .bool false, .slice none 0 0, .slice none 0 0, .slice none 0 0, .slice none 0 0, .slice none 0 0, .slice none 0 0, .slice none 0 0, .int .u32 0, .int .i64 0, .int .i64 0] #[.int .u32 0, .int .i64 0, .int .i64 0, .int .i64 0, .int .u64 0, .int .u16 0, .int .i64 0] #[.int .u32 (xT n.l8 i 0).f0, .int .i64 (xT n.l8 i 0).f1, .int .i64 (xT n.l8 i 0).f2, .int .i64 (xT n.l8 i 0).f3, .int .u64 (xT n.l8 i 0).f4.f0, .int .u16 (xT n.l8 i 0).f4.f1, .int .i64 (xT n.l8 i 0).f5]) := ⟨⟨HS1.out.blk (by omega) HRT.out.b2, HS1.out.blk (by omega) HRT.out.b4, HS1.out.blk (by omega) HRT.out.b5, by rw [show xT n.l8 i 0 = z51 from if_neg (by omega)]; exact E6.out, HS1.out.on (B := w.heap.size) (by have := HGG.out; omega) HRT.out.bel⟩⟩
  have HB1 : Aside0 (g + 1 + 1 + 1 + 1 ≤ w1.heap.size) := ⟨by rw [HS1.out.size, HSW.out]; exact Nat.le_refl _⟩
  go_loopg [7, 8] n.l8.length (fun gg s7 s8 wr => ∃ (k : Nat) (A7 : Option Addr) (c7 : Nat), k ≤ n.l8.length ∧ n.l8.length - k ≤ gg ∧ s8 = .int .i64 k ∧ s7 = .slice A7 (restT n.l8 i k).length c7 ∧ Aside0 (RT w wr g #[.int .u64 n.a0, .int .u16 n.a1, .int .i64 n.a2, .bool n.a3, .slice s.A4 n.l4.length s.c4, .slice s.A5 n.l5.length s.c5, .slice s.A6 n.l6.length s.c6, .slice s.A7 n.l7.length s.c7, .slice s.A8 n.l8.length s.c8, .slice s.A9 n.l9.length s.c9, .slice s.A10 n.l10.length s.c10, .int .u32 n.a11, .int .i64 n.a12, .int .i64 n.a13] #[.int .u64 0, .int .u16 0, .int .i64 0, .bool false, .slice none 0 0, .slice none 0 0, .slice none 0 0, .slice none 0 0, .slice none 0 0, .slice none 0 0, .slice none 0 0, .int .u32 0, .int .i64 0, .int .i64 0] #[.int .u32 0, .int .i64 0, .int .i64 0, .int .i64 0, .int .u64 0, .int .u16 0, .int .i64 0] #[.int .u32 (xT n.l8 i k).f0, .int .i64 (xT n.l8 i k).f1, .int .i64 (xT n.l8 i k).f2, .int .i64 (xT n.l8 i k).f3, .int .u64 (xT n.l8 i k).f4.f0, .int .u16 (xT n.l8 i k).f4.f1, .int .i64 (xT n.l8 i k).f5]) ∧ Aside0 (g + 1 + 1 + 1 + 1 ≤ wr.heap.size) ∧ Aside0 (k51.R 51 wr (g + 1 + 1 + 1 + 1) (fun _ => True) (.slice A7 (restT n.l8 i k).length c7) (restT n.l8 i k)))
  case atStart =>
    have h0 : restT n.l8 i 0 = [] := by unfold restT; split <;> simp
    exact ⟨0, none, 0, Nat.zero_le _, by omega, rfl, by rw [h0]; rfl, HRT1, HB1, ⟨by rw [h0]; exact Kd.R_nil _ _ _ _ _⟩⟩
  case round =>
    obtain ⟨k, A7, c7, hk, hgg, rfl, rfl, HRk, HBk, HOk⟩ := hrel
    have c8 : wr.cell? ⟨g, 8, none⟩ = some (.slice s.A8 n.l8.length s.c8) := (blk_cell HRk.out.b2 8).trans rfl
    by_cases hlt : k < n.l8.length
    · have HKL := Aside0.mk hlt
      have p0 : (0 ≤ (k : Int)) = True := eq_true (by omega)
      have p1 : ((k : Int) < (n.l8.length : Int)) = True := eq_true (by omega)
      have hkm : (k : Int) ≤ 100000 := by have := HL.out; omega
      obtain ⟨ad, e1, x0, x1, x2, x3, x4, x5, x6⟩ := at_T51 (HN.out.below HRk.out.bel).r8 (k : Int) (by omega) (by omega)
      obtain ⟨x, hx⟩ : ∃ x, rd_T51 n.l8 (k : Int) = x := ⟨_, rfl⟩
      rw [hx] at x0 x1 x2 x3 x4 x5 x6
      simp only [Int.toNat_natCast] at x0 x1 x2 x3 x4 x5 x6
      rw [e1] at c8
      have HX := Aside0.mk hx
      have E1 := Aside0.mk e1
      clear hx e1
      by_cases hki : (k : Int) = i
      · have HKI := Aside0.mk hki
        have hkb : ((k : Int) == i) = true := by simp [hki]
        replace hki := eq_true hki
        have b6 := HRk.out.b6
        go_wp2_with (refine store_box (.store 51 (.tmp 6) (.tmp 24)) 51 _ _ (g + 1 + 1 + 1) 0 _ #[.int .u32 x.f0, .int .i64 x.f1, .int .i64 x.f2, .int .i64 x.f3, .int .u64 x.f4.f0, .int .u16 x.f4.f1, .int .i64 x.f5] 51 _ [.int .u32 x.f0, .int .i64 x.f1, .int .i64 x.f2, .int .i64 x.f3, .int .u64 x.f4.f0, .int .u16 x.f4.f1, .int .i64 x.f5] rfl rfl rfl rfl rfl rfl b6 rfl (by kernel_rfl) (by simp) (by simp [Value.oneCell']) (by simp) ?_; intro w2 e6 hs2; have HS2 := Aside0.mk hs2; have E6 := Aside0.mk e6; clear hs2 e6 b6 c8 x0 x1 x2 x3 x4 x5 x6)
        go_roundg (n.l8.length - (k + 1))
        case measure => omega
        case rel =>
          have hh := restT_at HKL.out
          rw [HKI.out] at hh
          have hgs := HGG.out
          refine ⟨k + 1, A7, c7, HKL.out, Nat.le_refl _, by go_num, by rw [hh.1], ⟨⟨HS2.out.blk (by omega) HRk.out.b2, HS2.out.blk (by omega) HRk.out.b4, HS2.out.blk (by omega) HRk.out.b5, ?_, HS2.out.on (B := w.heap.size) (by omega) HRk.out.bel⟩⟩, ⟨by rw [HS2.out.size]; exact HBk.out⟩, ⟨?_⟩⟩
          · rw [hh.2, ← HKI.out, HX.out]; exact E6.out
          · rw [hh.1]
            exact Kd.R_mono (Kd.R_step (Kd.R_bound HOk.out) (fun q hq hlt => HS2.out.far q (by have := hq.2.1; omega))) (fun _ _ => trivial)
      · have HKI := Aside0.mk hki
        have hkb : ((k : Int) == i) = false := by simp [hki]
        replace hki := eq_false hki
        have HM : Aside0 (k51.M wr (g + 1 + 1 + 1 + 1) (fun _ => False) x [.int .u32 x.f0, .int .i64 x.f1, .int .i64 x.f2, .int .i64 x.f3, .int .u64 x.f4.f0, .int .u16 x.f4.f1, .int .i64 x.f5]) := ⟨k51_mkM wr _ _ x⟩
        have HLQ : Aside0 (((restT n.l8 i k).length + 1) * 56 ≤ 140737488355328) := ⟨by have := restT_len n.l8 i k hk; have := HL.out; omega⟩
        go_wp2_with (at_builtin; refine Kd.R_append k51 (w0 := wr) (g + 1 + 1 + 1 + 1) rfl _ _ 29 51 _ 56 rfl Try.underlying29 info51 rfl (by decide) (by decide) (.slice A7 (restT n.l8 i k).length c7) (restT n.l8 i k) x [.int .u32 x.f0, .int .i64 x.f1, .int .i64 x.f2, .int .i64 x.f3, .int .u64 x.f4.f0, .int .u16 x.f4.f1, .int .i64 x.f5] (fun _ => True) (fun _ => False) rfl rfl HM.out (fun _ h => h.elim) (fun _ _ => trivial) HOk.out (Below.refl _ _) HBk.out HLQ.out ?_; intro v2 w2 hO2 hb2 _ _; obtain ⟨A8, c8', rfl, _, _⟩ := Kd.R_reads hO2; have HO2 := Aside0.mk hO2; have HB2 := Aside0.mk hb2; clear hO2 hb2 c8 x0 x1 x2 x3 x4 x5 x6)
        go_roundg (n.l8.length - (k + 1))
        case measure => omega
        case rel =>
          have hh := restT_ne HKL.out HKI.out
          rw [HX.out] at hh
          exact ⟨k + 1, A8, c8', HKL.out, Nat.le_refl _, by go_num, by rw [hh.1, List.length_append]; rfl, ⟨by rw [hh.2]; exact HRk.out.grown HB2.out HGG.out⟩, ⟨Nat.le_trans HBk.out HB2.out.size⟩, ⟨by rw [hh.1]; exact HO2.out⟩⟩
    · have hkk : k = n.l8.length := by omega
      subst hkk
      have p1 : ((n.l8.length : Int) < (n.l8.length : Int)) = False := eq_false (by omega)
      have b2 := HRk.out.b2
      obtain ⟨x, hx⟩ : ∃ x, xT n.l8 i n.l8.length = x := ⟨_, rfl⟩
      rw [hx] at HRk
      have HXQ := Aside0.mk hx
      clear hx
      go_wp2_with (refine store_box (.store 29 (.tmp 34) (.tmp 33)) 29 _ _ g 8 _ #[.int .u64 n.a0, .int .u16 n.a1, .int .i64 n.a2, .bool n.a3, .slice s.A4 n.l4.length s.c4, .slice s.A5 n.l5.length s.c5, .slice s.A6 n.l6.length s.c6, .slice s.A7 n.l7.length s.c7, .slice A7 (restT n.l8 i n.l8.length).length c7, .slice s.A9 n.l9.length s.c9, .slice s.A10 n.l10.length s.c10, .int .u32 n.a11, .int .i64 n.a12, .int .i64 n.a13] 34 (.slice A7 (restT n.l8 i n.l8.length).length c7) [.slice A7 (restT n.l8 i n.l8.length).length c7] rfl rfl rfl rfl rfl rfl b2 rfl (by kernel_rfl) (by simp) (by simp [Value.oneCell']) (by simp) ?_; intro w5 e2' hs5; have HS5 := Aside0.mk hs5; clear hs5 b2 c8)
      obtain ⟨w6, hw6⟩ : ∃ w6, w5.drew = w6 := ⟨_, rfl⟩
      have h6 : ∀ q : Nat, w6.heap[q]? = w5.heap[q]? := fun q => by rw [← hw6]; rfl
      have HF6 : Aside0 (w6.heap[g + 1]? = some (.cells #[.int .u64 0, .int .u16 0, .int .i64 0, .bool false, .slice none 0 0, .slice none 0 0, .slice none 0 0, .slice none 0 0, .slice none 0 0, .slice none 0 0, .slice none 0 0, .int .u32 0, .int .i64 0, .int .i64 0] 34 (0, 0)) ∧ w6.heap[g + 1 + 1]? = some (.cells #[.int .u32 0, .int .i64 0, .int .i64 0, .int .i64 0, .int .u64 0, .int .u16 0, .int .i64 0] 51 (0, 0))) := ⟨(h6 _).trans (HS5.out.blk (by omega) HRk.out.b4), (h6 _).trans (HS5.out.blk (by omega) HRk.out.b5)⟩
      have hs6 : TakeS g (g + 1 + 1 + 1) #[.int .u64 n.a0, .int .u16 n.a1, .int .i64 n.a2, .bool n.a3, .slice s.A4 n.l4.length s.c4, .slice s.A5 n.l5.length s.c5, .slice s.A6 n.l6.length s.c6, .slice s.A7 n.l7.length s.c7, .slice A7 (restT n.l8 i n.l8.length).length c7, .slice s.A9 n.l9.length s.c9, .slice s.A10 n.l10.length s.c10, .int .u32 n.a11, .int .i64 n.a12, .int .i64 n.a13] #[.int .u32 x.f0, .int .i64 x.f1, .int .i64 x.f2, .int .i64 x.f3, .int .u64 x.f4.f0, .int .u16 x.f4.f1, .int .i64 x.f5] w6 := ⟨(h6 g).trans e2', (h6 _).trans (HS5.out.blk (by omega) HRk.out.b6)⟩
      have HSF : Aside0 (∀ (V V' : World) (q : Nat), Sto V V' q → (q = g + 1 ∨ q = g + 1 + 1) → TakeS g (g + 1 + 1 + 1) #[.int .u64 n.a0, .int .u16 n.a1, .int .i64 n.a2, .bool n.a3, .slice s.A4 n.l4.length s.c4, .slice s.A5 n.l5.length s.c5, .slice s.A6 n.l6.length s.c6, .slice s.A7 n.l7.length s.c7, .slice A7 (restT n.l8 i n.l8.length).length c7, .slice s.A9 n.l9.length s.c9, .slice s.A10 n.l10.length s.c10, .int .u32 n.a11, .int .i64 n.a12, .int .i64 n.a13] #[.int .u32 x.f0, .int .i64 x.f1, .int .i64 x.f2, .int .i64 x.f3, .int .u64 x.f4.f0, .int .u16 x.f4.f1, .int .i64 x.f5] V → TakeS g (g + 1 + 1 + 1) #[.int .u64 n.a0, .int .u16 n.a1, .int .i64 n.a2, .bool n.a3, .slice s.A4 n.l4.length s.c4, .slice s.A5 n.l5.length s.c5, .slice s.A6 n.l6.length s.c6, .slice s.A7 n.l7.length s.c7, .slice A7 (restT n.l8 i n.l8.length).length c7, .slice s.A9 n.l9.length s.c9, .slice s.A10 n.l10.length s.c10, .int .u32 n.a11, .int .i64 n.a12, .int .i64 n.a13] #[.int .u32 x.f0, .int .i64 x.f1, .int .i64 x.f2, .int .i64 x.f3, .int .u64 x.f4.f0, .int .u16 x.f4.f1, .int .i64 x.f5] V') := ⟨fun V V' q hs hq h => ⟨hs.blk (by omega) h.1, hs.blk (by omega) h.2⟩⟩
      have HFIN : Aside0 (∀ w8 : World, (∀ q : Nat, q ≠ g + 1 ∧ q ≠ g + 1 + 1 → w8.heap[q]? = w6.heap[q]?) → Below w.heap.size w6 w8 → TakeP { n with l8 := (restT n.l8 i n.l8.length) } x w (.returned (.tuple #[nv { n with l8 := (restT n.l8 i n.l8.length) } { s with A8 := A7, c8 := c7 }, pv x])) w8) := ⟨by
        intro w8 hfar hb68
        have hgg := HGG.out
        have hmv : ∀ q : Nat, g + 1 + 1 + 1 + 1 ≤ q → w8.heap[q]? = wr.heap[q]? := fun q hq => (hfar q (by omega)).trans ((h6 q).trans (HS5.out.far q (by omega)))
        have p8 := Kd.R_step (Kd.R_bound HOk.out) (fun q hq hlt => hmv q hq.2.1)
        have hB6' : Below w.heap.size w w6 := by rw [← hw6]; exact (HS5.out.on (B := w.heap.size) (by omega) HRk.out.bel).drew
        have hn := HN.out.below (hB6'.trans hb68)
        exact ⟨_, rfl, ⟨hn.r4, hn.q4, hn.r5, hn.q5, hn.r6, hn.q6, hn.r7, hn.q7, (Kd.R_reads' p8).2.2, (Kd.R_reads' p8).2.1, hn.r9, hn.q9, hn.r10, hn.q10⟩, hB6'.trans hb68⟩⟩
      clear e2' h6
      refine start_ (n := 4) (S := TakeS g (g + 1 + 1 + 1) #[.int .u64 n.a0, .int .u16 n.a1, .int .i64 n.a2, .bool n.a3, .slice s.A4 n.l4.length s.c4, .slice s.A5 n.l5.length s.c5, .slice s.A6 n.l6.length s.c6, .slice s.A7 n.l7.length s.c7, .slice A7 (restT n.l8 i n.l8.length).length c7, .slice s.A9 n.l9.length s.c9, .slice s.A10 n.l10.length s.c10, .int .u32 n.a11, .int .i64 n.a12, .int .i64 n.a13] #[.int .u32 x.f0, .int .i64 x.f1, .int .i64 x.f2, .int .i64 x.f3, .int .u64 x.f4.f0, .int .u16 x.f4.f1, .int .i64 x.f5]) (ds := []) #[false, false, false, false] (by kernel_rfl) rfl rfl (by rw [hw6]; exact hs6) (fun hJ => ?_)
      rw [hw6] at hJ ⊢
      clear hw6 hs6
      refine take_ (i := 0) (N := some 35) (v := ?_) (a' := ?_) #[true, false, false, false] rfl rfl (by kernel_rfl) (fun _ _ _ h => h) (Or.inl ⟨by rfl, ?_⟩) hJ ?_ ?_
      rotate_left
      · rintro w' ⟨s0, s1_⟩
        refine load_yields (x := .tmp 2) ?_ ?_ s0 Try.underlying34 rfl (by kernel_rfl)
        · rfl
        · rfl
      rotate_left
      · simp only [Act.put, List.setIfInBounds_toArray, List.set_cons_zero, List.set_cons_succ, i64_w, i32_w]
        rfl
      refine take_ (i := 1) (N := some 36) (v := ?_) (a' := ?_) #[true, true, false, false] rfl rfl (by kernel_rfl) (fun _ _ _ h => h) (Or.inl ⟨by rfl, ?_⟩) hJ ?_ ?_
      rotate_left
      · rintro w' ⟨s0, s1_⟩
        refine load_yields (x := .tmp 6) ?_ ?_ s1_ Try.underlying51 rfl (by kernel_rfl)
        · rfl
        · rfl
      rotate_left
      · simp only [Act.put, List.setIfInBounds_toArray, List.set_cons_zero, List.set_cons_succ, i64_w, i32_w]
        rfl
      refine one_ (i := 2) (N := none) #[true, true, true, false] rfl rfl (by kernel_rfl) (by decide) (fun K hK => ?_)
      refine store_step 34 _ _ (g + 1) 0 _ #[.int .u64 n.a0, .int .u16 n.a1, .int .i64 n.a2, .bool n.a3, .slice s.A4 n.l4.length s.c4, .slice s.A5 n.l5.length s.c5, .slice s.A6 n.l6.length s.c6, .slice s.A7 n.l7.length s.c7, .slice A7 (restT n.l8 i n.l8.length).length c7, .slice s.A9 n.l9.length s.c9, .slice s.A10 n.l10.length s.c10, .int .u32 n.a11, .int .i64 n.a12, .int .i64 n.a13] 34 _ [.int .u64 n.a0, .int .u16 n.a1, .int .i64 n.a2, .bool n.a3, .slice s.A4 n.l4.length s.c4, .slice s.A5 n.l5.length s.c5, .slice s.A6 n.l6.length s.c6, .slice s.A7 n.l7.length s.c7, .slice A7 (restT n.l8 i n.l8.length).length c7, .slice s.A9 n.l9.length s.c9, .slice s.A10 n.l10.length s.c10, .int .u32 n.a11, .int .i64 n.a12, .int .i64 n.a13] (by rfl) rfl rfl rfl HF6.out.1 rfl (by kernel_rfl) (by simp) (by simp [Value.oneCell']) (by simp) ?_
      intro w7 eA hsA
      have hS_ := HSF.out _ _ _ hsA (.inl rfl) hJ
      have HSA := Aside0.mk hsA
      clear hsA
      refine hK.out _ _ hS_ (fun hJ1 => ?_)
      clear hS_
      clear hK K
      refine norm_ (a' := ?_) ?_ ?_
      rotate_left
      · show Act.put _ (none) _ = _
        simp only [Act.put, List.setIfInBounds_toArray, List.set_cons_zero, List.set_cons_succ, i64_w, i32_w]
        rfl
      refine one_ (i := 3) (N := none) #[true, true, true, true] rfl rfl (by kernel_rfl) (by decide) (fun K hK => ?_)
      refine store_step 51 _ _ (g + 1 + 1) 0 _ #[.int .u32 x.f0, .int .i64 x.f1, .int .i64 x.f2, .int .i64 x.f3, .int .u64 x.f4.f0, .int .u16 x.f4.f1, .int .i64 x.f5] 51 _ [.int .u32 x.f0, .int .i64 x.f1, .int .i64 x.f2, .int .i64 x.f3, .int .u64 x.f4.f0, .int .u16 x.f4.f1, .int .i64 x.f5] (by rfl) rfl rfl rfl (HSA.out.blk (by omega) HF6.out.2) rfl (by kernel_rfl) (by simp) (by simp [Value.oneCell']) (by simp) ?_
      intro w8 eB hsB
      have hS_ := HSF.out _ _ _ hsB (.inr rfl) hJ1
      have HSB := Aside0.mk hsB
      clear hsB
      refine hK.out _ _ hS_ (fun hJ2 => ?_)
      clear hS_
      clear hK K
      refine norm_ (a' := ?_) ?_ ?_
      rotate_left
      · show Act.put _ (none) _ = _
        simp only [Act.put, List.setIfInBounds_toArray, List.set_cons_zero, List.set_cons_succ, i64_w, i32_w]
        rfl
      refine done_ (by kernel_rfl) ?_
      go_wp2_with fail
      have h4 : w8.heap[g + 1]? = some (.cells #[.int .u64 n.a0, .int .u16 n.a1, .int .i64 n.a2, .bool n.a3, .slice s.A4 n.l4.length s.c4, .slice s.A5 n.l5.length s.c5, .slice s.A6 n.l6.length s.c6, .slice s.A7 n.l7.length s.c7, .slice A7 (restT n.l8 i n.l8.length).length c7, .slice s.A9 n.l9.length s.c9, .slice s.A10 n.l10.length s.c10, .int .u32 n.a11, .int .i64 n.a12, .int .i64 n.a13] 34 (0, 0)) := HSB.out.blk (by omega) eA
      have h5 : w8.heap[g + 1 + 1]? = some (.cells #[.int .u32 x.f0, .int .i64 x.f1, .int .i64 x.f2, .int .i64 x.f3, .int .u64 x.f4.f0, .int .u16 x.f4.f1, .int .i64 x.f5] 51 (0, 0)) := eB
      obtain ⟨y0, y1, y2, y3, y4, y5, y6, y7, y8, y9, y10, y11, y12, y13, _⟩ := box14f h4
      obtain ⟨z0, z1, z2, z3, z4, z5, z6, _⟩ := box7f h5
      refine bodyPost_ret (v := .tuple #[nv { n with l8 := (restT n.l8 i n.l8.length) } { s with A8 := A7, c8 := c7 }, pv x]) ?hres rfl ?_
      case hres =>
        simp only [results, Try.f15]
        go_simp
      rw [HXQ.out]
      exact HFIN.out w8 (fun q hq => (HSB.out.far q (by omega)).trans (HSA.out.far q (by omega))) (HSB.out.on (by have := HGG.out; omega) (HSA.out.on (by have := HGG.out; omega) (Below.refl _ _)))
-- axioms: rtake_ok
end
end Go.Proofs.Ytfgalgeloflilaa.H
