/- Mine: slices.Delete of one element, at a row that is one's own. -/
import Derived.Test.YtaeelmkpjgmdlaaHB
namespace Go.Proofs.Ytaeelmkpjgmdlaa.H
open Go Go.Proofs Go.RowKit Go.Lib Go.Proofs.Ytaeelmkpjgmdlaa.P Go.Proofs.YtaeelmkpjgmdlaaW.PrintWords Go.Proofs.YtaeelmkpjgmdlaaW.PrintLast Go.Proofs.YtaeelmkpjgmdlaaW.PrintMore Go.Proofs.YtaeelmkpjgmdlaaW.PrintFlat
set_option linter.unusedVariables false
set_option linter.unusedSimpArgs false
theorem run_clear_row (P : Program) (w : World) (t e ty : TypeId) (z : Value) (ht : P.underlying t = some (.slice e)) (hv : ∀ w, (zeroValue e).run P w = .ok z w) (h1 : ∀ v ∈ z.cells.toList, v.oneCell' = true) (g o n c : Nat) (hn : 0 < n) (cur : Array Value) (et : TypeId)
    (hg : w.heap[g]? = some (.cells cur et (0, 0))) (hfit : o + n * z.cells.size ≤ cur.size) :
    (Builtin.clear_ #[t] ty #[.slice (some ⟨g, o, none⟩) n c]).run P w = .ok (.tuple #[]) (w.setRow g (cur.toList.take o ++ (Builtin.zeroCells z.cells n).toList ++ cur.toList.drop (o + (Builtin.zeroCells z.cells n).toList.length)).toArray) := by
  have hl : (Builtin.zeroCells z.cells n).toList.length = n * z.cells.size := by simp [Builtin.zeroCells]
  have ho : ∀ v ∈ (Builtin.zeroCells z.cells n).toList, v.oneCell' = true := by
    intro v hv
    simp only [Builtin.zeroCells, Array.toList_map, List.mem_map] at hv
    obtain ⟨i, hi, rfl⟩ := hv
    have hi2 : i < n * z.cells.size := by simpa using hi
    have hs : 0 < z.cells.size := by
      rcases Nat.eq_zero_or_pos z.cells.size with h | h
      · rw [h] at hi2; omega
      · exact h
    rw [getElem!_pos z.cells (i % z.cells.size) (Nat.mod_lt _ hs)]
    exact h1 _ (by simp)
  have hst := run_storeCells_at P g o et (Builtin.zeroCells z.cells n).toList 0 cur w hg (by rw [hl]; simpa using hfit) ho
  obtain ⟨m, rfl⟩ : ∃ m, n = m + 1 := ⟨n - 1, by omega⟩
  simp only [Nat.add_zero] at hst
  simp [Builtin.clear_, run_underlying ht, hv, hst]
/-- A row of one's own stays what it is where only places behind its elements are written. -/
theorem R_tail {α : Type} {d : Kd α} {e : Nat} {w : World} {base : Nat} {ok : Nat → Prop} {g c m : Nat} {xs : List α} (h : d.R e w base ok (.slice (some ⟨g, 0, none⟩) m c) xs) {cur cur' : Array Value} (hb : w.heap[g]? = some (.cells cur e (0, 0)))
    (hs : cur'.size = cur.size) (ht : cur'.toList.take (m * d.sz) = cur.toList.take (m * d.sz)) : d.R e (w.setRow g cur') base ok (.slice (some ⟨g, 0, none⟩) m c) xs ∧ w.grownBy (w.setRow g cur') (some g) := by
  have hfar : ∀ k, k ≠ g → (w.setRow g cur').heap[k]? = w.heap[k]? := fun k hk => by
    show (w.heap.modify g _)[k]? = _
    rw [Array.getElem?_modify]
    rw [if_neg (fun e => hk e.symm)]
  have hsz : (w.setRow g cur').heap.size = w.heap.size := by show (w.heap.modify g _).size = _; simp
  obtain ⟨h0, inner, hown, hr⟩ := h
  refine ⟨⟨h0, inner, ⟨hown.1, ?_⟩, hr.imp_ (fun _ _ hp => d.M_move (fun k hk => hfar k (fun e => hk.2 (by rw [e]; rfl))) hp)⟩, rfl, rfl, rfl, by rw [hsz]; exact Nat.le_refl _, fun k hk hn => hfar k (fun e => hn (by rw [e]))⟩
  rcases hown.2 with ⟨hv, _⟩ | ⟨g', cap, cur0, hv, hg, hh, h3, h4, h5, h6⟩
  · cases hv
  · injection hv with ha hm hc
    injection ha with ha
    injection ha with hg'
    subst hg'
    subst hc
    rw [hb] at hh
    injection hh with hh
    injection hh with hcu _ _
    subst hcu
    subst hm
    refine .inr ⟨g, c, cur', rfl, hg, setRow_heap w g cur cur' e (0, 0) hb, h3, h4, by rw [hs, h5], ?_⟩
    rw [ht]
    exact h6
set_option maxRecDepth 100000 in
set_option maxHeartbeats 4000000 in
theorem del_calls {base g c k : Nat} {ok : Nat → Prop} {xs : List OB} {W : World} (hR : k7.R 69 W base ok (.slice (some ⟨g, 0, none⟩) xs.length c) xs) (hk : k < xs.length) (hbase : base ≤ W.heap.size) (hmax : xs.length ≤ 140737488355328) :
    Calls Try.prog 59 #[.slice (some ⟨g, 0, none⟩) xs.length c, .int .i64 k, .int .i64 ((k : Int) + 1)] W fun e w' => e = .returned (.slice (some ⟨g, 0, none⟩) (xs.length - 1) c) ∧ k7.R 69 w' base ok (.slice (some ⟨g, 0, none⟩) (xs.length - 1) c) (xs.eraseIdx k) ∧ W.grownBy w' (some g) := by
  have HR := Aside0.mk (Kd.R_below hR (Below.drew (Below.refl _ _)))
  have hlc := (Kd.R_reads' hR).2.1
  have HK := Aside0.mk hk
  have HBS : Aside0 (base ≤ W.drew.heap.size) := ⟨hbase⟩
  have hmix : Try.prog.follows .mixedOrders = true := by kernel_rfl
  clear hR
  have b0 : (0 ≤ (k : Int)) = True := eq_true (by omega)
  have b1 : (k ≤ c) = True := eq_true (by omega)
  have b2 : (0 ≤ (k : Int) + 1) = True := eq_true (by omega)
  have b3 : ((k : Int) + 1 ≤ (xs.length : Int)) = True := eq_true (by omega)
  have b4 : (k + 1 ≤ xs.length) = True := eq_true (by omega)
  have e0 : ((k : Int) == (k : Int) + 1) = false := by rw [beq_eq_false_iff_ne]; omega
  go_enter Try.func59, Try.ntmps59
  go_wp2_with fail
  refine start_ (n := 8) (S := fun _ => True) (ds := []) #[false, false, false, false, false, false, false, false] (by kernel_rfl) rfl rfl trivial (fun hHeld => ?_)
  refine pure_ (i := 0) (N := some 20) (v := ?_) (a' := ?_) #[true, false, false, false, false, false, false, false] rfl rfl (by kernel_rfl) (fun _ _ _ h => h) (Or.inl ⟨by rfl, ?_⟩) ?_ ?_
  rotate_left
  · intro w'
    go_simp
    with_reducible rfl
  rotate_left
  · simp only [Act.put, List.setIfInBounds_toArray, List.set_cons_zero, List.set_cons_succ, i64_w, i32_w]
    rfl
  refine pure_ (i := 1) (N := some 21) (v := ?_) (a' := ?_) #[true, true, false, false, false, false, false, false] rfl rfl (by kernel_rfl) (fun _ _ _ h => h) (Or.inl ⟨by rfl, ?_⟩) ?_ ?_
  rotate_left
  · intro w'
    go_simp
    with_reducible rfl
  rotate_left
  · simp only [Act.put, List.setIfInBounds_toArray, List.set_cons_zero, List.set_cons_succ, i64_w, i32_w]
    rfl
  refine pure_ (i := 2) (N := some 22) (v := ?_) (a' := ?_) #[true, true, true, false, false, false, false, false] rfl rfl (by kernel_rfl) (fun _ _ _ h => h) (Or.inl ⟨by rfl, ?_⟩) ?_ ?_
  rotate_left
  · intro w'
    go_simp
    with_reducible rfl
  rotate_left
  · simp only [Act.put, List.setIfInBounds_toArray, List.set_cons_zero, List.set_cons_succ, i64_w, i32_w]
    rfl
  refine pure_ (i := 3) (N := some 23) (v := ?_) (a' := ?_) #[true, true, true, true, false, false, false, false] rfl rfl (by kernel_rfl) (fun _ _ _ h => h) (Or.inl ⟨by rfl, ?_⟩) ?_ ?_
  rotate_left
  · intro w'
    go_simp
    with_reducible rfl
  rotate_left
  · simp only [Act.put, List.setIfInBounds_toArray, List.set_cons_zero, List.set_cons_succ, i64_w, i32_w]
    rfl
  refine pure_ (i := 4) (N := some 24) (v := ?_) (a' := ?_) #[true, true, true, true, true, false, false, false] rfl rfl (by kernel_rfl) (fun _ _ _ h => h) (Or.inl ⟨by rfl, ?_⟩) ?_ ?_
  rotate_left
  · intro w'
    go_simp
    with_reducible rfl
  rotate_left
  · simp only [Act.put, List.setIfInBounds_toArray, List.set_cons_zero, List.set_cons_succ, i64_w, i32_w]
    rfl
  refine pure_ (i := 5) (N := some 25) (v := ?_) (a' := ?_) #[true, true, true, true, true, true, false, false] rfl rfl (by kernel_rfl) (fun _ _ _ h => h) (Or.inl ⟨by rfl, ?_⟩) ?_ ?_
  rotate_left
  · intro w'
    go_simp
    with_reducible rfl
  rotate_left
  · simp only [Act.put, List.setIfInBounds_toArray, List.set_cons_zero, List.set_cons_succ, i64_w, i32_w]
    rfl
  refine one_ (i := 6) (N := some 26) #[true, true, true, true, true, true, true, false] rfl rfl (by kernel_rfl) (by decide) (fun K hK => ?_)
  refine Kd.R_delete_step (P := Try.prog) k7 (w0 := W.drew) base (by rfl) _ _ 62 69 rfl Try.underlying62 (by kernel_rfl) (xs := xs) (ok := ok) (k := k) (n := xs.length) (c := c) (A := if c = k + 1 then some ⟨g, 0, none⟩ else some ⟨g, (k + 1) * 7, none⟩) (m := xs.length - (k + 1)) (c2 := c - (k + 1)) rfl rfl ?hA rfl HR.out HK.out (Below.refl _ _) HBS.out ?_
  (case hA => show _ = if c = k + 1 then _ else (some (⟨g, 0, none⟩ : Addr)).map (fun a => a.add ((k + 1) * 7)); by_cases hh : c = k + 1 <;> simp [hh, Addr.add])
  intro w2 hR2 hb2 hg2
  refine hK.out _ _ trivial (fun _ => ?_)
  have HR2 := Aside0.mk hR2
  have HG2 := Aside0.mk hg2
  clear hR2 hb2 hg2
  clear hK K
  refine norm_ (a' := ?_) ?_ ?_
  rotate_left
  · show Act.put _ (some 26) _ = _
    simp only [Act.put, List.setIfInBounds_toArray, List.set_cons_zero, List.set_cons_succ, i64_w, i32_w]
    rfl
  refine pure_ (i := 7) (N := some 0) (v := ?_) (a' := ?_) #[true, true, true, true, true, true, true, true] rfl rfl (by kernel_rfl) (fun _ _ _ h => h) (Or.inl ⟨by rfl, ?_⟩) ?_ ?_
  rotate_left
  · intro w'
    go_simp
    with_reducible rfl
  rotate_left
  · simp only [Act.put, List.setIfInBounds_toArray, List.set_cons_zero, List.set_cons_succ, i64_w, i32_w]
    rfl
  refine done_ (by kernel_rfl) ?_
  generalize (if c = k + 1 then (some (⟨g, 0, none⟩ : Addr)) else some ⟨g, (k + 1) * 7, none⟩) = AA
  obtain ⟨cur, hcur, hcsz⟩ : ∃ cur, w2.heap[g]? = some (.cells cur 69 (0, 0)) ∧ cur.size = c * 7 := by
    obtain ⟨_, inner, hown, _⟩ := HR2.out
    rcases hown.2 with ⟨hv, _⟩ | ⟨g', cap, cur, hv, _, hh, _, _, h5, _⟩
    · cases hv
    · injection hv with ha _ hc
      injection ha with ha
      injection ha with hg'
      subst hg'
      subst hc
      exact ⟨cur, hh, h5⟩
  have hzs : ((.agg #[.int .u16 0, .int .u32 0, .int .u32 0, .int .u16 0, .int .u8 0, .int .i64 0, .pointer none]) : Value).cells.size = 7 := by decide
  have hcl : ∀ ty, (Builtin.clear_ #[62] ty #[.slice (some ⟨g, (xs.length - 1) * 7, none⟩) (xs.length - (xs.length - 1)) (c - (xs.length - 1))]).run Try.prog w2 = .ok (.tuple #[]) (w2.setRow g (cur.toList.take ((xs.length - 1) * 7) ++ (Builtin.zeroCells ((.agg #[.int .u16 0, .int .u32 0, .int .u32 0, .int .u16 0, .int .u8 0, .int .i64 0, .pointer none]) : Value).cells (xs.length - (xs.length - 1))).toList ++ cur.toList.drop ((xs.length - 1) * 7 + (Builtin.zeroCells ((.agg #[.int .u16 0, .int .u32 0, .int .u32 0, .int .u16 0, .int .u8 0, .int .i64 0, .pointer none]) : Value).cells (xs.length - (xs.length - 1))).toList.length)).toArray) :=
    fun ty => run_clear_row Try.prog w2 62 69 ty (.agg #[.int .u16 0, .int .u32 0, .int .u32 0, .int .u16 0, .int .u8 0, .int .i64 0, .pointer none]) Try.underlying62 (fun w => Try.zeroValue69 w) (by decide) g ((xs.length - 1) * 7) _ _ (by omega) cur 69 hcur (by rw [hzs, hcsz]; omega)
  have hzl : (Builtin.zeroCells ((.agg #[.int .u16 0, .int .u32 0, .int .u32 0, .int .u16 0, .int .u8 0, .int .i64 0, .pointer none]) : Value).cells (xs.length - (xs.length - 1))).toList.length = (xs.length - (xs.length - 1)) * 7 := by simp [Builtin.zeroCells, hzs]
  obtain ⟨R2, hR2⟩ : ∃ R2, (cur.toList.take ((xs.length - 1) * 7) ++ (Builtin.zeroCells ((.agg #[.int .u16 0, .int .u32 0, .int .u32 0, .int .u16 0, .int .u8 0, .int .i64 0, .pointer none]) : Value).cells (xs.length - (xs.length - 1))).toList ++ cur.toList.drop ((xs.length - 1) * 7 + (Builtin.zeroCells ((.agg #[.int .u16 0, .int .u32 0, .int .u32 0, .int .u16 0, .int .u8 0, .int .i64 0, .pointer none]) : Value).cells (xs.length - (xs.length - 1))).toList.length)).toArray = R2 := ⟨_, rfl⟩
  rw [hR2] at hcl
  have HT : Aside0 (k7.R 69 (w2.setRow g R2) base ok (.slice (some ⟨g, 0, none⟩) (xs.length - 1) c) (xs.eraseIdx k) ∧ w2.grownBy (w2.setRow g R2) (some g)) := ⟨by
    have hLc : cur.toList.length = c * 7 := by rw [← hcsz]; exact Array.length_toList
    have hle : (xs.length - 1) * 7 + (xs.length - (xs.length - 1)) * 7 ≤ c * 7 := by omega
    refine R_tail HR2.out hcur ?_ ?_
    · rw [← hR2]
      simp only [List.size_toArray, List.length_append, List.length_take, List.length_drop, hzl, hLc, hcsz]
      omega
    · rw [← hR2]
      show List.take ((xs.length - 1) * 7) _ = List.take ((xs.length - 1) * 7) _
      rw [List.toList_toArray, List.append_assoc, List.take_append_of_le_length (by rw [List.length_take, hLc]; omega), List.take_take, Nat.min_self]⟩
  clear hzs hzl hR2 hcur hcsz
  go_wp2
  go_ret
  exact ⟨rfl, HT.out.1, ⟨HT.out.2.os.trans HG2.out.os, HT.out.2.tape.trans HG2.out.tape, HT.out.2.output.trans HG2.out.output, Nat.le_trans HG2.out.size HT.out.2.size, fun q hq hn => (HT.out.2.block q (Nat.lt_of_lt_of_le hq HG2.out.size) hn).trans (HG2.out.block q hq hn)⟩⟩
#print axioms del_calls
end Go.Proofs.Ytaeelmkpjgmdlaa.H
