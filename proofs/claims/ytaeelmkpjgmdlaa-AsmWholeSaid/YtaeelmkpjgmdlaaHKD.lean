/- Mine. Chapters 22 and 23, by hand: the texts Z, Ti, N, Aw, Qa, one behind the other. -/
import Derived.Test.YtaeelmkpjgmdlaaHKC
import Derived.Lib.SlBytesConst
/- Mine. Chapter 22, by hand: slices.DeleteFunc at open messages. -/
namespace Go.Proofs.Ytaeelmkpjgmdlaa.H
open Go Go.Proofs Go.RowKit Go.Lib Go.Proofs.Ytaeelmkpjgmdlaa.P Go.Proofs.YtaeelmkpjgmdlaaW.PrintWords Go.Proofs.YtaeelmkpjgmdlaaW.PrintLast Go.Proofs.YtaeelmkpjgmdlaaW.PrintMore Go.Proofs.YtaeelmkpjgmdlaaW.PrintFlat
set_option linter.unusedVariables false
set_option linter.unusedSimpArgs false
/-- A world with one block written. -/
structure Sto (w w1 : World) (g : Nat) : Prop where
  os : w1.os = w.os
  tape : w1.tape = w.tape
  output : w1.output = w.output
  size : w1.heap.size = w.heap.size
  far : ∀ k, k ≠ g → w1.heap[k]? = w.heap[k]?
theorem Sto.below {w w1 : World} {g B : Nat} (h : Sto w w1 g) (hB : B ≤ g) : Below B w w1 :=
  ⟨h.os, h.tape, h.output, Nat.le_of_eq h.size.symm, fun k hk => h.far k (by omega)⟩
theorem Sto.on {w0 w w1 : World} {g B : Nat} (h : Sto w w1 g) (hB : B ≤ g) (h0 : Below B w0 w) : Below B w0 w1 := h0.trans (h.below hB)
theorem Sto.blk {w w1 : World} {g k : Nat} {o : Obj} (h : Sto w w1 g) (hk : k ≠ g) (hb : w.heap[k]? = some o) : w1.heap[k]? = some o := (h.far k hk).trans hb
section
variable {P : Program} {ops : Array Oper} {rest : List Oper} {o : Oper} {a : Act} {Q : Exit → Act → World → Prop} {W : World} {Kc : Act → World → Prop}
theorem store_run {t : TypeId} {g o' : Nat} {cur cur' : Array Value} {e : TypeId} {u : Value} {seg : List Value} (hb : W.heap[g]? = some (.cells cur e (0, 0))) (hu : u.cells.toList = seg) (ht : (P.info? t).map (·.size) = some seg.length)
    (hfit : o' + seg.length ≤ cur.size) (h1 : ∀ q ∈ seg, q.oneCell' = true) (hc : (cur.toList.take o' ++ seg ++ cur.toList.drop (o' + seg.length)).toArray = cur') :
    ∃ w1, (Instr.storeAt t (.pointer (some ⟨g, o', none⟩)) u).run P W = .ok () w1 ∧ w1.heap[g]? = some (.cells cur' e (0, 0)) ∧ Sto W w1 g := by
  refine ⟨W.setCells g o' seg, run_store_run t u seg hb hu ht hfit h1, ?_, ?_⟩
  · obtain ⟨cur2, h3, _, h5⟩ := setCells_row seg o' W cur hb hfit
    have : cur2 = cur' := by rw [← hc, ← h5]
    rw [← this]; exact h3
  · obtain ⟨s1, s2, s3, s4⟩ := setCells_same g seg o' W
    exact ⟨s1, s2, s3, s4, fun k hk => setCells_far seg o' k hk⟩
/-- A store into a box. -/
theorem store_box (op : Op) (t : TypeId) (p x : Operand) (g o' : Nat) (cur cur' : Array Value) (e : TypeId) (u : Value) (seg : List Value) (ho : o.op = op) (hop : op = .store t p x) (hN : o.dst = none) (hgd : o.guard = none) (haddr : a.eval p = .pointer (some ⟨g, o', none⟩)) (hx : a.eval x = u)
    (hb : W.heap[g]? = some (.cells cur e (0, 0))) (hu : u.cells.toList = seg) (ht : (P.info? t).map (·.size) = some seg.length) (hfit : o' + seg.length ≤ cur.size) (h1 : ∀ q ∈ seg, q.oneCell' = true)
    (hc : (cur.toList.take o' ++ seg ++ cur.toList.drop (o' + seg.length)).toArray = cur')
    (h : ∀ w1, w1.heap[g]? = some (.cells cur' e (0, 0)) → Sto W w1 g → wpList P ops Q rest a w1) : wpList P ops Q (o :: rest) a W := by
  obtain ⟨w1, hr, h2, h3⟩ := store_run (P := P) hb hu ht hfit h1 hc
  refine wpList_plain hgd fun K hK => ?_
  unfold Oper.wp
  rw [show (execOp a.eval o).run P W = .ok .skip w1 from by simp [execOp, ho, hop, haddr, hx, hr, Result.andThen]]
  show K (a.put o.dst undef) w1
  have hput : a.put o.dst undef = a := by rw [hN]; rfl
  rw [hput]
  exact hK a w1 (h w1 h2 h3)
end
theorem ixI_spec {α : Type} (p : α → Bool) (l : List α) : (Room.ixI p l = -1 ∧ ∀ x ∈ l, p x = false) ∨ ∃ k, ∃ h : k < l.length, Room.ixI p l = (k : Int) ∧ p l[k] = true ∧ ∀ x ∈ l.take k, p x = false := by
  unfold Room.ixI
  by_cases hlt : Room.idx p l < l.length
  · rw [if_pos hlt]
    refine .inr ⟨_, hlt, rfl, Room.idx_hit hlt, fun x hx => ?_⟩
    obtain ⟨j, hj, rfl⟩ := List.getElem_of_mem hx
    rw [List.length_take] at hj
    rw [List.getElem_take]
    exact Room.idx_before j (by omega) (by omega)
  · rw [if_neg hlt]
    exact .inl ⟨rfl, Room.idx_no (by have := Room.idx_le p l; omega)⟩
def ZV69 : Value := .agg #[.int .u16 0, .int .u32 0, .int .u32 0, .int .u16 0, .int .u8 0, .int .i64 0, .pointer none]
set_option maxHeartbeats 4000000 in
set_option maxRecDepth 100000 in
theorem delf_calls (p : OB → Bool) (g : Nat) (lb : Array Value) (eg : ∀ args w, (callFunc g args).run Try.prog w = .ok (.enter g args) w) (base : Nat) (ok : Nat → Prop) (v : Value) (xs : List OB) (w : World) (h : Kd.R k7 69 w base ok v xs) (hbs : base ≤ w.heap.size)
    (hp : ∀ (W : World) (x : OB), Fr (fun k => some k = v.ownBlock) w W → Calls Try.prog g (#[valB x] ++ lb) W fun e w' => e = .returned (.bool (p x)) ∧ Below W.heap.size W w') :
    Calls Try.prog 26 #[v, .func (.func g) #[] lb] w fun e w' => ∃ v', e = .returned v' ∧ Kd.R k7 69 w' base ok v' (xs.filter fun x => !p x) ∧ Fr (fun k => some k = v.ownBlock) w w' := by
  have hof := owned_flat k7 69 cellsB (fun _ => rfl) (fun h => k7_openM h) h
  have hvl : ∃ A c, v = .slice A xs.length c ∧ xs.length ≤ c := by
    rcases hof with ⟨rfl, rfl⟩ | ⟨b, cap, cur, rfl, hb, hokb, hh, hc1, hc2, hc3, hc4⟩
    · exact ⟨_, _, rfl, Nat.le_refl _⟩
    · exact ⟨_, _, rfl, hc1⟩
  obtain ⟨A, c, rfl, hlc⟩ := hvl
  have hu := Try.underlying62
  have hidx := idx69 p g lb eg A c xs w (Kd.R_reads' h).2.2 (fun W x hb => hp W x (Fr.of_below hb))
  rcases ixI_spec p xs with ⟨e1, hall⟩ | ⟨k0, hk0, e1, hpk, hall⟩
  · rw [e1] at hidx
    have hfil : xs.filter (fun x => !p x) = xs := List.filter_eq_self.2 (fun x hx => by rw [hall x hx]; rfl)
    rw [hfil]
    have HI := Aside0.mk hidx
    have HO := Aside0.mk h
    have HB := Aside0.mk hbs
    clear hidx h hp hall hof hbs hfil
    go_enter Try.func26, Try.ntmps26
    go_wp2_with fail
    refine HI.out.mono ?_
    rintro e w1 ⟨rfl, hb⟩
    have hfin : ∃ v', Ending.returned (.slice A xs.length c) = .returned v' ∧ Kd.R k7 69 w1 base ok v' xs ∧ Fr (fun k => some k = (Value.slice A xs.length c).ownBlock) w w1 := ⟨_, rfl, Kd.R_below HO.out hb, Fr.of_below hb⟩
    have HF := Aside0.mk hfin
    clear hfin hb HI HO
    go_wp2
    go_ret
    exact HF.out
  · rcases hof with ⟨_, rfl⟩ | ⟨b, cap, cur, hv, hb, hokb, hh, hc1, hc2, hc3, hc4⟩
    · simp at hk0
    injection hv with hv1 hv2 hv3
    subst hv1
    subst hv3
    have hk3 : k7.sz = 7 := rfl
    rw [hk3] at hc3 hc4
    rw [e1] at hidx
    have HI := Aside0.mk hidx
    have HP := Aside0.mk hp
    have HBS := Aside0.mk hbs
    have HK := Aside0.mk (And.intro hk0 (And.intro hpk hall))
    have HC := Aside0.mk (And.intro hc2 (And.intro hc3 hc4))
    have HH := Aside0.mk hh
    have HOK := Aside0.mk (And.intro hb hokb)
    have hn63 : xs.length ≤ 9223372036854775807 := Nat.le_trans hc1 hc2
    have hm1 : ¬ ((k0 : Int) = -1) := by omega
    have hw0 : wrap64 ((k0 : Int) + 1) = (k0 : Int) + 1 := by unfold wrap64; omega
    clear hidx h hp hpk hall hc2 hc3 hc4 hh hokb hb e1 hbs
    go_enter Try.func26, Try.ntmps26
    go_wp2_with fail
    refine HI.out.mono ?_
    rintro e w1 ⟨rfl, hb1⟩
    have HB1 := Aside0.mk hb1
    clear hb1 HI
    go_wp2
    go_loopg [5, 6, 7] xs.length (fun gg s5 s6 _ wr => ∃ (i j : Nat) (ROW : Array Value), s5 = .int .i64 i ∧ s6 = .int .i64 j ∧ i < j ∧ j ≤ xs.length ∧ xs.length - j ≤ gg ∧
      Aside0 (wr.heap[b]? = some (.cells ROW 69 (0, 0))) ∧ Aside0 (ROW.size = c * 7) ∧ Aside0 (ROW.toList.take (i * 7) = ((xs.take j).filter fun x => !p x).flatMap cellsB) ∧ Aside0 (i = ((xs.take j).filter fun x => !p x).length) ∧ Aside0 ((ROW.toList.drop (j * 7)).take ((xs.length - j) * 7) = (xs.drop j).flatMap cellsB) ∧ Aside0 (Fr (fun k => k = b) w wr))
    case atStart =>
      have hk := HK.out.1
      have e0 : (xs.take (k0 + 1)).filter (fun x => !p x) = xs.take k0 := by
        rw [List.take_succ_eq_append_getElem hk, List.filter_append, List.filter_eq_self.2 (fun x hx => by rw [HK.out.2.2 x hx]; rfl)]
        simp [HK.out.2.1]
      refine ⟨k0, k0 + 1, cur, rfl, by push_cast; rfl, by omega, hk, by omega, ⟨?_⟩, ⟨HC.out.2.1⟩, ⟨?_⟩, ⟨?_⟩, ⟨?_⟩, ⟨?_⟩⟩
      · rw [HB1.out.block b (Array.getElem?_eq_some_iff.1 HH.out).1]; exact HH.out
      · rw [e0, ← flat_take cellsB 7 (fun _ => rfl), ← HC.out.2.2, List.take_take, Nat.min_eq_left (by omega)]
      · rw [e0, List.length_take, Nat.min_eq_left (by omega)]
      · rw [← flat_drop cellsB 7 (fun _ => rfl), ← HC.out.2.2, List.drop_take, show xs.length * 7 - (k0 + 1) * 7 = (xs.length - (k0 + 1)) * 7 by omega]
      · exact Fr.of_below HB1.out
    case round =>
      obtain ⟨i, j, ROW, rfl, rfl, hij, hjn, hgg, H1, H2, H3, H4, H5, H6⟩ := hrel
      have hn1 : xs.length ≤ c := hlc
      by_cases hlt : j < xs.length
      · obtain ⟨x, hx⟩ : ∃ x, xs[j]? = some x := ⟨_, List.getElem?_eq_getElem hlt⟩
        have hcell : ∀ t u, t < 7 → (cellsB x)[t]? = some u → wr.cell? ⟨b, j * 7 + t, none⟩ = some u := by
          intro t u ht hu
          have h0 := flat_get cellsB 7 (fun _ => rfl) (xs.drop j) 0 x (by rw [List.getElem?_drop]; exact hx) t ht
          rw [← H5.out, hu, Nat.zero_mul, Nat.zero_add, List.getElem?_take] at h0
          split at h0
          · rw [List.getElem?_drop] at h0
            unfold World.cell?
            rw [H1.out]
            show ROW[j * 7 + t]? = some u
            rw [← Array.getElem?_toList]
            exact h0
          · cases h0
        have d0 : wr.cell? ⟨b, j * 7, none⟩ = some (.int .u16 x.a.fr) := hcell 0 _ (by omega) rfl
        have d1 : wr.cell? ⟨b, j * 7 + 1, none⟩ = some (.int .u32 x.a.ep) := hcell 1 _ (by omega) rfl
        have d2 : wr.cell? ⟨b, j * 7 + 2, none⟩ = some (.int .u32 x.a.id) := hcell 2 _ (by omega) rfl
        have d3 : wr.cell? ⟨b, j * 7 + 3, none⟩ = some (.int .u16 x.a.cnt) := hcell 3 _ (by omega) rfl
        have d4 : wr.cell? ⟨b, j * 7 + 4, none⟩ = some (.int .u8 x.a.ver) := hcell 4 _ (by omega) rfl
        have d5 : wr.cell? ⟨b, j * 7 + 5, none⟩ = some (.int .i64 x.a.age) := hcell 5 _ (by omega) rfl
        have d6 : wr.cell? ⟨b, j * 7 + 6, none⟩ = some (.pointer (some ⟨x.p, 0, none⟩)) := hcell 6 _ (by omega) rfl
        have HX := Aside0.mk hx
        have z0 : (0 : Int) ≤ (j : Int) := by omega
        have hjl : (j : Int) < (xs.length : Int) := by omega
        clear hcell hx
        go_wp2_with fail
        refine (HP.out _ x ((H6.out.then_ (Fr.of_below (own := fun _ => False) (below_alloc (Below.refl _ _) _)) (fun _ _ h => h.elim)).mono (fun q _ hq => by rw [hq]; rfl))).mono ?_
        rintro e w2 ⟨rfl, hb2⟩
        have hsz2 : wr.heap.size < (wr.alloc (Obj.cells #[Value.int IntKind.u16 x.a.fr, Value.int IntKind.u32 x.a.ep, Value.int IntKind.u32 x.a.id, Value.int IntKind.u16 x.a.cnt, Value.int IntKind.u8 x.a.ver, Value.int IntKind.i64 x.a.age, Value.pointer (some ⟨x.p, 0, none⟩)] 69)).heap.size := by show wr.heap.size < (wr.heap.push _).size; rw [Array.size_push]; omega
        have f0 := (hb2.cell (p := ⟨wr.heap.size, 0, none⟩) hsz2).trans (by simp : _ = some (.int .u16 x.a.fr : Value))
        have f1 := (hb2.cell (p := ⟨wr.heap.size, 1, none⟩) hsz2).trans (by simp : _ = some (.int .u32 x.a.ep : Value))
        have f2 := (hb2.cell (p := ⟨wr.heap.size, 2, none⟩) hsz2).trans (by simp : _ = some (.int .u32 x.a.id : Value))
        have f3 := (hb2.cell (p := ⟨wr.heap.size, 3, none⟩) hsz2).trans (by simp : _ = some (.int .u16 x.a.cnt : Value))
        have f4 := (hb2.cell (p := ⟨wr.heap.size, 4, none⟩) hsz2).trans (by simp : _ = some (.int .u8 x.a.ver : Value))
        have f5 := (hb2.cell (p := ⟨wr.heap.size, 5, none⟩) hsz2).trans (by simp : _ = some (.int .i64 x.a.age : Value))
        have f6 := (hb2.cell (p := ⟨wr.heap.size, 6, none⟩) hsz2).trans (by simp : _ = some (.pointer (some ⟨x.p, 0, none⟩) : Value))
        have hbl := (Array.getElem?_eq_some_iff.1 H1.out).1
        have HB2 := Aside0.mk ((H6.out.then_ (Fr.of_below (own := fun _ => False) (below_alloc (Below.refl _ _) _)) (fun _ _ h => h.elim)).then_ (Fr.of_below (own := fun _ => False) hb2) (fun _ _ h => h.elim))
        have hh2 : w2.heap[b]? = some (.cells ROW 69 (0, 0)) := by
          rw [hb2.block b (Nat.lt_trans hbl hsz2), Below.heap_alloc wr _ b hbl]; exact H1.out
        have HH2 := Aside0.mk hh2
        have et : xs.take (j + 1) = xs.take j ++ [x] := by
          have h := HX.out
          rw [List.take_add_one, h]; rfl
        have HET := Aside0.mk et
        have h5' : (ROW.toList.drop ((j + 1) * 7)).take ((xs.length - (j + 1)) * 7) = (xs.drop (j + 1)).flatMap cellsB := by
          have h := congrArg (List.drop (1 * 7)) H5.out
          rw [flat_drop cellsB 7 (fun _ => rfl), List.drop_drop, List.drop_take, List.drop_drop] at h
          rw [show j * 7 + 1 * 7 = (j + 1) * 7 by omega, show (xs.length - j) * 7 - 1 * 7 = (xs.length - (j + 1)) * 7 by omega] at h
          exact h
        have H5' := Aside0.mk h5'
        obtain ⟨q, hq⟩ : ∃ q, p x = q := ⟨_, rfl⟩
        rw [hq]
        have HPX := Aside0.mk hq
        clear hq h5' et hh2 hb2 hsz2 d0 d1 d2 d3 d4 d5 d6
        cases q with
        | true =>
          clear f0 f1 f2 f3 f4 f5 f6
          go_wp2
          go_roundg (xs.length - (j + 1))
          case measure => omega
          case rel =>
            refine ⟨i, j + 1, ROW, rfl, by go_num, by omega, hlt, by omega, ⟨HH2.out⟩, H2, ⟨?_⟩, ⟨?_⟩, H5', ⟨HB2.out⟩⟩
            · rw [H3.out, HET.out, List.filter_append]; simp [HPX.out]
            · rw [HET.out, List.filter_append]; simp [HPX.out]; exact H4.out
        | false =>
          have hic : i * 7 + 7 ≤ ROW.size := by rw [H2.out]; omega
          have zi : (0 : Int) ≤ (i : Int) := by omega
          have hil : (i : Int) < (xs.length : Int) := by omega
          have HIC := Aside0.mk hic
          clear hic hbl
          have HBL2 := Aside0.mk HB2.out
          obtain ⟨V, hV⟩ : ∃ V, V = wr.heap.size := ⟨_, rfl⟩
          rw [← hV] at f0 f1 f2 f3 f4 f5 f6 ⊢
          clear hV
          go_wp2_with (refine store_box (.store 69 (.tmp 33) (.tmp 32)) 69 (.tmp 33) (.tmp 32) b (i * 7) ROW _ 69 (valB x) (cellsB x) rfl rfl rfl rfl rfl rfl HH2.out rfl (by kernel_rfl) HIC.out (one7 x) rfl ?_; intro w3 e3 hs3; have HE3 := Aside0.mk e3; have HS3 := Aside0.mk hs3; clear e3 hs3)
          go_roundg (xs.length - (j + 1))
          case measure => omega
          case rel =>
            obtain ⟨ROW', hrow⟩ : ∃ ROW', (ROW.toList.take (i * 7) ++ cellsB x ++ ROW.toList.drop (i * 7 + (cellsB x).length)).toArray = ROW' := ⟨_, rfl⟩
            have r1 : w3.heap[b]? = some (.cells ROW' 69 (0, 0)) := by rw [← hrow]; exact HE3.out
            have r3 : ROW'.toList = ROW.toList.take (i * 7) ++ cellsB x ++ ROW.toList.drop (i * 7 + (cellsB x).length) := by rw [← hrow]
            have r2 : ROW'.size = ROW.size := by
              rw [← Array.length_toList, r3, List.length_append, List.length_append, List.length_take, List.length_drop, Array.length_toList]
              have h1 := HIC.out
              have h2 : (cellsB x).length = 7 := rfl
              omega
            have hl3 : (cellsB x).length = 7 := rfl
            rw [hl3] at r3
            have hi3 : (ROW.toList.take (i * 7)).length = i * 7 := by rw [List.length_take, Array.length_toList]; have := HIC.out; omega
            refine ⟨i + 1, j + 1, ROW', by go_num, by go_num, by omega, hlt, by omega, ⟨r1⟩, ⟨r2.trans H2.out⟩, ⟨?_⟩, ⟨?_⟩, ⟨?_⟩, ⟨?_⟩⟩
            · rw [HET.out, List.filter_append, show [x].filter (fun x => !p x) = [x] by simp [HPX.out], List.flatMap_append, ← H3.out, r3, List.take_append_of_le_length (by rw [List.length_append, hi3, hl3]; omega), List.take_of_length_le (by rw [List.length_append, hi3, hl3]; omega)]
              simp
            · rw [HET.out, List.filter_append, show [x].filter (fun x => !p x) = [x] by simp [HPX.out], List.length_append, ← H4.out]; rfl
            · have e5 : ROW'.toList.drop ((j + 1) * 7) = ROW.toList.drop ((j + 1) * 7) := by
                rw [r3, List.drop_append, List.drop_of_length_le (by rw [List.length_append, hi3, hl3]; omega), List.nil_append, List.drop_drop]
                congr 1
                rw [List.length_append, hi3, hl3]; omega
              rw [e5]; exact H5'.out
            · have hB := HB2.out
              exact ⟨HS3.out.os.trans hB.os, HS3.out.tape.trans hB.tape, HS3.out.output.trans hB.output, by rw [HS3.out.size]; exact hB.size, fun k hk hne => (HS3.out.far k hne).trans (hB.block k hk hne)⟩
      · obtain rfl : j = xs.length := by omega
        have hzz : ZV69.cells.size = 7 := rfl
        have hcl : ∀ ty, (Builtin.clear_ #[62] ty #[.slice (some ⟨b, i * 7, none⟩) (xs.length - i) (c - i)]).run Try.prog wr = .ok (.tuple #[]) (wr.setRow b (ROW.toList.take (i * 7) ++ (Builtin.zeroCells ZV69.cells (xs.length - i)).toList ++ ROW.toList.drop (i * 7 + (Builtin.zeroCells ZV69.cells (xs.length - i)).toList.length)).toArray) :=
          fun ty => run_clear_row Try.prog wr 62 69 ty ZV69 hu (fun w => Try.zeroValue69 w) (by decide) b (i * 7) _ _ (by omega) ROW 69 H1.out (by rw [hzz, H2.out]; omega)
        obtain ⟨R2, hR2⟩ : ∃ R2, R2 = (ROW.toList.take (i * 7) ++ (Builtin.zeroCells ZV69.cells (xs.length - i)).toList ++ ROW.toList.drop (i * 7 + (Builtin.zeroCells ZV69.cells (xs.length - i)).toList.length)).toArray := ⟨_, rfl⟩
        rw [← hR2] at hcl
        have HR2 := Aside0.mk hR2
        have hnl : ¬ (xs.length : Int) < (xs.length : Int) := by omega
        have zi : (0 : Int) ≤ (i : Int) := by omega
        have hil : (i : Int) ≤ (xs.length : Int) := by omega
        have hic : ¬ (c = i) := by omega
        clear hR2
        go_wp2
        go_ret
        have h3 := H3.out
        have h4 := H4.out
        rw [List.take_length] at h3 h4
        have hrl : ROW.toList.length = c * 7 := by rw [Array.length_toList]; exact H2.out
        have hzl : (Builtin.zeroCells ZV69.cells (xs.length - i)).toList.length = (xs.length - i) * 7 := by simp [Builtin.zeroCells, hzz]
        have hr2s : R2.size = c * 7 := by
          rw [HR2.out, List.size_toArray, List.length_append, List.length_append, hzl, List.length_take, List.length_drop, hrl]; omega
        refine ⟨_, rfl, ?_, ?_⟩
        · refine flat_owned k7 69 cellsB (fun _ => rfl) (fun w b ok x => k7_mkM w b ok x) _ b c i R2 h4 HOK.out.1 HOK.out.2 (setRow_heap wr b ROW R2 69 (0, 0) H1.out) (by omega) HC.out.1 (by rw [hk3]; exact hr2s) ?_
          rw [hk3, ← h4, ← h3, HR2.out]
          simp only [List.append_assoc]
          rw [List.take_append_of_le_length (by rw [List.length_take, hrl]; omega), List.take_of_length_le (by rw [List.length_take]; omega)]
        · have hB := H6.out
          exact ⟨hB.os, hB.tape, hB.output, by show w.heap.size ≤ (wr.heap.modify b _).size; rw [Array.size_modify]; exact hB.size, fun k hk hne => by rw [setRow_other wr b k _ (fun e => hne (by rw [e]; rfl))]; exact hB.block k hk (fun e => hne (by rw [e]; rfl))⟩

#print axioms delf_calls
end Go.Proofs.Ytaeelmkpjgmdlaa.H

/- Mine. Chapter 22, by hand: Tick of the table. -/
namespace Go.Proofs.Ytaeelmkpjgmdlaa.H
open Go Go.Proofs Go.RowKit Go.Lib Go.Proofs.Ytaeelmkpjgmdlaa.P Go.Proofs.YtaeelmkpjgmdlaaW.PrintWords Go.Proofs.YtaeelmkpjgmdlaaW.PrintLast Go.Proofs.YtaeelmkpjgmdlaaW.PrintMore Go.Proofs.YtaeelmkpjgmdlaaW.PrintFlat
set_option linter.unusedVariables false
set_option linter.unusedSimpArgs false
set_option maxRecDepth 100000 in
theorem tick_clo (x : OB) (t B0 : Nat) (ex : Int) (W : World) (hb0 : W.cell? ⟨B0, 0, none⟩ = some (.pointer (some ⟨t, 0, none⟩))) (hx0 : W.cell? ⟨t, 3, none⟩ = some (.int .i64 ex)) :
    Calls Try.prog 27 #[valB x, .pointer (some ⟨B0, 0, none⟩)] W fun e' w' => e' = .returned (.bool (decide (x.a.age > ex))) ∧ Below W.heap.size W w' := by
  have hu := Try.underlying69
  have hb := below_alloc (Below.refl W.heap.size W) (.cells #[.int .u16 x.a.fr, .int .u32 x.a.ep, .int .u32 x.a.id, .int .u16 x.a.cnt, .int .u8 x.a.ver, .int .i64 x.a.age, .pointer (some ⟨x.p, 0, none⟩)] 69)
  have p0 := pw_cell_below hb hb0
  have p1 := pw_cell_below hb hx0
  have HB := Aside0.mk hb
  clear hb hb0 hx0
  by_cases hh : x.a.age > ex
  · have h1 : decide (x.a.age > ex) = true := decide_eq_true hh
    go_enter Try.func27, Try.ntmps27
    go_wp2
    go_quiet (fail)
    go_wp2
    go_ret
    exact ⟨by rw [h1]; rfl, pw_below_drewN HB.out _⟩
  · have h1 : decide (x.a.age > ex) = false := decide_eq_false hh
    go_enter Try.func27, Try.ntmps27
    go_wp2
    go_quiet (fail)
    go_wp2
    go_ret
    exact ⟨by rw [h1]; rfl, pw_below_drewN HB.out _⟩
def incB (o : OB) : OB := { o with a := { o.a with age := o.a.age + 1 } }
theorem set_mem {α : Type} {l : List α} {k : Nat} {x : α} (hk : k < l.length) : ∀ y ∈ l.set k x, y = x ∨ ∃ j, ∃ hj : j < l.length, j ≠ k ∧ y = l[j] := fun y hy => by
  obtain ⟨j, hj, rfl⟩ := List.getElem_of_mem hy
  rw [List.length_set] at hj
  by_cases hjk : k = j
  · subst hjk
    exact .inl (List.getElem_set_self _)
  · exact .inr ⟨j, hj, fun e => hjk e.symm, List.getElem_set_ne hjk _⟩
/-- A row whose cells have been written anew: messages with the same blocks and parts. -/
theorem Bag.turn {own oL : Nat → Prop} {v v' : Value} {os os' : List OB} {W W' : World} {g : Nat} (h : Bag OPA 69 own v os W) (hL : ∀ k, oL k → own k ∧ ∀ o ∈ os, ¬ o.own k) (hg : oL g)
    (hrow : k7.R 69 W' 0 oL v' os') (hf : Fr (fun k => k = g) W W') (he : os'.map (fun o => (o.own, o.p, o.a.cnt, o.a.ps)) = os.map (fun o => (o.own, o.p, o.a.cnt, o.a.ps))) : Bag OPA 69 own v' os' W' := by
  have hm : ∀ o' ∈ os', ∃ o ∈ os, o'.own = o.own ∧ o'.p = o.p ∧ o'.a.cnt = o.a.cnt ∧ o'.a.ps = o.a.ps := fun o' ho' => by
    have h1 : (o'.own, o'.p, o'.a.cnt, o'.a.ps) ∈ os'.map (fun o => (o.own, o.p, o.a.cnt, o.a.ps)) := List.mem_map.2 ⟨o', ho', rfl⟩
    rw [he] at h1
    obtain ⟨o, ho, e⟩ := List.mem_map.1 h1
    injection e with e1 e2
    injection e2 with e2 e3
    injection e3 with e3 e4
    exact ⟨o, ho, e1.symm, e2.symm, e3.symm, e4.symm⟩
  refine ⟨⟨oL, hrow, fun k hk => ⟨(hL k hk).1, fun o' ho' e => ?_⟩⟩, fun o' ho' => ?_, fun o' ho' k hk => ?_, ?_, fun k hk => Nat.lt_of_lt_of_le (h.lt k hk) hf.size⟩
  · obtain ⟨o, ho, e1, _⟩ := hm o' ho'
    exact (hL k hk).2 o ho (by rw [← e1]; exact e)
  · obtain ⟨o, ho, e1, e2, e3, e4⟩ := hm o' ho'
    unfold OPA
    rw [e1, e2, e3, e4]
    exact OPA.fr o W W' _ (h.obj o ho) hf (fun k hk e => (hL g hg).2 o ho (by rw [← e]; exact hk))
  · obtain ⟨o, ho, e1, _⟩ := hm o' ho'
    exact h.sub o ho k (by rw [← e1]; exact hk)
  · have h1 := h.apart
    have h2 : (os.map (fun o => (o.own, o.p, o.a.cnt, o.a.ps))).Pairwise (fun a b => ∀ k, a.1 k → ¬ b.1 k) := by rw [List.pairwise_map]; exact h1
    rw [← he, List.pairwise_map] at h2
    exact h2
theorem aOf_inc (L : Room.Lim) (os : List OB) : aOf ((os.map incB).filter fun x => !decide (x.a.age > L.ex)) = Room.tick L (aOf os) := by
  unfold Room.tick aOf
  induction os with
  | nil => rfl
  | cons x r ih =>
    simp only [List.map_cons, List.filter_cons]
    have e1 : (!decide ((incB x).a.age > L.ex)) = decide (x.a.age + 1 ≤ L.ex) := by
      show (!decide (x.a.age + 1 > L.ex)) = _
      by_cases hh : x.a.age + 1 ≤ L.ex
      · rw [decide_eq_true hh, decide_eq_false (by omega)]; rfl
      · rw [decide_eq_false hh, decide_eq_true (by omega)]; rfl
    rw [e1]
    by_cases hh : x.a.age + 1 ≤ L.ex
    · simp only [decide_eq_true hh, if_true, List.map_cons, ih]; rfl
    · simp only [decide_eq_false hh, Bool.false_eq_true, if_false, ih]
theorem row_free {T : Nat} {W : World} {ok : Nat → Prop} {g n c : Nat} {xs : List OB} (h : k7.R T W 0 ok (.slice (some ⟨g, 0, none⟩) n c) xs) (o : Nat) : W.frozen? ⟨g, o, none⟩ = false := by
  obtain ⟨_, inner, ho, _⟩ := h
  rcases ho.2 with ⟨hv, _⟩ | ⟨g', cap, cur, hv, _, hh, _⟩
  · cases hv
  · injection hv with ha _ _
    injection ha with ha
    injection ha with ha
    subst ha
    exact blk_frozen hh o
theorem Fr.cell {S : Nat → Prop} {W W' : World} {b : Nat} {cs : Array Value} {T : Nat} (h : Fr S W W') (hb : W.heap[b]? = some (.cells cs T (0, 0))) (hn : ¬ S b) {o : Nat} : W'.cell? ⟨b, o, none⟩ = cs[o]? := blk_cell ((h.block b (blk_lt hb) hn).trans hb) o
theorem Bag.sub2 {own oL : Nat → Prop} {v v' : Value} {os os' : List OB} {W W' : World} (h : Bag OPA 69 own v os W) (hL : ∀ k, oL k → own k ∧ ∀ o ∈ os, ¬ o.own k) (hR : k7.R 69 W 0 oL v os) (hsub : os'.Sublist os)
    (hrow : k7.R 69 W' 0 oL v' os') (hf : Fr (fun k => some k = v.ownBlock) W W') : Bag OPA 69 own v' os' W' :=
  ⟨⟨oL, hrow, fun k hk => ⟨(hL k hk).1, fun o ho => (hL k hk).2 o (hsub.subset ho)⟩⟩, fun o ho => OPA.fr o W W' _ (h.obj o (hsub.subset ho)) hf (fun k hk e => (hL k (hR.1 k e.symm)).2 o (hsub.subset ho) hk),
    fun o ho => h.sub o (hsub.subset ho), h.apart.sublist hsub, fun k hk => Nat.lt_of_lt_of_le (h.lt k hk) hf.size⟩
structure TickS (t B0 : Nat) (cs : Array Value) (V : World) : Prop where
  s0 : V.heap[B0]? = some (.cells #[.pointer (some ⟨t, 0, none⟩)] 27 (0, 0))
  s1 : V.heap[t]? = some (.cells cs 64 (0, 0))
set_option maxHeartbeats 4000000 in
set_option maxRecDepth 100000 in
theorem tick_calls {own : Nat → Prop} {t : Nat} {L : Room.Lim} {os : List OB} {W : World} (h : TS own t L os W) (hm : os.length ≤ 1000) (ha : ∀ o ∈ os, 0 ≤ o.a.age ∧ o.a.age ≤ 1000) :
    Calls Try.prog 11 #[.pointer (some ⟨t, 0, none⟩)] W fun e' w' => e' = .returned (.tuple #[]) ∧ Fr own W w' ∧ ∃ os', aOf os' = Room.tick L (aOf os) ∧ TS own t L os' w' := by
  obtain ⟨V, hV⟩ : ∃ V, (W.alloc (.cells #[.pointer (some ⟨t, 0, none⟩)] 27)) = V := ⟨_, rfl⟩
  have hbV : Below W.heap.size W V := by rw [← hV]; exact below_alloc (Below.refl _ _) _
  have hx1 : V.heap[W.heap.size]? = some (.cells #[.pointer (some ⟨t, 0, none⟩)] 27 (0, 0)) := by rw [← hV]; exact heap_alloc_new W _
  have HTL := Aside0.mk h.lt
  have HOT := Aside0.mk h.ot
  have HTV := Aside0.mk (h.below hbV)
  have HBV := Aside0.mk hbV
  have HX1 := Aside0.mk hx1
  have HA := Aside0.mk ha
  have HDEAD := Aside0.mk (dead_ok HTV.out)
  have HMX := Aside0.mk hm
  obtain ⟨A, c, g0, g1, g2, g3, g4, hl, hC⟩ := HTV.out.reads
  have d0 : V.cell? ⟨W.heap.size, 0, none⟩ = some (.pointer (some ⟨t, 0, none⟩)) := (blk_cell hx1 0).trans rfl
  clear h hbV hx1 ha hC hl hm
  go_enter Try.func11, Try.ntmps11
  go_wp2_with fail
  refine HDEAD.out.mono ?_
  rintro e1 w1 ⟨rfl, rfl⟩
  have HT0 : Aside0 (TS own t L ((os.take 0).map incB ++ os.drop 0) V) := ⟨HTV.out⟩
  have HF0 : Aside0 (Fr own W V) := ⟨Fr.of_below HBV.out⟩
  go_wp2
  go_loopg [2, 10] os.length (fun gg _ s10 wr => ∃ k : Nat, k ≤ os.length ∧ os.length - k ≤ gg ∧ s10 = .int .i64 k ∧ Aside0 (TS own t L ((os.take k).map incB ++ os.drop k) wr) ∧ Aside0 (Fr own W wr) ∧ Aside0 (wr.heap[W.heap.size]? = some (.cells #[.pointer (some ⟨t, 0, none⟩)] 27 (0, 0))))
  case atStart => exact ⟨0, Nat.zero_le _, by omega, rfl, HT0, HF0, HX1⟩
  case round =>
    obtain ⟨k, hk, hgg, rfl, HT, HF, HX⟩ := hrel
    have hmx := HMX.out
    have d1 : wr.cell? ⟨W.heap.size, 0, none⟩ = some (.pointer (some ⟨t, 0, none⟩)) := (blk_cell HX.out 0).trans rfl
    clear d0 g0 g1 g2 g3 g4
    by_cases hlt : k < os.length
    · obtain ⟨y, hy⟩ : ∃ y, os[k] = y := ⟨_, rfl⟩
      have hlen : ((os.take k).map incB ++ os.drop k).length = os.length := by simp; omega
      have hgy : ((os.take k).map incB ++ os.drop k)[k]? = some y := by
        rw [List.getElem?_append_right (by simp; omega), List.getElem?_drop, show k + (k - ((os.take k).map incB).length) = k by simp; omega, List.getElem?_eq_getElem hlt, hy]
      obtain ⟨osk, hosk⟩ : ∃ osk, (os.take k).map incB ++ os.drop k = osk := ⟨_, rfl⟩
      have hset : osk.set k (incB y) = (os.take (k + 1)).map incB ++ os.drop (k + 1) := by
        rw [← hosk, List.set_append_right _ _ (by simp; omega), show k - ((os.take k).map incB).length = 0 by simp; omega, List.take_succ_eq_append_getElem hlt, hy, List.map_append, List.append_assoc, List.drop_eq_getElem_cons hlt]
        rfl
      rw [hosk] at HT hlen hgy
      obtain ⟨v, oB, h1, h2, h3⟩ := HT.out.st
      obtain ⟨oL, hR, hL⟩ := h2.row
      obtain ⟨A1, c1, rfl, hl1, hC1⟩ := Kd.R_reads hR
      obtain ⟨ad, rfl⟩ : ∃ ad, A1 = some ad := by
        obtain ⟨ad, e, _⟩ := hC1.2.2 (by omega)
        exact ⟨ad, e⟩
      obtain ⟨gr, rfl⟩ := Kd.R_head hR
      rw [hlen] at hR h1 h2
      obtain ⟨c7, _, hM7, hcc⟩ := Kd.R_get hR zB (k : Int) (by omega) (by omega)
      have hyy : osk.getD (k : Int).toNat zB = y := by rw [Int.toNat_natCast, List.getD_eq_getElem?_getD, hgy]; rfl
      rw [hyy] at hM7
      obtain rfl := k7_openM hM7
      have hcc' : ∀ j u, (cellsB y)[j]? = some u → wr.cell? ⟨gr, (k : Int).toNat * k7.sz + j, none⟩ = some u := fun j u hu => by have h := hcc j u hu; rwa [add_at, Nat.zero_add] at h
      have hx5 : wr.cell? ⟨gr, k * 7 + 5, none⟩ = some (.int .i64 y.a.age) := hcc' 5 _ rfl
      have hf5 : wr.frozen? ⟨gr, k * 7 + 5, none⟩ = false := row_free hR _
      have g4 : wr.cell? ⟨t, 4, none⟩ = some (.slice (some ⟨gr, 0, none⟩) os.length c1) := (blk_cell h1 4).trans rfl
      have hag := HA.out y (by rw [← hy]; exact List.getElem_mem _)
      have hwa : wrap64 (y.a.age + 1) = y.a.age + 1 := by unfold wrap64; omega
      have p0 : (0 ≤ (k : Int)) = True := eq_true (by omega)
      have p1 : ((k : Int) < (os.length : Int)) = True := eq_true (by omega)
      have HR := Aside0.mk hR
      have HCC := Aside0.mk hcc'
      have HTR := Aside0.mk (And.intro h1 (And.intro h2 (And.intro h3 hL)))
      have HSET := Aside0.mk hset
      have HGO := Aside0.mk (hR.1 gr rfl)
      have HLT := Aside0.mk hlt
      have HGY := Aside0.mk hgy
      have HLEN := Aside0.mk hlen
      clear hR hcc hcc' hC1 h1 h2 h3 hL hM7 hyy hset hosk hgy hlen hl1
      go_wp2_with (refine Kd.R_store k7 (w0 := wr) 0 rfl rfl 3 _ _ rfl 69 (k : Int) 5 osk (incB y) (.int .i64 (y.a.age + 1)) [.int .i64 (y.a.age + 1)] (cellsB y) oL (fun _ => False) rfl rfl rfl rfl (by kernel_rfl) (by simp [Value.oneCell']) HR.out (Int.natCast_nonneg k) (Int.ofNat_lt.2 HLT.out) rfl HCC.out (show 5 + 1 ≤ 7 by decide) (k7_mkM _ _ _ _) (fun _ h => h.elim) (Below.refl _ _) ?_; intro w2 hO2 hb2 hg2; have HO2 := Aside0.mk hO2; have HG2 := Aside0.mk hg2; clear hO2 hb2 hg2)
      go_roundg (os.length - (k + 1))
      case measure => have := HLT.out; omega
      case rel =>
        obtain ⟨h1, h2, h3, hL⟩ := HTR.out
        have hF2 : Fr (fun q => q = gr) wr w2 := Fr.of_grown HG2.out rfl
        have hgo := HGO.out
        have hgt : t ≠ gr := fun e => (h3 gr (hL gr hgo).1).2 e.symm
        refine ⟨k + 1, HLT.out, by have := HLT.out; omega, by go_num, ⟨?_⟩, ⟨HF.out.then_ hF2 (fun q _ e => by rw [e]; exact (h3 gr (hL gr hgo).1).1)⟩, ⟨(hF2.block _ (blk_lt HX.out) (fun e => by obtain ⟨_, inner, ho, _⟩ := HR.out; obtain ⟨cells, hc⟩ := own_typed ho gr rfl; rw [← e, HX.out] at hc; injection hc with hc; injection hc with _ hc _; exact absurd hc (by decide))).trans HX.out⟩⟩
        rw [← HSET.out]
        have hO2 := HO2.out
        have hbag := h2.turn (g := gr) hL hgo hO2 hF2 (by
          rw [Int.toNat_natCast, List.map_set]
          refine List.ext_getElem? fun j => ?_
          rw [List.getElem?_set]
          by_cases hj : k = j
          · subst hj
            rw [if_pos rfl, List.length_map, if_pos (by have := HLT.out; have := HLEN.out; omega), List.getElem?_map, HGY.out]
            rfl
          · rw [if_neg hj])
        exact ⟨HT.out.ot, ⟨_, oB, (hF2.block t (HT.out.lt t HT.out.ot) hgt).trans h1, hbag, h3⟩, fun q hq => Nat.lt_of_lt_of_le (HT.out.lt q hq) hF2.size⟩
    · have hkk : k = os.length := by omega
      have p1 : ¬ ((k : Int) < (os.length : Int)) := by omega
      subst hkk
      obtain ⟨osx, hosx⟩ : ∃ osx, os.map incB = osx := ⟨_, rfl⟩
      rw [List.take_length, List.drop_length, List.append_nil, hosx] at HT
      have HOSX := Aside0.mk hosx
      obtain ⟨X, hX⟩ : ∃ X, wr.drew = X := ⟨_, rfl⟩
      have hbX : Below wr.heap.size wr X := by rw [← hX]; exact (Below.refl _ _).drew
      have HTX := Aside0.mk (HT.out.below hbX)
      have HBX := Aside0.mk hbX
      have HXX := Aside0.mk ((hbX.block _ (blk_lt HX.out)).trans HX.out)
      obtain ⟨v, oB, h1, h2, h3⟩ := HTX.out.st
      obtain ⟨oL, hR, hL⟩ := h2.row
      obtain ⟨A, c, rfl, hl, hC⟩ := Kd.R_reads hR
      have hnt : t ≠ W.heap.size := fun e => by have := HTL.out t HOT.out; omega
      have hng : some t ≠ (Value.slice A osx.length c).ownBlock := fun e => (h3 t (hL t (hR.1 t e.symm)).1).2 rfl
      have hnb : some W.heap.size ≠ (Value.slice A osx.length c).ownBlock := fun e => by
        have hR2 := hR
        obtain ⟨_, inner, ho, _⟩ := hR2
        obtain ⟨cells, hc⟩ := own_typed ho W.heap.size e.symm
        rw [HXX.out] at hc
        injection hc with hc
        injection hc with _ hc _
        exact absurd hc (by decide)
      have hdel := delf_calls (fun o : OB => decide (o.a.age > L.ex)) 27 #[.pointer (some ⟨W.heap.size, 0, none⟩)] (enters_of Try.func27 (by kernel_rfl) rfl) 0 oL (.slice A osx.length c) osx X hR (Nat.zero_le _) (fun V x hf => tick_clo x t W.heap.size L.ex V ((hf.cell HXX.out hnb).trans rfl) ((hf.cell h1 hng).trans rfl))
      have HDEL := Aside0.mk hdel
      have HNB : Aside0 (¬ (some W.heap.size = (Value.slice A osx.length c).ownBlock)) := ⟨hnb⟩
      have HR := Aside0.mk hR
      have HTR := Aside0.mk (And.intro h1 (And.intro h2 (And.intro h3 hL)))
      have HTX' : Aside0 (t < X.heap.size ∧ ¬ (some t = (Value.slice A osx.length c).ownBlock)) := ⟨blk_lt h1, hng⟩
      have hs0 : TickS t W.heap.size #[.bool true, .int .i64 L.op, .int .i64 L.by_, .int .i64 L.ex, .slice A osx.length c] wr.drew := by rw [hX]; exact ⟨HXX.out, h1⟩
      clear hC hl hR h1 h2 h3 hL hng hnb hdel hosx hbX d1
      go_wp2
      refine start_ (n := 10) (S := TickS t W.heap.size #[.bool true, .int .i64 L.op, .int .i64 L.by_, .int .i64 L.ex, .slice A osx.length c]) (ds := [9]) #[false, false, false, false, false, false, false, false, false, false] (by kernel_rfl) rfl rfl hs0 (fun hH => ?_)
      rw [hX] at hH ⊢
      clear hs0 hX
      refine take_ (i := 0) (N := some 25) (v := ?_) (a' := ?_) #[true, false, false, false, false, false, false, false, false, false] rfl rfl (by kernel_rfl) (fun _ _ _ h => h) (Or.inl ⟨by rfl, ?_⟩) hH ?_ ?_
      rotate_left
      · rintro w' ⟨s0, s1⟩
        have q0 := (blk_cell s0 0).trans rfl
        go_simp
        with_reducible rfl
      rotate_left
      · simp only [Act.put, List.setIfInBounds_toArray, List.set_cons_zero, List.set_cons_succ, i64_w, i32_w]
        rfl
      refine take_ (i := 1) (N := some 26) (v := ?_) (a' := ?_) #[true, true, false, false, false, false, false, false, false, false] rfl rfl (by kernel_rfl) (fun _ _ _ h => h) (Or.inl ⟨by rfl, ?_⟩) hH ?_ ?_
      rotate_left
      · rintro w' ⟨s0, s1⟩
        have q0 := (blk_cell s0 0).trans rfl
        go_simp
        with_reducible rfl
      rotate_left
      · simp only [Act.put, List.setIfInBounds_toArray, List.set_cons_zero, List.set_cons_succ, i64_w, i32_w]
        rfl
      refine pure_ (i := 2) (N := some 27) (v := ?_) (a' := ?_) #[true, true, true, false, false, false, false, false, false, false] rfl rfl (by kernel_rfl) (fun _ _ _ h => h) (Or.inl ⟨by rfl, ?_⟩) ?_ ?_
      rotate_left
      · intro w'
        go_simp
        with_reducible rfl
      rotate_left
      · simp only [Act.put, List.setIfInBounds_toArray, List.set_cons_zero, List.set_cons_succ, i64_w, i32_w]
        rfl
      refine pure_ (i := 3) (N := some 28) (v := ?_) (a' := ?_) #[true, true, true, true, false, false, false, false, false, false] rfl rfl (by kernel_rfl) (fun _ _ _ h => h) (Or.inl ⟨by rfl, ?_⟩) ?_ ?_
      rotate_left
      · intro w'
        go_simp
        with_reducible rfl
      rotate_left
      · simp only [Act.put, List.setIfInBounds_toArray, List.set_cons_zero, List.set_cons_succ, i64_w, i32_w]
        rfl
      refine take_ (i := 4) (N := some 29) (v := ?_) (a' := ?_) #[true, true, true, true, true, false, false, false, false, false] rfl rfl (by kernel_rfl) (fun _ _ _ h => h) (Or.inl ⟨by rfl, ?_⟩) hH ?_ ?_
      rotate_left
      · rintro w' ⟨s0, s1⟩
        have q4 := (blk_cell s1 4).trans rfl
        go_simp
        with_reducible rfl
      rotate_left
      · simp only [Act.put, List.setIfInBounds_toArray, List.set_cons_zero, List.set_cons_succ, i64_w, i32_w]
        rfl
      refine pure_ (i := 5) (N := some 30) (v := ?_) (a' := ?_) #[true, true, true, true, true, true, false, false, false, false] rfl rfl (by kernel_rfl) (fun _ _ _ h => h) (Or.inl ⟨by rfl, ?_⟩) ?_ ?_
      rotate_left
      · intro w'
        go_simp
        with_reducible rfl
      rotate_left
      · simp only [Act.put, List.setIfInBounds_toArray, List.set_cons_zero, List.set_cons_succ, i64_w, i32_w]
        rfl
      refine one_ (i := 6) (N := some 31) #[true, true, true, true, true, true, true, false, false, false] rfl rfl (by kernel_rfl) (by decide) (fun K hK => ?_)
      refine goes_ Try.func26 (by kernel_rfl) rfl #[.slice A osx.length c, .func (.func 27) #[] #[.pointer (some ⟨W.heap.size, 0, none⟩)]] (by rfl) rfl rfl (by (try simp only [List.map_toArray, List.map_cons, List.map_nil]); first | done | rfl) ?_
      refine HDEL.out.mono ?_
      rintro e3 w3 ⟨v', rfl, hR3, hf3⟩
      refine ⟨_, rfl, ?_⟩
      obtain ⟨A', c', rfl, hl3, hC3⟩ := Kd.R_reads hR3
      have ht3 := (hf3.block t HTX'.out.1 HTX'.out.2).trans hH.s1
      have HR3 := Aside0.mk hR3; have HF3 := Aside0.mk hf3; have HT3 := Aside0.mk ht3
      have hft : w3.frozen? ⟨t, 4, none⟩ = false := blk_frozen ht3 4
      have hct : w3.cell? ⟨t, 4, none⟩ = some (.slice A osx.length c) := (blk_cell ht3 4).trans rfl
      have hS_ : TickS t W.heap.size #[.bool true, .int .i64 L.op, .int .i64 L.by_, .int .i64 L.ex, .slice A osx.length c] w3 := ⟨(hf3.block W.heap.size (blk_lt hH.s0) HNB.out).trans hH.s0, ht3⟩
      clear hR3 hf3 ht3 hC3 hl3
      refine hK.out _ _ hS_ (fun hH1 => ?_)
      clear hS_
      clear hK K
      refine norm_ (a' := ?_) ?_ ?_
      rotate_left
      · show Act.put _ (some 31) _ = _
        simp only [Act.put, List.setIfInBounds_toArray, List.set_cons_zero, List.set_cons_succ, i64_w, i32_w]
        rfl
      refine pure_ (i := 7) (N := some 32) (v := ?_) (a' := ?_) #[true, true, true, true, true, true, true, true, false, false] rfl rfl (by kernel_rfl) (fun _ _ _ h => h) (Or.inl ⟨by rfl, ?_⟩) ?_ ?_
      rotate_left
      · intro w'
        go_simp
        with_reducible rfl
      rotate_left
      · simp only [Act.put, List.setIfInBounds_toArray, List.set_cons_zero, List.set_cons_succ, i64_w, i32_w]
        rfl
      refine pure_ (i := 8) (N := some 33) (v := ?_) (a' := ?_) #[true, true, true, true, true, true, true, true, true, false] rfl rfl (by kernel_rfl) (fun _ _ _ h => h) (Or.inl ⟨by rfl, ?_⟩) ?_ ?_
      rotate_left
      · intro w'
        go_simp
        with_reducible rfl
      rotate_left
      · simp only [Act.put, List.setIfInBounds_toArray, List.set_cons_zero, List.set_cons_succ, i64_w, i32_w]
        rfl
      refine last_ (i := 9) (N := none) #[true, true, true, true, true, true, true, true, true, true] rfl rfl (by kernel_rfl) (by decide) (fun K hK => ?_)
      refine skip_ (w1 := w3.setCell ⟨t, 4, none⟩ (.slice A' (osx.filter fun x => !decide (x.a.age > L.ex)).length c')) (by rfl) rfl ?_ ?_
      · go_simp
        try rfl
      show K (Act.put _ none undef) _
      refine hK.out _ _ ?_
      clear hK K
      refine norm_ (a' := ?_) ?_ ?_
      rotate_left
      · show Act.put _ (none) _ = _
        simp only [Act.put, List.setIfInBounds_toArray, List.set_cons_zero, List.set_cons_succ, i64_w, i32_w]
        rfl
      refine done_ (by kernel_rfl) ?_
      clear hH hH1
      go_wp2
      go_end0
      obtain ⟨h1, h2, h3, hL⟩ := HTR.out
      have hblk := blk_set HT3.out 4 (.slice A' (osx.filter fun x => !decide (x.a.age > L.ex)).length c')
      have hsz : (w3.setCell ⟨t, 4, none⟩ (.slice A' (osx.filter fun x => !decide (x.a.age > L.ex)).length c')).heap.size = w3.heap.size := by simp [World.setCell]
      have hf4 : Fr (fun k => k = t) w3 (w3.setCell ⟨t, 4, none⟩ (.slice A' (osx.filter fun x => !decide (x.a.age > L.ex)).length c')) := ⟨rfl, rfl, rfl, by rw [hsz]; exact Nat.le_refl _, fun k hk hn => Below.heap_setCell _ _ _ _ hn⟩
      have hf3' : Fr own X w3 := HF3.out.mono (fun q _ hq => (h3 q (hL q (HR.out.1 q hq.symm)).1).1)
      have hfX : Fr own W w3 := (HF.out.then_ (Fr.of_below (own := fun _ => False) HBX.out) (fun _ _ h => h.elim)).then_ hf3' (fun q _ hq => hq)
      have hbag : Bag OPA 69 oB (.slice A' (osx.filter fun x => !decide (x.a.age > L.ex)).length c') (osx.filter fun x => !decide (x.a.age > L.ex)) w3 := h2.sub2 hL HR.out (List.filter_sublist) HR3.out HF3.out
      refine ⟨rfl, hfX.then_ hf4 (fun q _ hq => by rw [hq]; exact HOT.out), osx.filter fun x => !decide (x.a.age > L.ex), ?_, HOT.out, ⟨_, oB, ?_, hbag.frame OPA.fr hf4 (fun q hq e => (h3 q hq).2 e), h3⟩, fun q hq => ?_⟩
      · rw [← HOSX.out]; exact aOf_inc L os
      · rw [hblk]; simp
      · rw [hsz]; exact Nat.lt_of_lt_of_le (HTX.out.lt q hq) HF3.out.size
#print axioms tick_calls
end Go.Proofs.Ytaeelmkpjgmdlaa.H

/- Mine. Chapter 22, by hand: New and Open of the table. -/
namespace Go.Proofs.Ytaeelmkpjgmdlaa.H
open Go Go.Proofs Go.RowKit Go.Lib Go.Proofs.Ytaeelmkpjgmdlaa.P Go.Proofs.YtaeelmkpjgmdlaaW.PrintWords Go.Proofs.YtaeelmkpjgmdlaaW.PrintLast Go.Proofs.YtaeelmkpjgmdlaaW.PrintMore Go.Proofs.YtaeelmkpjgmdlaaW.PrintFlat
set_option linter.unusedVariables false
set_option linter.unusedSimpArgs false
set_option maxRecDepth 100000 in
theorem open_calls {own : Nat → Prop} {t : Nat} {L : Room.Lim} {os : List OB} {W : World} (h : TS own t L os W) : Calls Try.prog 15 #[.pointer (some ⟨t, 0, none⟩)] W fun e w' => e = .returned (.int .i64 os.length) ∧ Below W.heap.size W w' := by
  have HDEAD := Aside0.mk (dead_ok h)
  have HB := Aside0.mk (Below.refl W.heap.size W)
  obtain ⟨A, c, g0, g1, g2, g3, g4, hl, hC⟩ := h.reads
  clear h hC hl
  go_enter Try.func15, Try.ntmps15
  go_wp2_with fail
  refine HDEAD.out.mono ?_
  rintro e1 w1 ⟨rfl, rfl⟩
  go_wp2
  go_ret
  exact ⟨rfl, HB.out⟩
def inB (n m : Int) : Bool := decide (1 ≤ n) && decide (n ≤ m)
set_option maxRecDepth 100000 in
theorem within_calls (n m : Int) (W : World) : Calls Try.prog 24 #[.int .i64 n, .int .i64 m] W fun e w' => e = .returned (.bool (inB n m)) ∧ W = w' := by
  by_cases h1 : 1 ≤ n
  · by_cases h2 : n ≤ m
    · have e1 : decide (n ≥ 1) = true := decide_eq_true h1
      have e2 : decide (n ≤ m) = true := decide_eq_true h2
      go_enter Try.func24, Try.ntmps24
      go_wp2
      go_ret
      refine ⟨?_, rfl⟩
      unfold inB
      rw [decide_eq_true h1, decide_eq_true h2]; rfl
    · have e1 : decide (n ≥ 1) = true := decide_eq_true h1
      have e2 : decide (n ≤ m) = false := decide_eq_false h2
      go_enter Try.func24, Try.ntmps24
      go_wp2
      go_ret
      refine ⟨?_, rfl⟩
      unfold inB
      rw [decide_eq_true h1, decide_eq_false (show ¬ n ≤ m by omega)]; rfl
  · have e1 : decide (n ≥ 1) = false := decide_eq_false h1
    go_enter Try.func24, Try.ntmps24
    go_wp2
    go_ret
    refine ⟨?_, rfl⟩
    unfold inB
    rw [decide_eq_false (show ¬ 1 ≤ n by omega)]; rfl
def limB (L : Room.Lim) : Bool := inB L.op 16 && inB L.by_ 65536 && inB L.ex 32
theorem limB_ok {L : Room.Lim} (h : limB L = true) : LimOk L := by
  unfold limB inB at h
  simp only [Bool.and_eq_true, decide_eq_true_eq] at h
  exact ⟨h.1.1.1, h.1.1.2, h.1.2.1, h.1.2.2, h.2.1, h.2.2⟩
def TNewP (L : Room.Lim) (W : World) (e : Ending) (w' : World) : Prop := Below W.heap.size W w' ∧
  ((limB L = true ∧ ∃ t, e = .returned (.tuple #[.pointer (some ⟨t, 0, none⟩), .int .i64 0]) ∧ TS (fun k => W.heap.size ≤ k ∧ k < w'.heap.size) t L [] w') ∨ (limB L = false ∧ e = .returned (.tuple #[.pointer none, .int .i64 1])))
set_option maxRecDepth 100000 in
set_option maxHeartbeats 1000000 in
theorem tnew_calls (L : Room.Lim) (W : World) : Calls Try.prog 9 #[.agg #[.int .i64 L.op, .int .i64 L.by_, .int .i64 L.ex]] W (TNewP L W) := by
  have HB := Aside0.mk (show Below W.heap.size W (W.alloc (.cells #[.int .i64 L.op, .int .i64 L.by_, .int .i64 L.ex] 23)) from below_alloc (Below.refl _ _) _)
  obtain ⟨b1, hb1⟩ : ∃ b1, inB L.op 16 = b1 := ⟨_, rfl⟩
  obtain ⟨b2, hb2⟩ : ∃ b2, inB L.by_ 65536 = b2 := ⟨_, rfl⟩
  obtain ⟨b3, hb3⟩ : ∃ b3, inB L.ex 32 = b3 := ⟨_, rfl⟩
  have h1 := fun V => within_calls L.op 16 V
  have h2 := fun V => within_calls L.by_ 65536 V
  have h3 := fun V => within_calls L.ex 32 V
  rw [hb1] at h1
  rw [hb2] at h2
  rw [hb3] at h3
  have H1 := Aside0.mk h1
  have H2 := Aside0.mk h2
  have H3 := Aside0.mk h3
  have HL : Aside0 (limB L = (b1 && b2 && b3)) := ⟨by unfold limB; rw [hb1, hb2, hb3]⟩
  clear h1 h2 h3 hb1 hb2 hb3
  cases b1 with
  | false =>
    go_enter Try.func9, Try.ntmps9
    go_wp2_with fail
    refine (H1.out _).mono ?_
    rintro e1 w1 ⟨rfl, rfl⟩
    go_wp2_with fail
    go_ret2
    exact ⟨HB.out, .inr ⟨HL.out, rfl⟩⟩
  | true =>
    cases b2 with
    | false =>
      go_enter Try.func9, Try.ntmps9
      go_wp2_with fail
      refine (H1.out _).mono ?_
      rintro e1 w1 ⟨rfl, rfl⟩
      go_wp2_with fail
      refine (H2.out _).mono ?_
      rintro e1 w1 ⟨rfl, rfl⟩
      go_wp2_with fail
      go_ret2
      exact ⟨HB.out, .inr ⟨HL.out, rfl⟩⟩
    | true =>
      cases b3 with
      | false =>
        go_enter Try.func9, Try.ntmps9
        go_wp2_with fail
        refine (H1.out _).mono ?_
        rintro e1 w1 ⟨rfl, rfl⟩
        go_wp2_with fail
        refine (H2.out _).mono ?_
        rintro e1 w1 ⟨rfl, rfl⟩
        go_wp2_with fail
        refine (H3.out _).mono ?_
        rintro e1 w1 ⟨rfl, rfl⟩
        go_wp2_with fail
        go_ret2
        exact ⟨HB.out, .inr ⟨HL.out, rfl⟩⟩
      | true =>
        go_enter Try.func9, Try.ntmps9
        go_wp2_with fail
        refine (H1.out _).mono ?_
        rintro e1 w1 ⟨rfl, rfl⟩
        go_wp2_with fail
        refine (H2.out _).mono ?_
        rintro e1 w1 ⟨rfl, rfl⟩
        go_wp2_with fail
        refine (H3.out _).mono ?_
        rintro e1 w1 ⟨rfl, rfl⟩
        go_wp2_with fail
        go_ret2
        obtain ⟨V, hV⟩ : ∃ V, W.alloc (.cells #[.int .i64 L.op, .int .i64 L.by_, .int .i64 L.ex] 23) = V := ⟨_, rfl⟩
        have e1 : V.heap.size = W.heap.size + 1 := by rw [← hV]; simp
        have hV2 := HB.out
        rw [hV] at hV2 ⊢
        have hn := heap_alloc_new V (.cells #[.bool true, .int .i64 L.op, .int .i64 L.by_, .int .i64 L.ex, .slice none 0 0] 64)
        have e2 : (V.alloc (.cells #[.bool true, .int .i64 L.op, .int .i64 L.by_, .int .i64 L.ex, .slice none 0 0] 64)).heap.size = W.heap.size + 1 + 1 := by rw [← e1]; simp
        rw [e1] at hn
        refine ⟨hV2.alloc (by omega) _, .inl ⟨HL.out, W.heap.size + 1, rfl, ⟨by omega, by rw [e2]; omega⟩, ⟨.slice none 0 0, fun _ => False, hn, ?_, fun _ h => h.elim⟩, fun k hk => hk.2⟩⟩
        exact ⟨⟨fun _ => False, Kd.R_nil _ _ _ _ _, fun _ h => h.elim⟩, fun o ho => by simp at ho, fun o ho => by simp at ho, List.Pairwise.nil, fun _ h => h.elim⟩
#print axioms tnew_calls
end Go.Proofs.Ytaeelmkpjgmdlaa.H

/- Mine. Chapter 22, by hand: the chapter's example. -/
namespace Go.Proofs.Ytaeelmkpjgmdlaa.H
open Go Go.Proofs Go.RowKit Go.Lib Go.Proofs.Ytaeelmkpjgmdlaa.P Go.Proofs.YtaeelmkpjgmdlaaW.PrintWords Go.Proofs.YtaeelmkpjgmdlaaW.PrintLast Go.Proofs.YtaeelmkpjgmdlaaW.PrintMore Go.Proofs.YtaeelmkpjgmdlaaW.PrintFlat
set_option linter.unusedVariables false
set_option linter.unusedSimpArgs false
theorem lit_reads {own : Nat → Prop} {W : World} (x : Int) (hb : 0 ≤ x ∧ x ≤ 255) (hs : ∀ k, own k → k < W.heap.size) : ∀ V, Fr own (W.alloc (.cells #[.int .u8 x] 5 (1, 2))) V → Kd.C (Kd.int .u8) V (some ⟨W.heap.size, 0, none⟩) [x].length [x] := by
  intro V hV
  have h1 := hV.block W.heap.size (by simp) (fun ho => by have := hs _ ho; omega)
  rw [heap_alloc_new] at h1
  refine ⟨rfl, by simp, fun _ => ⟨_, rfl, fun j p hj => ?_⟩⟩
  rcases j with _ | j
  · simp only [List.getElem?_cons_zero, Option.some.injEq] at hj
    subst hj
    refine ⟨[.int .u8 x], rfl, rfl, fun i u hi => ?_⟩
    rcases i with _ | i
    · simp only [List.getElem?_cons_zero, Option.some.injEq] at hi
      subst hi
      unfold World.cell? Addr.add
      simp [h1]
    · simp at hi
  · simp at hj
theorem put_lit {own : Nat → Prop} {t : Nat} {L : Room.Lim} {os : List OB} {W : World} (h : TS own t L os W) (hl : LimOk L) (hi : RInv L (aOf os)) (f kd : Int) (g : Room.GA) (hg : Gm g) (x : Int) (hx : 0 ≤ x ∧ x ≤ 255) (hb : g.body = [x]) :
    Calls Try.prog 13 #[.pointer (some ⟨t, 0, none⟩), .int .u16 f, .agg #[.int .u8 kd, .int .u8 g.ver, .int .u32 g.ep, .int .u32 g.id, .int .u16 g.ix, .int .u16 g.cnt, .slice (some ⟨W.heap.size, 0, none⟩) 1 1]] (W.alloc (.cells #[.int .u8 x] 5 (1, 2)))
      (PutP own t L (Room.put L (aOf os) f g) (W.alloc (.cells #[.int .u8 x] 5 (1, 2)))) := by
  have e : g.body.length = 1 := by rw [hb]; rfl
  have h1 := put_calls (h.below (below_alloc (Below.refl _ _) (.cells #[.int .u8 x] 5 (1, 2)))) hl hi f kd g hg (some ⟨W.heap.size, 0, none⟩) 1 (by omega) (by rw [hb]; exact lit_reads x hx h.lt)
  rw [e] at h1
  exact h1
theorem open_nil (W : World) : Calls Try.prog 15 #[.pointer none] W fun e w' => e = .returned (.int .i64 0) ∧ Below W.heap.size W w' := by
  have HB := Aside0.mk (Below.refl W.heap.size W)
  go_enter Try.func15, Try.ntmps15
  go_wp2
  go_ret
  exact ⟨rfl, HB.out⟩
def L0 : Room.Lim := ⟨1, 100, 2⟩
theorem lim0 : LimOk L0 := ⟨by decide, by decide, by decide, by decide, by decide, by decide⟩
set_option maxHeartbeats 4000000 in
set_option maxRecDepth 100000 in
theorem awake_calls (W : World) : Calls Try.prog 8 #[] W fun e w' => e = .returned (.bool true) ∧ Below W.heap.size W w' := by
  have HN := Aside0.mk (tnew_calls L0 W)
  go_enter Try.func8, Try.ntmps8
  go_wp2_with fail
  refine HN.out.mono ?_
  rintro e0 w1 ⟨hb1, (⟨_, t, rfl, hT0⟩ | ⟨h, _⟩)⟩
  case inr => exact absurd h (by decide)
  have HT0 := Aside0.mk hT0
  have HF0 := Aside0.mk hb1
  have HA0 : Aside0 (aOf [] = []) := ⟨rfl⟩
  have HI0 : Aside0 (RInv L0 []) := ⟨RInv.nil lim0⟩
  have HO0 : Aside0 (∀ q, (W.heap.size ≤ q ∧ q < w1.heap.size) → W.heap.size ≤ q) := ⟨fun q h => h.1⟩
  clear hb1 hT0 HN
  have hk1 : (Go.convert 36 36 (.slice (some ⟨w1.heap.size, 0, none⟩) 1 1)).run Try.prog (w1.alloc (.cells #[.int .u8 97] 5)) = .ok (.slice (some ⟨w1.heap.size, 0, none⟩) 1 1) (w1.alloc (.cells #[.int .u8 97] 5 (1, 2))) := Lib.run_convert_bytes_const w1 36 5 #[.int .u8 97] 1 1 Try.underlying36 Try.underlying5
  have hp1 := put_lit HT0.out lim0 (by rw [HA0.out]; exact HI0.out) 1 0 ⟨0, 0, 1, 0, 2, [97]⟩ (by unfold Gm; simp) 97 (by decide) rfl
  rw [HA0.out, show Room.put L0 [] 1 ⟨0, 0, 1, 0, 2, [97]⟩ = ([⟨1, 0, 1, 2, 0, 0, [(0, [97])]⟩], [], false, 0) from rfl] at hp1
  have HP1 := Aside0.mk hp1
  clear hp1
  go_wp2_with fail
  refine HP1.out.mono ?_
  rintro e1 w2 ⟨hf1, own1, os1, v1, hT1, ho1, ha1, rfl, B1, d1, rfl, hl1, hC1⟩
  have HT1 := Aside0.mk hT1
  have HA1 := Aside0.mk ha1
  have HO1 : Aside0 (∀ q, own1 q → W.heap.size ≤ q) := ⟨fun q hq => by
    rcases ho1 q hq with h | h
    · exact HO0.out q h
    · have h1 := HF0.out.size
      have h2 : (w1.alloc (.cells #[.int .u8 97] 5 (1, 2))).heap.size = w1.heap.size + 1 := by simp
      omega⟩
  have HF1 : Aside0 (Below W.heap.size W w2) := ⟨((Fr.of_below (own := fun q => W.heap.size ≤ q) (below_then HF0.out HF0.out.size (below_alloc (Below.refl _ _) _))).then_ hf1 (fun q _ h => HO0.out q h)).below (Nat.le_refl _) (fun q h => h)⟩
  have HI1 : Aside0 (RInv L0 [⟨1, 0, 1, 2, 0, 0, [(0, [97])]⟩]) := ⟨by have h := put_inv lim0 HI0.out 1 ⟨0, 0, 1, 0, 2, [97]⟩ (by unfold Gm; simp); exact h⟩
  have HC1 := Aside0.mk hC1
  clear hf1 hT1 ho1 ha1 hC1 hk1
  have hk2 : (Go.convert 36 36 (.slice (some ⟨w2.heap.size, 0, none⟩) 1 1)).run Try.prog (w2.alloc (.cells #[.int .u8 99] 5)) = .ok (.slice (some ⟨w2.heap.size, 0, none⟩) 1 1) (w2.alloc (.cells #[.int .u8 99] 5 (1, 2))) := Lib.run_convert_bytes_const w2 36 5 #[.int .u8 99] 1 1 Try.underlying36 Try.underlying5
  have hp2 := put_lit HT1.out lim0 (by rw [HA1.out]; exact HI1.out) 1 0 ⟨0, 0, 2, 0, 2, [99]⟩ (by unfold Gm; simp) 99 (by decide) rfl
  rw [HA1.out, show Room.put L0 [⟨1, 0, 1, 2, 0, 0, [(0, [97])]⟩] 1 ⟨0, 0, 2, 0, 2, [99]⟩ = ([⟨1, 0, 2, 2, 0, 0, [(0, [99])]⟩], [], false, 0) from rfl] at hp2
  have HP2 := Aside0.mk hp2
  clear hp2
  go_wp2_with fail
  refine HP2.out.mono ?_
  rintro e2 w3 ⟨hf2, own2, os2, v2, hT2, ho2, ha2, rfl, B2, d2, rfl, hl2, hC2⟩
  have HT2 := Aside0.mk hT2
  have HA2 := Aside0.mk ha2
  have HO2 : Aside0 (∀ q, own2 q → W.heap.size ≤ q) := ⟨fun q hq => by
    rcases ho2 q hq with h | h
    · exact HO1.out q h
    · have h1 := HF1.out.size
      have h2 : (w2.alloc (.cells #[.int .u8 99] 5 (1, 2))).heap.size = w2.heap.size + 1 := by simp
      omega⟩
  have HF2 : Aside0 (Below W.heap.size W w3) := ⟨((Fr.of_below (own := fun q => W.heap.size ≤ q) (below_then HF1.out HF1.out.size (below_alloc (Below.refl _ _) _))).then_ hf2 (fun q _ h => HO1.out q h)).below (Nat.le_refl _) (fun q h => h)⟩
  have HI2 : Aside0 (RInv L0 [⟨1, 0, 2, 2, 0, 0, [(0, [99])]⟩]) := ⟨by have h := put_inv lim0 HI1.out 1 ⟨0, 0, 2, 0, 2, [99]⟩ (by unfold Gm; simp); exact h⟩
  have HC2 := Aside0.mk hC2
  clear hf2 hT2 ho2 ha2 hC2 hk2
  have hk3 : (Go.convert 36 36 (.slice (some ⟨w3.heap.size, 0, none⟩) 1 1)).run Try.prog (w3.alloc (.cells #[.int .u8 98] 5)) = .ok (.slice (some ⟨w3.heap.size, 0, none⟩) 1 1) (w3.alloc (.cells #[.int .u8 98] 5 (1, 2))) := Lib.run_convert_bytes_const w3 36 5 #[.int .u8 98] 1 1 Try.underlying36 Try.underlying5
  have hp3 := put_lit HT2.out lim0 (by rw [HA2.out]; exact HI2.out) 1 0 ⟨0, 0, 1, 1, 2, [98]⟩ (by unfold Gm; simp) 98 (by decide) rfl
  rw [HA2.out, show Room.put L0 [⟨1, 0, 2, 2, 0, 0, [(0, [99])]⟩] 1 ⟨0, 0, 1, 1, 2, [98]⟩ = ([⟨1, 0, 1, 2, 0, 0, [(1, [98])]⟩], [], false, 0) from rfl] at hp3
  have HP3 := Aside0.mk hp3
  clear hp3
  go_wp2_with fail
  refine HP3.out.mono ?_
  rintro e3 w4 ⟨hf3, own3, os3, v3, hT3, ho3, ha3, rfl, B3, d3, rfl, hl3, hC3⟩
  have HT3 := Aside0.mk hT3
  have HA3 := Aside0.mk ha3
  have HO3 : Aside0 (∀ q, own3 q → W.heap.size ≤ q) := ⟨fun q hq => by
    rcases ho3 q hq with h | h
    · exact HO2.out q h
    · have h1 := HF2.out.size
      have h2 : (w3.alloc (.cells #[.int .u8 98] 5 (1, 2))).heap.size = w3.heap.size + 1 := by simp
      omega⟩
  have HF3 : Aside0 (Below W.heap.size W w4) := ⟨((Fr.of_below (own := fun q => W.heap.size ≤ q) (below_then HF2.out HF2.out.size (below_alloc (Below.refl _ _) _))).then_ hf3 (fun q _ h => HO2.out q h)).below (Nat.le_refl _) (fun q h => h)⟩
  have HI3 : Aside0 (RInv L0 [⟨1, 0, 1, 2, 0, 0, [(1, [98])]⟩]) := ⟨by have h := put_inv lim0 HI2.out 1 ⟨0, 0, 1, 1, 2, [98]⟩ (by unfold Gm; simp); exact h⟩
  have HC3 := Aside0.mk hC3
  clear hf3 hT3 ho3 ha3 hC3 hk3
  have hk4 : (Go.convert 36 36 (.slice (some ⟨w4.heap.size, 0, none⟩) 1 1)).run Try.prog (w4.alloc (.cells #[.int .u8 97] 5)) = .ok (.slice (some ⟨w4.heap.size, 0, none⟩) 1 1) (w4.alloc (.cells #[.int .u8 97] 5 (1, 2))) := Lib.run_convert_bytes_const w4 36 5 #[.int .u8 97] 1 1 Try.underlying36 Try.underlying5
  have hp4 := put_lit HT3.out lim0 (by rw [HA3.out]; exact HI3.out) 1 0 ⟨0, 0, 1, 0, 2, [97]⟩ (by unfold Gm; simp) 97 (by decide) rfl
  rw [HA3.out, show Room.put L0 [⟨1, 0, 1, 2, 0, 0, [(1, [98])]⟩] 1 ⟨0, 0, 1, 0, 2, [97]⟩ = ([], [97, 98], true, 0) from rfl] at hp4
  have HP4 := Aside0.mk hp4
  clear hp4
  go_wp2_with fail
  refine HP4.out.mono ?_
  rintro e4 w5 ⟨hf4, own4, os4, v4, hT4, ho4, ha4, rfl, B4, d4, rfl, hl4, hC4⟩
  have HT4 := Aside0.mk hT4
  have HA4 := Aside0.mk ha4
  have HO4 : Aside0 (∀ q, own4 q → W.heap.size ≤ q) := ⟨fun q hq => by
    rcases ho4 q hq with h | h
    · exact HO3.out q h
    · have h1 := HF3.out.size
      have h2 : (w4.alloc (.cells #[.int .u8 97] 5 (1, 2))).heap.size = w4.heap.size + 1 := by simp
      omega⟩
  have HF4 : Aside0 (Below W.heap.size W w5) := ⟨((Fr.of_below (own := fun q => W.heap.size ≤ q) (below_then HF3.out HF3.out.size (below_alloc (Below.refl _ _) _))).then_ hf4 (fun q _ h => HO3.out q h)).below (Nat.le_refl _) (fun q h => h)⟩
  have HI4 : Aside0 (RInv L0 []) := ⟨by have h := put_inv lim0 HI3.out 1 ⟨0, 0, 1, 0, 2, [97]⟩ (by unfold Gm; simp); exact h⟩
  have HC4 := Aside0.mk hC4
  clear hf4 hT4 ho4 ha4 hC4 hk4
  have HN2 := Aside0.mk (tnew_calls ⟨0, 0, 0⟩ w5)
  go_wp2_with fail
  refine HN2.out.mono ?_
  rintro e5 w6 ⟨hb6, (⟨h, _⟩ | ⟨_, rfl⟩)⟩
  case inl => exact absurd h (by decide)
  have HB6 := Aside0.mk hb6
  have HT6 := Aside0.mk (HT4.out.below hb6)
  have hcv : (Go.convert 36 9 (.slice B4 2 d4)).run Try.prog w6 = .ok (.string (strOfNums [97, 98])) w6 := Kd.C_string (P := Try.prog) (A := B4) (c := d4) Try.underlying36 Try.underlying5 Try.underlying9 (Kd.C_below (HC4.out (fun _ => False) _ (Fr.refl _ _) (fun _ h => h.elim)) hb6)
  have hss : strOfNums [97, 98] = ⟨#[97, 98]⟩ := rfl
  rw [hss] at hcv
  have hl6 : os4.length = 0 := by have h := congrArg List.length HA4.out; rw [aOf_len] at h; exact h
  obtain rfl : os4 = [] := List.eq_nil_of_length_eq_zero hl6
  have HOP := Aside0.mk (open_calls HT6.out)
  clear hb6 hl6 hss
  go_wp2_with fail
  refine HOP.out.mono ?_
  rintro e7 w7 ⟨rfl, hb7⟩
  have HB7 := Aside0.mk hb7
  have HHE := Aside0.mk (held_calls (HT6.out.below hb7) (by show (0 : Int) ≤ _; omega) (by show 0 ≤ _; omega))
  clear hb7
  go_wp2_with fail
  refine HHE.out.mono ?_
  rintro e8 w8 ⟨rfl, hb8⟩
  have HB8 := Aside0.mk hb8
  have hh0 : Room.held (aOf []) = 0 := rfl
  rw [hh0]
  have HON := Aside0.mk (open_nil w8)
  clear hb8 hh0
  go_wp2_with fail
  refine HON.out.mono ?_
  rintro e9 w9 ⟨rfl, hb9⟩
  have HB9 := Aside0.mk hb9
  clear hb9
  go_wp2_with fail
  go_ret
  exact ⟨rfl, below_then (below_then (below_then (below_then HF4.out HF4.out.size HB6.out) (Nat.le_trans HF4.out.size HB6.out.size) HB7.out) (Nat.le_trans (Nat.le_trans HF4.out.size HB6.out.size) HB7.out.size) HB8.out) (Nat.le_trans (Nat.le_trans (Nat.le_trans HF4.out.size HB6.out.size) HB7.out.size) HB8.out.size) HB9.out⟩
#print axioms awake_calls
end Go.Proofs.Ytaeelmkpjgmdlaa.H

/- Mine. Chapter 22: time, in plain Lean. -/
namespace Go.Proofs.Ytaeelmkpjgmdlaa.H
open Go Go.Proofs Go.RowKit Go.Lib Go.Proofs.Ytaeelmkpjgmdlaa.P Go.Proofs.YtaeelmkpjgmdlaaW.PrintWords Go.Proofs.YtaeelmkpjgmdlaaW.PrintLast Go.Proofs.YtaeelmkpjgmdlaaW.PrintMore
set_option linter.unusedVariables false
set_option linter.unusedSimpArgs false
def older (os : List Room.OA) : List Room.OA := os.map fun o => { o with age := o.age + 1 }
theorem older_held (os : List Room.OA) : Room.held (older os) = Room.held os := by
  unfold Room.held older
  rw [List.map_map]
  rfl
theorem older_inv {L : Room.Lim} {os : List Room.OA} (h : RInv L os) : RInv L (older os) := by
  refine ⟨⟨?_, fun o ho => ?_, ?_, fun o ho => ?_⟩, by rw [older_held]; exact h.hd⟩
  · have : (older os).map okey = os.map okey := by unfold older; rw [List.map_map]; rfl
    rw [this]; exact h.keys
  · obtain ⟨x, hx, rfl⟩ := List.mem_map.1 ho
    exact h.sz x hx
  · unfold older; rw [List.length_map]; exact h.ln
  · obtain ⟨x, hx, rfl⟩ := List.mem_map.1 ho
    exact h.ct x hx
theorem tick_inv {L : Room.Lim} {os : List Room.OA} (h : RInv L os) : RInv L (Room.tick L os) := (older_inv h).sub List.filter_sublist
/-- How old all are. -/
def AgeIn (L : Room.Lim) (m : Int) (os : List Room.OA) : Prop := ∀ o ∈ os, m ≤ o.age ∧ o.age ≤ L.ex
theorem AgeIn.sub {L : Room.Lim} {m : Int} {a b : List Room.OA} (h : AgeIn L m b) (hs : a.Sublist b) : AgeIn L m a := fun o ho => h o (hs.subset ho)
theorem tick_age {L : Room.Lim} {m : Int} {os : List Room.OA} (h : AgeIn L m os) : AgeIn L (m + 1) (Room.tick L os) := fun o ho => by
  unfold Room.tick at ho
  obtain ⟨h1, h2⟩ := List.mem_filter.1 ho
  obtain ⟨x, hx, rfl⟩ := List.mem_map.1 h1
  have h3 := (h x hx).1
  have h4 : x.age + 1 ≤ L.ex := by simpa using h2
  exact ⟨by show m + 1 ≤ x.age + 1; omega, h4⟩
theorem fin_age {L : Room.Lim} {m : Int} {f e i : Int} {os : List Room.OA} (h : AgeIn L m os) : AgeIn L m (Room.fin L f e i os).1 := by
  unfold Room.fin
  simp only
  split
  · split
    · exact (h.sub (fit_sub L f e i _ _)).sub (List.eraseIdx_sublist _ _)
    · exact h.sub (fit_sub L f e i _ _)
  · exact h.sub (fit_sub L f e i _ _)
theorem put_age {L : Room.Lim} (hl : LimOk L) {os : List Room.OA} (h : AgeIn L 0 os) (f : Int) (g : Room.GA) : AgeIn L 0 (Room.put L os f g).1 := by
  unfold Room.put
  simp only
  split
  · rename_i o ho
    have hok := (List.getElem?_eq_some_iff.1 ho)
    split
    · exact h
    · split
      · exact h
      · split
        · exact h
        · split
          · exact h.sub (List.eraseIdx_sublist _ _)
          · refine fin_age fun x hx => ?_
            rcases List.mem_or_eq_of_mem_set hx with hx | rfl
            · exact h x hx
            · obtain ⟨hk, he⟩ := hok
              exact h o (by rw [← he]; exact List.getElem_mem _)
  · split
    · exact h
    · split
      · exact h
      · refine fin_age fun x hx => ?_
        rcases List.mem_append.1 hx with hx | hx
        · split at hx
          · exact h x ((List.eraseIdx_sublist _ _).subset hx)
          · exact h x hx
        · rw [List.mem_singleton.1 hx]
          exact ⟨Int.le_refl _, by have := hl.e1; show (0 : Int) ≤ L.ex; omega⟩
/-- What a table is, behind a deed. -/
def doD (L : Room.Lim) (os : List Room.OA) (x : S40) : List Room.OA := if x.f0 = true then Room.tick L os else (Room.put L os x.f1 ⟨x.f2.f1, x.f2.f2, x.f2.f3, x.f2.f4, x.f2.f5, x.f2.f6⟩).1
theorem okD_gm {l : List S40} (h : okD l = true) {x : S40} (hx : x ∈ l) (hb : x.f2.f6.length ≤ 80000) : Gm ⟨x.f2.f1, x.f2.f2, x.f2.f3, x.f2.f4, x.f2.f5, x.f2.f6⟩ := by
  unfold okD at h
  have h1 := List.all_eq_true.1 h x hx
  simp [Lit.wf, IntKind.min, IntKind.max, IntKind.bits, IntKind.signed] at h1
  unfold Gm
  exact ⟨by show 0 ≤ x.f2.f4; omega, by show x.f2.f4 ≤ 65535; omega, by show 0 ≤ x.f2.f5; omega, by show x.f2.f5 ≤ 65535; omega, hb⟩
theorem large_false (l : List S40) : ∀ (k : Nat) (n i : Int), 0 ≤ n → n ≤ 90000 * i → 0 ≤ i → i ≤ 300 → annuletlaw22_Large.l0 k l n i = some false → l.length ≤ 200 ∧ n ≤ 80000 ∧ ∀ j : Nat, i ≤ j → j < l.length → (rd_T40 l j).f2.f6.length ≤ 80000
  | 0, _, _, _, _, _, _, h => by simp [annuletlaw22_Large.l0] at h
  | k + 1, n, i, h0, h1, h2, h3, h => by
    simp only [annuletlaw22_Large.l0] at h
    have fin : ∀ {b : Bool}, (if (l.length : Int) > 200 then some true else some (decide (n > 80000))) = some false → l.length ≤ 200 ∧ n ≤ 80000 := fun h => by
      split at h
      · simp at h
      · simp at h
        omega
    split at h
    · rename_i h4
      split at h
      · rename_i h5
        try rw [if_pos h2] at h
        have hm : mn (((rd_T40 l i).f2.f6).length : Int) 90000 = (((rd_T40 l i).f2.f6).length : Int) ∨ (mn (((rd_T40 l i).f2.f6).length : Int) 90000 = 90000 ∧ (90000 : Int) ≤ ((rd_T40 l i).f2.f6).length) := by
          unfold mn
          split <;> omega
        have hw1 : wrap64 (n + mn (((rd_T40 l i).f2.f6).length : Int) 90000) = n + mn (((rd_T40 l i).f2.f6).length : Int) 90000 := by unfold wrap64; unfold mn at hm ⊢; split at hm <;> split <;> omega
        have hw2 : wrap64 (i + 1) = i + 1 := by unfold wrap64; omega
        rw [hw1, hw2] at h
        have hmb : 0 ≤ mn (((rd_T40 l i).f2.f6).length : Int) 90000 ∧ mn (((rd_T40 l i).f2.f6).length : Int) 90000 ≤ 90000 := by unfold mn; split <;> omega
        obtain ⟨r1, r2, r3⟩ := large_false l k _ _ (by omega) (by omega) (by omega) (by omega) h
        refine ⟨r1, by omega, fun j hj hjl => ?_⟩
        by_cases he : i = j
        · subst he
          omega
        · exact r3 j (by omega) hjl
      · rename_i h5
        have := fin (b := true) h
        omega
    · rename_i h4
      have := fin (b := true) h
      exact ⟨this.1, this.2, fun j hj hjl => by omega⟩
theorem rd_mem40 {l : List S40} {j : Nat} (h : j < l.length) : rd_T40 l (j : Int) ∈ l := by
  unfold rd_T40
  rw [Int.toNat_natCast, List.getD_eq_getElem?_getD, List.getElem?_eq_getElem h]
  exact List.getElem_mem _
end Go.Proofs.Ytaeelmkpjgmdlaa.H
