/- Mine. Chapter 22, by hand: slices.DeleteFunc at open messages. -/
import Derived.Test.YtaeelmkpjgmdlaaHY
namespace Go.Proofs.Ytaeelmkpjgmdlaa.H
open Go Go.Proofs Go.RowKit Go.Lib Go.Proofs.Ytaeelmkpjgmdlaa.P Go.Proofs.YtaeelmkpjgmdlaaW.PrintWords Go.Proofs.YtaeelmkpjgmdlaaW.PrintLast Go.Proofs.YtaeelmkpjgmdlaaW.PrintMore Go.Proofs.YtaeelmkpjgmdlaaW.PrintFlat
set_option linter.unusedVariables false
set_option linter.unusedSimpArgs false
/-- A world with one block written. -/
structure Sto (w w1 : World) (g : Nat) : Prop where
  os : w1.os = w.os
  tape : w1.tape = w.tape
  output : w1.output = w.output
  size : w1.heap.size = w.heap.size
  far : ∀ k, k ≠ g → w1.heap[k]? = w.heap[k]?
theorem Sto.below {w w1 : World} {g B : Nat} (h : Sto w w1 g) (hB : B ≤ g) : Below B w w1 :=
  ⟨h.os, h.tape, h.output, Nat.le_of_eq h.size.symm, fun k hk => h.far k (by omega)⟩
theorem Sto.on {w0 w w1 : World} {g B : Nat} (h : Sto w w1 g) (hB : B ≤ g) (h0 : Below B w0 w) : Below B w0 w1 := h0.trans (h.below hB)
theorem Sto.blk {w w1 : World} {g k : Nat} {o : Obj} (h : Sto w w1 g) (hk : k ≠ g) (hb : w.heap[k]? = some o) : w1.heap[k]? = some o := (h.far k hk).trans hb
section
variable {P : Program} {ops : Array Oper} {rest : List Oper} {o : Oper} {a : Act} {Q : Exit → Act → World → Prop} {W : World} {Kc : Act → World → Prop}
theorem store_run {t : TypeId} {g o' : Nat} {cur cur' : Array Value} {e : TypeId} {u : Value} {seg : List Value} (hb : W.heap[g]? = some (.cells cur e (0, 0))) (hu : u.cells.toList = seg) (ht : (P.info? t).map (·.size) = some seg.length)
    (hfit : o' + seg.length ≤ cur.size) (h1 : ∀ q ∈ seg, q.oneCell' = true) (hc : (cur.toList.take o' ++ seg ++ cur.toList.drop (o' + seg.length)).toArray = cur') :
    ∃ w1, (Instr.storeAt t (.pointer (some ⟨g, o', none⟩)) u).run P W = .ok () w1 ∧ w1.heap[g]? = some (.cells cur' e (0, 0)) ∧ Sto W w1 g := by
  refine ⟨W.setCells g o' seg, run_store_run t u seg hb hu ht hfit h1, ?_, ?_⟩
  · obtain ⟨cur2, h3, _, h5⟩ := setCells_row seg o' W cur hb hfit
    have : cur2 = cur' := by rw [← hc, ← h5]
    rw [← this]; exact h3
  · obtain ⟨s1, s2, s3, s4⟩ := setCells_same g seg o' W
    exact ⟨s1, s2, s3, s4, fun k hk => setCells_far seg o' k hk⟩
/-- A store into a box. -/
theorem store_box (op : Op) (t : TypeId) (p x : Operand) (g o' : Nat) (cur cur' : Array Value) (e : TypeId) (u : Value) (seg : List Value) (ho : o.op = op) (hop : op = .store t p x) (hN : o.dst = none) (hgd : o.guard = none) (haddr : a.eval p = .pointer (some ⟨g, o', none⟩)) (hx : a.eval x = u)
    (hb : W.heap[g]? = some (.cells cur e (0, 0))) (hu : u.cells.toList = seg) (ht : (P.info? t).map (·.size) = some seg.length) (hfit : o' + seg.length ≤ cur.size) (h1 : ∀ q ∈ seg, q.oneCell' = true)
    (hc : (cur.toList.take o' ++ seg ++ cur.toList.drop (o' + seg.length)).toArray = cur')
    (h : ∀ w1, w1.heap[g]? = some (.cells cur' e (0, 0)) → Sto W w1 g → wpList P ops Q rest a w1) : wpList P ops Q (o :: rest) a W := by
  obtain ⟨w1, hr, h2, h3⟩ := store_run (P := P) hb hu ht hfit h1 hc
  refine wpList_plain hgd fun K hK => ?_
  unfold Oper.wp
  rw [show (execOp a.eval o).run P W = .ok .skip w1 from by simp [execOp, ho, hop, haddr, hx, hr, Result.andThen]]
  show K (a.put o.dst undef) w1
  have hput : a.put o.dst undef = a := by rw [hN]; rfl
  rw [hput]
  exact hK a w1 (h w1 h2 h3)
end
theorem ixI_spec {α : Type} (p : α → Bool) (l : List α) : (Room.ixI p l = -1 ∧ ∀ x ∈ l, p x = false) ∨ ∃ k, ∃ h : k < l.length, Room.ixI p l = (k : Int) ∧ p l[k] = true ∧ ∀ x ∈ l.take k, p x = false := by
  unfold Room.ixI
  by_cases hlt : Room.idx p l < l.length
  · rw [if_pos hlt]
    refine .inr ⟨_, hlt, rfl, Room.idx_hit hlt, fun x hx => ?_⟩
    obtain ⟨j, hj, rfl⟩ := List.getElem_of_mem hx
    rw [List.length_take] at hj
    rw [List.getElem_take]
    exact Room.idx_before j (by omega) (by omega)
  · rw [if_neg hlt]
    exact .inl ⟨rfl, Room.idx_no (by have := Room.idx_le p l; omega)⟩
def ZV69 : Value := .agg #[.int .u16 0, .int .u32 0, .int .u32 0, .int .u16 0, .int .u8 0, .int .i64 0, .pointer none]
set_option maxHeartbeats 4000000 in
set_option maxRecDepth 100000 in
theorem delf_calls (p : OB → Bool) (g : Nat) (lb : Array Value) (eg : ∀ args w, (callFunc g args).run Try.prog w = .ok (.enter g args) w) (base : Nat) (ok : Nat → Prop) (v : Value) (xs : List OB) (w : World) (h : Kd.R k7 69 w base ok v xs) (hbs : base ≤ w.heap.size)
    (hp : ∀ (W : World) (x : OB), Fr (fun k => some k = v.ownBlock) w W → Calls Try.prog g (#[valB x] ++ lb) W fun e w' => e = .returned (.bool (p x)) ∧ Below W.heap.size W w') :
    Calls Try.prog 26 #[v, .func (.func g) #[] lb] w fun e w' => ∃ v', e = .returned v' ∧ Kd.R k7 69 w' base ok v' (xs.filter fun x => !p x) ∧ Fr (fun k => some k = v.ownBlock) w w' := by
  have hof := owned_flat k7 69 cellsB (fun _ => rfl) (fun h => k7_openM h) h
  have hvl : ∃ A c, v = .slice A xs.length c ∧ xs.length ≤ c := by
    rcases hof with ⟨rfl, rfl⟩ | ⟨b, cap, cur, rfl, hb, hokb, hh, hc1, hc2, hc3, hc4⟩
    · exact ⟨_, _, rfl, Nat.le_refl _⟩
    · exact ⟨_, _, rfl, hc1⟩
  obtain ⟨A, c, rfl, hlc⟩ := hvl
  have hu := Try.underlying62
  have hidx := idx69 p g lb eg A c xs w (Kd.R_reads' h).2.2 (fun W x hb => hp W x (Fr.of_below hb))
  rcases ixI_spec p xs with ⟨e1, hall⟩ | ⟨k0, hk0, e1, hpk, hall⟩
  · rw [e1] at hidx
    have hfil : xs.filter (fun x => !p x) = xs := List.filter_eq_self.2 (fun x hx => by rw [hall x hx]; rfl)
    rw [hfil]
    have HI := Aside0.mk hidx
    have HO := Aside0.mk h
    have HB := Aside0.mk hbs
    clear hidx h hp hall hof hbs hfil
    go_enter Try.func26, Try.ntmps26
    go_wp2_with fail
    refine HI.out.mono ?_
    rintro e w1 ⟨rfl, hb⟩
    have hfin : ∃ v', Ending.returned (.slice A xs.length c) = .returned v' ∧ Kd.R k7 69 w1 base ok v' xs ∧ Fr (fun k => some k = (Value.slice A xs.length c).ownBlock) w w1 := ⟨_, rfl, Kd.R_below HO.out hb, Fr.of_below hb⟩
    have HF := Aside0.mk hfin
    clear hfin hb HI HO
    go_wp2
    go_ret
    exact HF.out
  · rcases hof with ⟨_, rfl⟩ | ⟨b, cap, cur, hv, hb, hokb, hh, hc1, hc2, hc3, hc4⟩
    · simp at hk0
    injection hv with hv1 hv2 hv3
    subst hv1
    subst hv3
    have hk3 : k7.sz = 7 := rfl
    rw [hk3] at hc3 hc4
    rw [e1] at hidx
    have HI := Aside0.mk hidx
    have HP := Aside0.mk hp
    have HBS := Aside0.mk hbs
    have HK := Aside0.mk (And.intro hk0 (And.intro hpk hall))
    have HC := Aside0.mk (And.intro hc2 (And.intro hc3 hc4))
    have HH := Aside0.mk hh
    have HOK := Aside0.mk (And.intro hb hokb)
    have hn63 : xs.length ≤ 9223372036854775807 := Nat.le_trans hc1 hc2
    have hm1 : ¬ ((k0 : Int) = -1) := by omega
    have hw0 : wrap64 ((k0 : Int) + 1) = (k0 : Int) + 1 := by unfold wrap64; omega
    clear hidx h hp hpk hall hc2 hc3 hc4 hh hokb hb e1 hbs
    go_enter Try.func26, Try.ntmps26
    go_wp2_with fail
    refine HI.out.mono ?_
    rintro e w1 ⟨rfl, hb1⟩
    have HB1 := Aside0.mk hb1
    clear hb1 HI
    go_wp2
    go_loopg [5, 6, 7] xs.length (fun gg s5 s6 _ wr => ∃ (i j : Nat) (ROW : Array Value), s5 = .int .i64 i ∧ s6 = .int .i64 j ∧ i < j ∧ j ≤ xs.length ∧ xs.length - j ≤ gg ∧
      Aside0 (wr.heap[b]? = some (.cells ROW 69 (0, 0))) ∧ Aside0 (ROW.size = c * 7) ∧ Aside0 (ROW.toList.take (i * 7) = ((xs.take j).filter fun x => !p x).flatMap cellsB) ∧ Aside0 (i = ((xs.take j).filter fun x => !p x).length) ∧ Aside0 ((ROW.toList.drop (j * 7)).take ((xs.length - j) * 7) = (xs.drop j).flatMap cellsB) ∧ Aside0 (Fr (fun k => k = b) w wr))
    case atStart =>
      have hk := HK.out.1
      have e0 : (xs.take (k0 + 1)).filter (fun x => !p x) = xs.take k0 := by
        rw [List.take_succ_eq_append_getElem hk, List.filter_append, List.filter_eq_self.2 (fun x hx => by rw [HK.out.2.2 x hx]; rfl)]
        simp [HK.out.2.1]
      refine ⟨k0, k0 + 1, cur, rfl, by push_cast; rfl, by omega, hk, by omega, ⟨?_⟩, ⟨HC.out.2.1⟩, ⟨?_⟩, ⟨?_⟩, ⟨?_⟩, ⟨?_⟩⟩
      · rw [HB1.out.block b (Array.getElem?_eq_some_iff.1 HH.out).1]; exact HH.out
      · rw [e0, ← flat_take cellsB 7 (fun _ => rfl), ← HC.out.2.2, List.take_take, Nat.min_eq_left (by omega)]
      · rw [e0, List.length_take, Nat.min_eq_left (by omega)]
      · rw [← flat_drop cellsB 7 (fun _ => rfl), ← HC.out.2.2, List.drop_take, show xs.length * 7 - (k0 + 1) * 7 = (xs.length - (k0 + 1)) * 7 by omega]
      · exact Fr.of_below HB1.out
    case round =>
      obtain ⟨i, j, ROW, rfl, rfl, hij, hjn, hgg, H1, H2, H3, H4, H5, H6⟩ := hrel
      have hn1 : xs.length ≤ c := hlc
      by_cases hlt : j < xs.length
      · obtain ⟨x, hx⟩ : ∃ x, xs[j]? = some x := ⟨_, List.getElem?_eq_getElem hlt⟩
        have hcell : ∀ t u, t < 7 → (cellsB x)[t]? = some u → wr.cell? ⟨b, j * 7 + t, none⟩ = some u := by
          intro t u ht hu
          have h0 := flat_get cellsB 7 (fun _ => rfl) (xs.drop j) 0 x (by rw [List.getElem?_drop]; exact hx) t ht
          rw [← H5.out, hu, Nat.zero_mul, Nat.zero_add, List.getElem?_take] at h0
          split at h0
          · rw [List.getElem?_drop] at h0
            unfold World.cell?
            rw [H1.out]
            show ROW[j * 7 + t]? = some u
            rw [← Array.getElem?_toList]
            exact h0
          · cases h0
        have d0 : wr.cell? ⟨b, j * 7, none⟩ = some (.int .u16 x.a.fr) := hcell 0 _ (by omega) rfl
        have d1 : wr.cell? ⟨b, j * 7 + 1, none⟩ = some (.int .u32 x.a.ep) := hcell 1 _ (by omega) rfl
        have d2 : wr.cell? ⟨b, j * 7 + 2, none⟩ = some (.int .u32 x.a.id) := hcell 2 _ (by omega) rfl
        have d3 : wr.cell? ⟨b, j * 7 + 3, none⟩ = some (.int .u16 x.a.cnt) := hcell 3 _ (by omega) rfl
        have d4 : wr.cell? ⟨b, j * 7 + 4, none⟩ = some (.int .u8 x.a.ver) := hcell 4 _ (by omega) rfl
        have d5 : wr.cell? ⟨b, j * 7 + 5, none⟩ = some (.int .i64 x.a.age) := hcell 5 _ (by omega) rfl
        have d6 : wr.cell? ⟨b, j * 7 + 6, none⟩ = some (.pointer (some ⟨x.p, 0, none⟩)) := hcell 6 _ (by omega) rfl
        have HX := Aside0.mk hx
        have z0 : (0 : Int) ≤ (j : Int) := by omega
        have hjl : (j : Int) < (xs.length : Int) := by omega
        clear hcell hx
        go_wp2_with fail
        refine (HP.out _ x ((H6.out.then_ (Fr.of_below (own := fun _ => False) (below_alloc (Below.refl _ _) _)) (fun _ _ h => h.elim)).mono (fun q _ hq => by rw [hq]; rfl))).mono ?_
        rintro e w2 ⟨rfl, hb2⟩
        have hsz2 : wr.heap.size < (wr.alloc (Obj.cells #[Value.int IntKind.u16 x.a.fr, Value.int IntKind.u32 x.a.ep, Value.int IntKind.u32 x.a.id, Value.int IntKind.u16 x.a.cnt, Value.int IntKind.u8 x.a.ver, Value.int IntKind.i64 x.a.age, Value.pointer (some ⟨x.p, 0, none⟩)] 69)).heap.size := by show wr.heap.size < (wr.heap.push _).size; rw [Array.size_push]; omega
        have f0 := (hb2.cell (p := ⟨wr.heap.size, 0, none⟩) hsz2).trans (by simp : _ = some (.int .u16 x.a.fr : Value))
        have f1 := (hb2.cell (p := ⟨wr.heap.size, 1, none⟩) hsz2).trans (by simp : _ = some (.int .u32 x.a.ep : Value))
        have f2 := (hb2.cell (p := ⟨wr.heap.size, 2, none⟩) hsz2).trans (by simp : _ = some (.int .u32 x.a.id : Value))
        have f3 := (hb2.cell (p := ⟨wr.heap.size, 3, none⟩) hsz2).trans (by simp : _ = some (.int .u16 x.a.cnt : Value))
        have f4 := (hb2.cell (p := ⟨wr.heap.size, 4, none⟩) hsz2).trans (by simp : _ = some (.int .u8 x.a.ver : Value))
        have f5 := (hb2.cell (p := ⟨wr.heap.size, 5, none⟩) hsz2).trans (by simp : _ = some (.int .i64 x.a.age : Value))
        have f6 := (hb2.cell (p := ⟨wr.heap.size, 6, none⟩) hsz2).trans (by simp : _ = some (.pointer (some ⟨x.p, 0, none⟩) : Value))
        have hbl := (Array.getElem?_eq_some_iff.1 H1.out).1
        have HB2 := Aside0.mk ((H6.out.then_ (Fr.of_below (own := fun _ => False) (below_alloc (Below.refl _ _) _)) (fun _ _ h => h.elim)).then_ (Fr.of_below (own := fun _ => False) hb2) (fun _ _ h => h.elim))
        have hh2 : w2.heap[b]? = some (.cells ROW 69 (0, 0)) := by
          rw [hb2.block b (Nat.lt_trans hbl hsz2), Below.heap_alloc wr _ b hbl]; exact H1.out
        have HH2 := Aside0.mk hh2
        have et : xs.take (j + 1) = xs.take j ++ [x] := by
          have h := HX.out
          rw [List.take_add_one, h]; rfl
        have HET := Aside0.mk et
        have h5' : (ROW.toList.drop ((j + 1) * 7)).take ((xs.length - (j + 1)) * 7) = (xs.drop (j + 1)).flatMap cellsB := by
          have h := congrArg (List.drop (1 * 7)) H5.out
          rw [flat_drop cellsB 7 (fun _ => rfl), List.drop_drop, List.drop_take, List.drop_drop] at h
          rw [show j * 7 + 1 * 7 = (j + 1) * 7 by omega, show (xs.length - j) * 7 - 1 * 7 = (xs.length - (j + 1)) * 7 by omega] at h
          exact h
        have H5' := Aside0.mk h5'
        obtain ⟨q, hq⟩ : ∃ q, p x = q := ⟨_, rfl⟩
        rw [hq]
        have HPX := Aside0.mk hq
        clear hq h5' et hh2 hb2 hsz2 d0 d1 d2 d3 d4 d5 d6
        cases q with
        | true =>
          clear f0 f1 f2 f3 f4 f5 f6
          go_wp2
          go_roundg (xs.length - (j + 1))
          case measure => omega
          case rel =>
            refine ⟨i, j + 1, ROW, rfl, by go_num, by omega, hlt, by omega, ⟨HH2.out⟩, H2, ⟨?_⟩, ⟨?_⟩, H5', ⟨HB2.out⟩⟩
            · rw [H3.out, HET.out, List.filter_append]; simp [HPX.out]
            · rw [HET.out, List.filter_append]; simp [HPX.out]; exact H4.out
        | false =>
          have hic : i * 7 + 7 ≤ ROW.size := by rw [H2.out]; omega
          have zi : (0 : Int) ≤ (i : Int) := by omega
          have hil : (i : Int) < (xs.length : Int) := by omega
          have HIC := Aside0.mk hic
          clear hic hbl
          have HBL2 := Aside0.mk HB2.out
          obtain ⟨V, hV⟩ : ∃ V, V = wr.heap.size := ⟨_, rfl⟩
          rw [← hV] at f0 f1 f2 f3 f4 f5 f6 ⊢
          clear hV
          go_wp2_with (refine store_box (.store 69 (.tmp 33) (.tmp 32)) 69 (.tmp 33) (.tmp 32) b (i * 7) ROW _ 69 (valB x) (cellsB x) rfl rfl rfl rfl rfl rfl HH2.out rfl (by kernel_rfl) HIC.out (one7 x) rfl ?_; intro w3 e3 hs3; have HE3 := Aside0.mk e3; have HS3 := Aside0.mk hs3; clear e3 hs3)
          go_roundg (xs.length - (j + 1))
          case measure => omega
          case rel =>
            obtain ⟨ROW', hrow⟩ : ∃ ROW', (ROW.toList.take (i * 7) ++ cellsB x ++ ROW.toList.drop (i * 7 + (cellsB x).length)).toArray = ROW' := ⟨_, rfl⟩
            have r1 : w3.heap[b]? = some (.cells ROW' 69 (0, 0)) := by rw [← hrow]; exact HE3.out
            have r3 : ROW'.toList = ROW.toList.take (i * 7) ++ cellsB x ++ ROW.toList.drop (i * 7 + (cellsB x).length) := by rw [← hrow]
            have r2 : ROW'.size = ROW.size := by
              rw [← Array.length_toList, r3, List.length_append, List.length_append, List.length_take, List.length_drop, Array.length_toList]
              have h1 := HIC.out
              have h2 : (cellsB x).length = 7 := rfl
              omega
            have hl3 : (cellsB x).length = 7 := rfl
            rw [hl3] at r3
            have hi3 : (ROW.toList.take (i * 7)).length = i * 7 := by rw [List.length_take, Array.length_toList]; have := HIC.out; omega
            refine ⟨i + 1, j + 1, ROW', by go_num, by go_num, by omega, hlt, by omega, ⟨r1⟩, ⟨r2.trans H2.out⟩, ⟨?_⟩, ⟨?_⟩, ⟨?_⟩, ⟨?_⟩⟩
            · rw [HET.out, List.filter_append, show [x].filter (fun x => !p x) = [x] by simp [HPX.out], List.flatMap_append, ← H3.out, r3, List.take_append_of_le_length (by rw [List.length_append, hi3, hl3]; omega), List.take_of_length_le (by rw [List.length_append, hi3, hl3]; omega)]
              simp
            · rw [HET.out, List.filter_append, show [x].filter (fun x => !p x) = [x] by simp [HPX.out], List.length_append, ← H4.out]; rfl
            · have e5 : ROW'.toList.drop ((j + 1) * 7) = ROW.toList.drop ((j + 1) * 7) := by
                rw [r3, List.drop_append, List.drop_of_length_le (by rw [List.length_append, hi3, hl3]; omega), List.nil_append, List.drop_drop]
                congr 1
                rw [List.length_append, hi3, hl3]; omega
              rw [e5]; exact H5'.out
            · have hB := HB2.out
              exact ⟨HS3.out.os.trans hB.os, HS3.out.tape.trans hB.tape, HS3.out.output.trans hB.output, by rw [HS3.out.size]; exact hB.size, fun k hk hne => (HS3.out.far k hne).trans (hB.block k hk hne)⟩
      · obtain rfl : j = xs.length := by omega
        have hzz : ZV69.cells.size = 7 := rfl
        have hcl : ∀ ty, (Builtin.clear_ #[62] ty #[.slice (some ⟨b, i * 7, none⟩) (xs.length - i) (c - i)]).run Try.prog wr = .ok (.tuple #[]) (wr.setRow b (ROW.toList.take (i * 7) ++ (Builtin.zeroCells ZV69.cells (xs.length - i)).toList ++ ROW.toList.drop (i * 7 + (Builtin.zeroCells ZV69.cells (xs.length - i)).toList.length)).toArray) :=
          fun ty => run_clear_row Try.prog wr 62 69 ty ZV69 hu (fun w => Try.zeroValue69 w) (by decide) b (i * 7) _ _ (by omega) ROW 69 H1.out (by rw [hzz, H2.out]; omega)
        obtain ⟨R2, hR2⟩ : ∃ R2, R2 = (ROW.toList.take (i * 7) ++ (Builtin.zeroCells ZV69.cells (xs.length - i)).toList ++ ROW.toList.drop (i * 7 + (Builtin.zeroCells ZV69.cells (xs.length - i)).toList.length)).toArray := ⟨_, rfl⟩
        rw [← hR2] at hcl
        have HR2 := Aside0.mk hR2
        have hnl : ¬ (xs.length : Int) < (xs.length : Int) := by omega
        have zi : (0 : Int) ≤ (i : Int) := by omega
        have hil : (i : Int) ≤ (xs.length : Int) := by omega
        have hic : ¬ (c = i) := by omega
        clear hR2
        go_wp2
        go_ret
        have h3 := H3.out
        have h4 := H4.out
        rw [List.take_length] at h3 h4
        have hrl : ROW.toList.length = c * 7 := by rw [Array.length_toList]; exact H2.out
        have hzl : (Builtin.zeroCells ZV69.cells (xs.length - i)).toList.length = (xs.length - i) * 7 := by simp [Builtin.zeroCells, hzz]
        have hr2s : R2.size = c * 7 := by
          rw [HR2.out, List.size_toArray, List.length_append, List.length_append, hzl, List.length_take, List.length_drop, hrl]; omega
        refine ⟨_, rfl, ?_, ?_⟩
        · refine flat_owned k7 69 cellsB (fun _ => rfl) (fun w b ok x => k7_mkM w b ok x) _ b c i R2 h4 HOK.out.1 HOK.out.2 (setRow_heap wr b ROW R2 69 (0, 0) H1.out) (by omega) HC.out.1 (by rw [hk3]; exact hr2s) ?_
          rw [hk3, ← h4, ← h3, HR2.out]
          simp only [List.append_assoc]
          rw [List.take_append_of_le_length (by rw [List.length_take, hrl]; omega), List.take_of_length_le (by rw [List.length_take]; omega)]
        · have hB := H6.out
          exact ⟨hB.os, hB.tape, hB.output, by show w.heap.size ≤ (wr.heap.modify b _).size; rw [Array.size_modify]; exact hB.size, fun k hk hne => by rw [setRow_other wr b k _ (fun e => hne (by rw [e]; rfl))]; exact hB.block k hk (fun e => hne (by rw [e]; rfl))⟩

#print axioms delf_calls
end Go.Proofs.Ytaeelmkpjgmdlaa.H
