/- Mine. Chapter 22, by hand: Tick of the table. -/
import Derived.Test.YtaeelmkpjgmdlaaHZ
namespace Go.Proofs.Ytaeelmkpjgmdlaa.H
open Go Go.Proofs Go.RowKit Go.Lib Go.Proofs.Ytaeelmkpjgmdlaa.P Go.Proofs.YtaeelmkpjgmdlaaW.PrintWords Go.Proofs.YtaeelmkpjgmdlaaW.PrintLast Go.Proofs.YtaeelmkpjgmdlaaW.PrintMore Go.Proofs.YtaeelmkpjgmdlaaW.PrintFlat
set_option linter.unusedVariables false
set_option linter.unusedSimpArgs false
set_option maxRecDepth 100000 in
theorem tick_clo (x : OB) (t B0 : Nat) (ex : Int) (W : World) (hb0 : W.cell? ⟨B0, 0, none⟩ = some (.pointer (some ⟨t, 0, none⟩))) (hx0 : W.cell? ⟨t, 3, none⟩ = some (.int .i64 ex)) :
    Calls Try.prog 27 #[valB x, .pointer (some ⟨B0, 0, none⟩)] W fun e' w' => e' = .returned (.bool (decide (x.a.age > ex))) ∧ Below W.heap.size W w' := by
  have hu := Try.underlying69
  have hb := below_alloc (Below.refl W.heap.size W) (.cells #[.int .u16 x.a.fr, .int .u32 x.a.ep, .int .u32 x.a.id, .int .u16 x.a.cnt, .int .u8 x.a.ver, .int .i64 x.a.age, .pointer (some ⟨x.p, 0, none⟩)] 69)
  have p0 := pw_cell_below hb hb0
  have p1 := pw_cell_below hb hx0
  have HB := Aside0.mk hb
  clear hb hb0 hx0
  by_cases hh : x.a.age > ex
  · have h1 : decide (x.a.age > ex) = true := decide_eq_true hh
    go_enter Try.func27, Try.ntmps27
    go_wp2
    go_quiet (fail)
    go_wp2
    go_ret
    exact ⟨by rw [h1]; rfl, pw_below_drewN HB.out _⟩
  · have h1 : decide (x.a.age > ex) = false := decide_eq_false hh
    go_enter Try.func27, Try.ntmps27
    go_wp2
    go_quiet (fail)
    go_wp2
    go_ret
    exact ⟨by rw [h1]; rfl, pw_below_drewN HB.out _⟩
def incB (o : OB) : OB := { o with a := { o.a with age := o.a.age + 1 } }
theorem set_mem {α : Type} {l : List α} {k : Nat} {x : α} (hk : k < l.length) : ∀ y ∈ l.set k x, y = x ∨ ∃ j, ∃ hj : j < l.length, j ≠ k ∧ y = l[j] := fun y hy => by
  obtain ⟨j, hj, rfl⟩ := List.getElem_of_mem hy
  rw [List.length_set] at hj
  by_cases hjk : k = j
  · subst hjk
    exact .inl (List.getElem_set_self _)
  · exact .inr ⟨j, hj, fun e => hjk e.symm, List.getElem_set_ne hjk _⟩
/-- A row whose cells have been written anew: messages with the same blocks and parts. -/
theorem Bag.turn {own oL : Nat → Prop} {v v' : Value} {os os' : List OB} {W W' : World} {g : Nat} (h : Bag OPA 69 own v os W) (hL : ∀ k, oL k → own k ∧ ∀ o ∈ os, ¬ o.own k) (hg : oL g)
    (hrow : k7.R 69 W' 0 oL v' os') (hf : Fr (fun k => k = g) W W') (he : os'.map (fun o => (o.own, o.p, o.a.cnt, o.a.ps)) = os.map (fun o => (o.own, o.p, o.a.cnt, o.a.ps))) : Bag OPA 69 own v' os' W' := by
  have hm : ∀ o' ∈ os', ∃ o ∈ os, o'.own = o.own ∧ o'.p = o.p ∧ o'.a.cnt = o.a.cnt ∧ o'.a.ps = o.a.ps := fun o' ho' => by
    have h1 : (o'.own, o'.p, o'.a.cnt, o'.a.ps) ∈ os'.map (fun o => (o.own, o.p, o.a.cnt, o.a.ps)) := List.mem_map.2 ⟨o', ho', rfl⟩
    rw [he] at h1
    obtain ⟨o, ho, e⟩ := List.mem_map.1 h1
    injection e with e1 e2
    injection e2 with e2 e3
    injection e3 with e3 e4
    exact ⟨o, ho, e1.symm, e2.symm, e3.symm, e4.symm⟩
  refine ⟨⟨oL, hrow, fun k hk => ⟨(hL k hk).1, fun o' ho' e => ?_⟩⟩, fun o' ho' => ?_, fun o' ho' k hk => ?_, ?_, fun k hk => Nat.lt_of_lt_of_le (h.lt k hk) hf.size⟩
  · obtain ⟨o, ho, e1, _⟩ := hm o' ho'
    exact (hL k hk).2 o ho (by rw [← e1]; exact e)
  · obtain ⟨o, ho, e1, e2, e3, e4⟩ := hm o' ho'
    unfold OPA
    rw [e1, e2, e3, e4]
    exact OPA.fr o W W' _ (h.obj o ho) hf (fun k hk e => (hL g hg).2 o ho (by rw [← e]; exact hk))
  · obtain ⟨o, ho, e1, _⟩ := hm o' ho'
    exact h.sub o ho k (by rw [← e1]; exact hk)
  · have h1 := h.apart
    have h2 : (os.map (fun o => (o.own, o.p, o.a.cnt, o.a.ps))).Pairwise (fun a b => ∀ k, a.1 k → ¬ b.1 k) := by rw [List.pairwise_map]; exact h1
    rw [← he, List.pairwise_map] at h2
    exact h2
theorem aOf_inc (L : Room.Lim) (os : List OB) : aOf ((os.map incB).filter fun x => !decide (x.a.age > L.ex)) = Room.tick L (aOf os) := by
  unfold Room.tick aOf
  induction os with
  | nil => rfl
  | cons x r ih =>
    simp only [List.map_cons, List.filter_cons]
    have e1 : (!decide ((incB x).a.age > L.ex)) = decide (x.a.age + 1 ≤ L.ex) := by
      show (!decide (x.a.age + 1 > L.ex)) = _
      by_cases hh : x.a.age + 1 ≤ L.ex
      · rw [decide_eq_true hh, decide_eq_false (by omega)]; rfl
      · rw [decide_eq_false hh, decide_eq_true (by omega)]; rfl
    rw [e1]
    by_cases hh : x.a.age + 1 ≤ L.ex
    · simp only [decide_eq_true hh, if_true, List.map_cons, ih]; rfl
    · simp only [decide_eq_false hh, Bool.false_eq_true, if_false, ih]
theorem row_free {T : Nat} {W : World} {ok : Nat → Prop} {g n c : Nat} {xs : List OB} (h : k7.R T W 0 ok (.slice (some ⟨g, 0, none⟩) n c) xs) (o : Nat) : W.frozen? ⟨g, o, none⟩ = false := by
  obtain ⟨_, inner, ho, _⟩ := h
  rcases ho.2 with ⟨hv, _⟩ | ⟨g', cap, cur, hv, _, hh, _⟩
  · cases hv
  · injection hv with ha _ _
    injection ha with ha
    injection ha with ha
    subst ha
    exact blk_frozen hh o
theorem Fr.cell {S : Nat → Prop} {W W' : World} {b : Nat} {cs : Array Value} {T : Nat} (h : Fr S W W') (hb : W.heap[b]? = some (.cells cs T (0, 0))) (hn : ¬ S b) {o : Nat} : W'.cell? ⟨b, o, none⟩ = cs[o]? := blk_cell ((h.block b (blk_lt hb) hn).trans hb) o
theorem Bag.sub2 {own oL : Nat → Prop} {v v' : Value} {os os' : List OB} {W W' : World} (h : Bag OPA 69 own v os W) (hL : ∀ k, oL k → own k ∧ ∀ o ∈ os, ¬ o.own k) (hR : k7.R 69 W 0 oL v os) (hsub : os'.Sublist os)
    (hrow : k7.R 69 W' 0 oL v' os') (hf : Fr (fun k => some k = v.ownBlock) W W') : Bag OPA 69 own v' os' W' :=
  ⟨⟨oL, hrow, fun k hk => ⟨(hL k hk).1, fun o ho => (hL k hk).2 o (hsub.subset ho)⟩⟩, fun o ho => OPA.fr o W W' _ (h.obj o (hsub.subset ho)) hf (fun k hk e => (hL k (hR.1 k e.symm)).2 o (hsub.subset ho) hk),
    fun o ho => h.sub o (hsub.subset ho), h.apart.sublist hsub, fun k hk => Nat.lt_of_lt_of_le (h.lt k hk) hf.size⟩
structure TickS (t B0 : Nat) (cs : Array Value) (V : World) : Prop where
  s0 : V.heap[B0]? = some (.cells #[.pointer (some ⟨t, 0, none⟩)] 27 (0, 0))
  s1 : V.heap[t]? = some (.cells cs 64 (0, 0))
set_option maxHeartbeats 4000000 in
set_option maxRecDepth 100000 in
theorem tick_calls {own : Nat → Prop} {t : Nat} {L : Room.Lim} {os : List OB} {W : World} (h : TS own t L os W) (hm : os.length ≤ 1000) (ha : ∀ o ∈ os, 0 ≤ o.a.age ∧ o.a.age ≤ 1000) :
    Calls Try.prog 11 #[.pointer (some ⟨t, 0, none⟩)] W fun e' w' => e' = .returned (.tuple #[]) ∧ Fr own W w' ∧ ∃ os', aOf os' = Room.tick L (aOf os) ∧ TS own t L os' w' := by
  obtain ⟨V, hV⟩ : ∃ V, (W.alloc (.cells #[.pointer (some ⟨t, 0, none⟩)] 27)) = V := ⟨_, rfl⟩
  have hbV : Below W.heap.size W V := by rw [← hV]; exact below_alloc (Below.refl _ _) _
  have hx1 : V.heap[W.heap.size]? = some (.cells #[.pointer (some ⟨t, 0, none⟩)] 27 (0, 0)) := by rw [← hV]; exact heap_alloc_new W _
  have HTL := Aside0.mk h.lt
  have HOT := Aside0.mk h.ot
  have HTV := Aside0.mk (h.below hbV)
  have HBV := Aside0.mk hbV
  have HX1 := Aside0.mk hx1
  have HA := Aside0.mk ha
  have HDEAD := Aside0.mk (dead_ok HTV.out)
  have HMX := Aside0.mk hm
  obtain ⟨A, c, g0, g1, g2, g3, g4, hl, hC⟩ := HTV.out.reads
  have d0 : V.cell? ⟨W.heap.size, 0, none⟩ = some (.pointer (some ⟨t, 0, none⟩)) := (blk_cell hx1 0).trans rfl
  clear h hbV hx1 ha hC hl hm
  go_enter Try.func11, Try.ntmps11
  go_wp2_with fail
  refine HDEAD.out.mono ?_
  rintro e1 w1 ⟨rfl, rfl⟩
  have HT0 : Aside0 (TS own t L ((os.take 0).map incB ++ os.drop 0) V) := ⟨HTV.out⟩
  have HF0 : Aside0 (Fr own W V) := ⟨Fr.of_below HBV.out⟩
  go_wp2
  go_loopg [2, 10] os.length (fun gg _ s10 wr => ∃ k : Nat, k ≤ os.length ∧ os.length - k ≤ gg ∧ s10 = .int .i64 k ∧ Aside0 (TS own t L ((os.take k).map incB ++ os.drop k) wr) ∧ Aside0 (Fr own W wr) ∧ Aside0 (wr.heap[W.heap.size]? = some (.cells #[.pointer (some ⟨t, 0, none⟩)] 27 (0, 0))))
  case atStart => exact ⟨0, Nat.zero_le _, by omega, rfl, HT0, HF0, HX1⟩
  case round =>
    obtain ⟨k, hk, hgg, rfl, HT, HF, HX⟩ := hrel
    have hmx := HMX.out
    have d1 : wr.cell? ⟨W.heap.size, 0, none⟩ = some (.pointer (some ⟨t, 0, none⟩)) := (blk_cell HX.out 0).trans rfl
    clear d0 g0 g1 g2 g3 g4
    by_cases hlt : k < os.length
    · obtain ⟨y, hy⟩ : ∃ y, os[k] = y := ⟨_, rfl⟩
      have hlen : ((os.take k).map incB ++ os.drop k).length = os.length := by simp; omega
      have hgy : ((os.take k).map incB ++ os.drop k)[k]? = some y := by
        rw [List.getElem?_append_right (by simp; omega), List.getElem?_drop, show k + (k - ((os.take k).map incB).length) = k by simp; omega, List.getElem?_eq_getElem hlt, hy]
      obtain ⟨osk, hosk⟩ : ∃ osk, (os.take k).map incB ++ os.drop k = osk := ⟨_, rfl⟩
      have hset : osk.set k (incB y) = (os.take (k + 1)).map incB ++ os.drop (k + 1) := by
        rw [← hosk, List.set_append_right _ _ (by simp; omega), show k - ((os.take k).map incB).length = 0 by simp; omega, List.take_succ_eq_append_getElem hlt, hy, List.map_append, List.append_assoc, List.drop_eq_getElem_cons hlt]
        rfl
      rw [hosk] at HT hlen hgy
      obtain ⟨v, oB, h1, h2, h3⟩ := HT.out.st
      obtain ⟨oL, hR, hL⟩ := h2.row
      obtain ⟨A1, c1, rfl, hl1, hC1⟩ := Kd.R_reads hR
      obtain ⟨ad, rfl⟩ : ∃ ad, A1 = some ad := by
        obtain ⟨ad, e, _⟩ := hC1.2.2 (by omega)
        exact ⟨ad, e⟩
      obtain ⟨gr, rfl⟩ := Kd.R_head hR
      rw [hlen] at hR h1 h2
      obtain ⟨c7, _, hM7, hcc⟩ := Kd.R_get hR zB (k : Int) (by omega) (by omega)
      have hyy : osk.getD (k : Int).toNat zB = y := by rw [Int.toNat_natCast, List.getD_eq_getElem?_getD, hgy]; rfl
      rw [hyy] at hM7
      obtain rfl := k7_openM hM7
      have hcc' : ∀ j u, (cellsB y)[j]? = some u → wr.cell? ⟨gr, (k : Int).toNat * k7.sz + j, none⟩ = some u := fun j u hu => by have h := hcc j u hu; rwa [add_at, Nat.zero_add] at h
      have hx5 : wr.cell? ⟨gr, k * 7 + 5, none⟩ = some (.int .i64 y.a.age) := hcc' 5 _ rfl
      have hf5 : wr.frozen? ⟨gr, k * 7 + 5, none⟩ = false := row_free hR _
      have g4 : wr.cell? ⟨t, 4, none⟩ = some (.slice (some ⟨gr, 0, none⟩) os.length c1) := (blk_cell h1 4).trans rfl
      have hag := HA.out y (by rw [← hy]; exact List.getElem_mem _)
      have hwa : wrap64 (y.a.age + 1) = y.a.age + 1 := by unfold wrap64; omega
      have p0 : (0 ≤ (k : Int)) = True := eq_true (by omega)
      have p1 : ((k : Int) < (os.length : Int)) = True := eq_true (by omega)
      have HR := Aside0.mk hR
      have HCC := Aside0.mk hcc'
      have HTR := Aside0.mk (And.intro h1 (And.intro h2 (And.intro h3 hL)))
      have HSET := Aside0.mk hset
      have HGO := Aside0.mk (hR.1 gr rfl)
      have HLT := Aside0.mk hlt
      have HGY := Aside0.mk hgy
      have HLEN := Aside0.mk hlen
      clear hR hcc hcc' hC1 h1 h2 h3 hL hM7 hyy hset hosk hgy hlen hl1
      go_wp2_with (refine Kd.R_store k7 (w0 := wr) 0 rfl rfl 3 _ _ rfl 69 (k : Int) 5 osk (incB y) (.int .i64 (y.a.age + 1)) [.int .i64 (y.a.age + 1)] (cellsB y) oL (fun _ => False) rfl rfl rfl rfl (by kernel_rfl) (by simp [Value.oneCell']) HR.out (Int.natCast_nonneg k) (Int.ofNat_lt.2 HLT.out) rfl HCC.out (show 5 + 1 ≤ 7 by decide) (k7_mkM _ _ _ _) (fun _ h => h.elim) (Below.refl _ _) ?_; intro w2 hO2 hb2 hg2; have HO2 := Aside0.mk hO2; have HG2 := Aside0.mk hg2; clear hO2 hb2 hg2)
      go_roundg (os.length - (k + 1))
      case measure => have := HLT.out; omega
      case rel =>
        obtain ⟨h1, h2, h3, hL⟩ := HTR.out
        have hF2 : Fr (fun q => q = gr) wr w2 := Fr.of_grown HG2.out rfl
        have hgo := HGO.out
        have hgt : t ≠ gr := fun e => (h3 gr (hL gr hgo).1).2 e.symm
        refine ⟨k + 1, HLT.out, by have := HLT.out; omega, by go_num, ⟨?_⟩, ⟨HF.out.then_ hF2 (fun q _ e => by rw [e]; exact (h3 gr (hL gr hgo).1).1)⟩, ⟨(hF2.block _ (blk_lt HX.out) (fun e => by obtain ⟨_, inner, ho, _⟩ := HR.out; obtain ⟨cells, hc⟩ := own_typed ho gr rfl; rw [← e, HX.out] at hc; injection hc with hc; injection hc with _ hc _; exact absurd hc (by decide))).trans HX.out⟩⟩
        rw [← HSET.out]
        have hO2 := HO2.out
        have hbag := h2.turn (g := gr) hL hgo hO2 hF2 (by
          rw [Int.toNat_natCast, List.map_set]
          refine List.ext_getElem? fun j => ?_
          rw [List.getElem?_set]
          by_cases hj : k = j
          · subst hj
            rw [if_pos rfl, List.length_map, if_pos (by have := HLT.out; have := HLEN.out; omega), List.getElem?_map, HGY.out]
            rfl
          · rw [if_neg hj])
        exact ⟨HT.out.ot, ⟨_, oB, (hF2.block t (HT.out.lt t HT.out.ot) hgt).trans h1, hbag, h3⟩, fun q hq => Nat.lt_of_lt_of_le (HT.out.lt q hq) hF2.size⟩
    · have hkk : k = os.length := by omega
      have p1 : ¬ ((k : Int) < (os.length : Int)) := by omega
      subst hkk
      obtain ⟨osx, hosx⟩ : ∃ osx, os.map incB = osx := ⟨_, rfl⟩
      rw [List.take_length, List.drop_length, List.append_nil, hosx] at HT
      have HOSX := Aside0.mk hosx
      obtain ⟨X, hX⟩ : ∃ X, wr.drew = X := ⟨_, rfl⟩
      have hbX : Below wr.heap.size wr X := by rw [← hX]; exact (Below.refl _ _).drew
      have HTX := Aside0.mk (HT.out.below hbX)
      have HBX := Aside0.mk hbX
      have HXX := Aside0.mk ((hbX.block _ (blk_lt HX.out)).trans HX.out)
      obtain ⟨v, oB, h1, h2, h3⟩ := HTX.out.st
      obtain ⟨oL, hR, hL⟩ := h2.row
      obtain ⟨A, c, rfl, hl, hC⟩ := Kd.R_reads hR
      have hnt : t ≠ W.heap.size := fun e => by have := HTL.out t HOT.out; omega
      have hng : some t ≠ (Value.slice A osx.length c).ownBlock := fun e => (h3 t (hL t (hR.1 t e.symm)).1).2 rfl
      have hnb : some W.heap.size ≠ (Value.slice A osx.length c).ownBlock := fun e => by
        have hR2 := hR
        obtain ⟨_, inner, ho, _⟩ := hR2
        obtain ⟨cells, hc⟩ := own_typed ho W.heap.size e.symm
        rw [HXX.out] at hc
        injection hc with hc
        injection hc with _ hc _
        exact absurd hc (by decide)
      have hdel := delf_calls (fun o : OB => decide (o.a.age > L.ex)) 27 #[.pointer (some ⟨W.heap.size, 0, none⟩)] (enters_of Try.func27 (by kernel_rfl) rfl) 0 oL (.slice A osx.length c) osx X hR (Nat.zero_le _) (fun V x hf => tick_clo x t W.heap.size L.ex V ((hf.cell HXX.out hnb).trans rfl) ((hf.cell h1 hng).trans rfl))
      have HDEL := Aside0.mk hdel
      have HNB : Aside0 (¬ (some W.heap.size = (Value.slice A osx.length c).ownBlock)) := ⟨hnb⟩
      have HR := Aside0.mk hR
      have HTR := Aside0.mk (And.intro h1 (And.intro h2 (And.intro h3 hL)))
      have HTX' : Aside0 (t < X.heap.size ∧ ¬ (some t = (Value.slice A osx.length c).ownBlock)) := ⟨blk_lt h1, hng⟩
      have hs0 : TickS t W.heap.size #[.bool true, .int .i64 L.op, .int .i64 L.by_, .int .i64 L.ex, .slice A osx.length c] wr.drew := by rw [hX]; exact ⟨HXX.out, h1⟩
      clear hC hl hR h1 h2 h3 hL hng hnb hdel hosx hbX d1
      go_wp2
      refine start_ (n := 10) (S := TickS t W.heap.size #[.bool true, .int .i64 L.op, .int .i64 L.by_, .int .i64 L.ex, .slice A osx.length c]) (ds := [9]) #[false, false, false, false, false, false, false, false, false, false] (by kernel_rfl) rfl rfl hs0 (fun hH => ?_)
      rw [hX] at hH ⊢
      clear hs0 hX
      refine take_ (i := 0) (N := some 25) (v := ?_) (a' := ?_) #[true, false, false, false, false, false, false, false, false, false] rfl rfl (by kernel_rfl) (fun _ _ _ h => h) (Or.inl ⟨by rfl, ?_⟩) hH ?_ ?_
      rotate_left
      · rintro w' ⟨s0, s1⟩
        have q0 := (blk_cell s0 0).trans rfl
        go_simp
        with_reducible rfl
      rotate_left
      · simp only [Act.put, List.setIfInBounds_toArray, List.set_cons_zero, List.set_cons_succ, i64_w, i32_w]
        rfl
      refine take_ (i := 1) (N := some 26) (v := ?_) (a' := ?_) #[true, true, false, false, false, false, false, false, false, false] rfl rfl (by kernel_rfl) (fun _ _ _ h => h) (Or.inl ⟨by rfl, ?_⟩) hH ?_ ?_
      rotate_left
      · rintro w' ⟨s0, s1⟩
        have q0 := (blk_cell s0 0).trans rfl
        go_simp
        with_reducible rfl
      rotate_left
      · simp only [Act.put, List.setIfInBounds_toArray, List.set_cons_zero, List.set_cons_succ, i64_w, i32_w]
        rfl
      refine pure_ (i := 2) (N := some 27) (v := ?_) (a' := ?_) #[true, true, true, false, false, false, false, false, false, false] rfl rfl (by kernel_rfl) (fun _ _ _ h => h) (Or.inl ⟨by rfl, ?_⟩) ?_ ?_
      rotate_left
      · intro w'
        go_simp
        with_reducible rfl
      rotate_left
      · simp only [Act.put, List.setIfInBounds_toArray, List.set_cons_zero, List.set_cons_succ, i64_w, i32_w]
        rfl
      refine pure_ (i := 3) (N := some 28) (v := ?_) (a' := ?_) #[true, true, true, true, false, false, false, false, false, false] rfl rfl (by kernel_rfl) (fun _ _ _ h => h) (Or.inl ⟨by rfl, ?_⟩) ?_ ?_
      rotate_left
      · intro w'
        go_simp
        with_reducible rfl
      rotate_left
      · simp only [Act.put, List.setIfInBounds_toArray, List.set_cons_zero, List.set_cons_succ, i64_w, i32_w]
        rfl
      refine take_ (i := 4) (N := some 29) (v := ?_) (a' := ?_) #[true, true, true, true, true, false, false, false, false, false] rfl rfl (by kernel_rfl) (fun _ _ _ h => h) (Or.inl ⟨by rfl, ?_⟩) hH ?_ ?_
      rotate_left
      · rintro w' ⟨s0, s1⟩
        have q4 := (blk_cell s1 4).trans rfl
        go_simp
        with_reducible rfl
      rotate_left
      · simp only [Act.put, List.setIfInBounds_toArray, List.set_cons_zero, List.set_cons_succ, i64_w, i32_w]
        rfl
      refine pure_ (i := 5) (N := some 30) (v := ?_) (a' := ?_) #[true, true, true, true, true, true, false, false, false, false] rfl rfl (by kernel_rfl) (fun _ _ _ h => h) (Or.inl ⟨by rfl, ?_⟩) ?_ ?_
      rotate_left
      · intro w'
        go_simp
        with_reducible rfl
      rotate_left
      · simp only [Act.put, List.setIfInBounds_toArray, List.set_cons_zero, List.set_cons_succ, i64_w, i32_w]
        rfl
      refine one_ (i := 6) (N := some 31) #[true, true, true, true, true, true, true, false, false, false] rfl rfl (by kernel_rfl) (by decide) (fun K hK => ?_)
      refine goes_ Try.func26 (by kernel_rfl) rfl #[.slice A osx.length c, .func (.func 27) #[] #[.pointer (some ⟨W.heap.size, 0, none⟩)]] (by rfl) rfl rfl (by (try simp only [List.map_toArray, List.map_cons, List.map_nil]); first | done | rfl) ?_
      refine HDEL.out.mono ?_
      rintro e3 w3 ⟨v', rfl, hR3, hf3⟩
      refine ⟨_, rfl, ?_⟩
      obtain ⟨A', c', rfl, hl3, hC3⟩ := Kd.R_reads hR3
      have ht3 := (hf3.block t HTX'.out.1 HTX'.out.2).trans hH.s1
      have HR3 := Aside0.mk hR3; have HF3 := Aside0.mk hf3; have HT3 := Aside0.mk ht3
      have hft : w3.frozen? ⟨t, 4, none⟩ = false := blk_frozen ht3 4
      have hct : w3.cell? ⟨t, 4, none⟩ = some (.slice A osx.length c) := (blk_cell ht3 4).trans rfl
      have hS_ : TickS t W.heap.size #[.bool true, .int .i64 L.op, .int .i64 L.by_, .int .i64 L.ex, .slice A osx.length c] w3 := ⟨(hf3.block W.heap.size (blk_lt hH.s0) HNB.out).trans hH.s0, ht3⟩
      clear hR3 hf3 ht3 hC3 hl3
      refine hK.out _ _ hS_ (fun hH1 => ?_)
      clear hS_
      clear hK K
      refine norm_ (a' := ?_) ?_ ?_
      rotate_left
      · show Act.put _ (some 31) _ = _
        simp only [Act.put, List.setIfInBounds_toArray, List.set_cons_zero, List.set_cons_succ, i64_w, i32_w]
        rfl
      refine pure_ (i := 7) (N := some 32) (v := ?_) (a' := ?_) #[true, true, true, true, true, true, true, true, false, false] rfl rfl (by kernel_rfl) (fun _ _ _ h => h) (Or.inl ⟨by rfl, ?_⟩) ?_ ?_
      rotate_left
      · intro w'
        go_simp
        with_reducible rfl
      rotate_left
      · simp only [Act.put, List.setIfInBounds_toArray, List.set_cons_zero, List.set_cons_succ, i64_w, i32_w]
        rfl
      refine pure_ (i := 8) (N := some 33) (v := ?_) (a' := ?_) #[true, true, true, true, true, true, true, true, true, false] rfl rfl (by kernel_rfl) (fun _ _ _ h => h) (Or.inl ⟨by rfl, ?_⟩) ?_ ?_
      rotate_left
      · intro w'
        go_simp
        with_reducible rfl
      rotate_left
      · simp only [Act.put, List.setIfInBounds_toArray, List.set_cons_zero, List.set_cons_succ, i64_w, i32_w]
        rfl
      refine last_ (i := 9) (N := none) #[true, true, true, true, true, true, true, true, true, true] rfl rfl (by kernel_rfl) (by decide) (fun K hK => ?_)
      refine skip_ (w1 := w3.setCell ⟨t, 4, none⟩ (.slice A' (osx.filter fun x => !decide (x.a.age > L.ex)).length c')) (by rfl) rfl ?_ ?_
      · go_simp
        try rfl
      show K (Act.put _ none undef) _
      refine hK.out _ _ ?_
      clear hK K
      refine norm_ (a' := ?_) ?_ ?_
      rotate_left
      · show Act.put _ (none) _ = _
        simp only [Act.put, List.setIfInBounds_toArray, List.set_cons_zero, List.set_cons_succ, i64_w, i32_w]
        rfl
      refine done_ (by kernel_rfl) ?_
      clear hH hH1
      go_wp2
      go_end0
      obtain ⟨h1, h2, h3, hL⟩ := HTR.out
      have hblk := blk_set HT3.out 4 (.slice A' (osx.filter fun x => !decide (x.a.age > L.ex)).length c')
      have hsz : (w3.setCell ⟨t, 4, none⟩ (.slice A' (osx.filter fun x => !decide (x.a.age > L.ex)).length c')).heap.size = w3.heap.size := by simp [World.setCell]
      have hf4 : Fr (fun k => k = t) w3 (w3.setCell ⟨t, 4, none⟩ (.slice A' (osx.filter fun x => !decide (x.a.age > L.ex)).length c')) := ⟨rfl, rfl, rfl, by rw [hsz]; exact Nat.le_refl _, fun k hk hn => Below.heap_setCell _ _ _ _ hn⟩
      have hf3' : Fr own X w3 := HF3.out.mono (fun q _ hq => (h3 q (hL q (HR.out.1 q hq.symm)).1).1)
      have hfX : Fr own W w3 := (HF.out.then_ (Fr.of_below (own := fun _ => False) HBX.out) (fun _ _ h => h.elim)).then_ hf3' (fun q _ hq => hq)
      have hbag : Bag OPA 69 oB (.slice A' (osx.filter fun x => !decide (x.a.age > L.ex)).length c') (osx.filter fun x => !decide (x.a.age > L.ex)) w3 := h2.sub2 hL HR.out (List.filter_sublist) HR3.out HF3.out
      refine ⟨rfl, hfX.then_ hf4 (fun q _ hq => by rw [hq]; exact HOT.out), osx.filter fun x => !decide (x.a.age > L.ex), ?_, HOT.out, ⟨_, oB, ?_, hbag.frame OPA.fr hf4 (fun q hq e => (h3 q hq).2 e), h3⟩, fun q hq => ?_⟩
      · rw [← HOSX.out]; exact aOf_inc L os
      · rw [hblk]; simp
      · rw [hsz]; exact Nat.lt_of_lt_of_le (HTX.out.lt q hq) HF3.out.size
#print axioms tick_calls
end Go.Proofs.Ytaeelmkpjgmdlaa.H
