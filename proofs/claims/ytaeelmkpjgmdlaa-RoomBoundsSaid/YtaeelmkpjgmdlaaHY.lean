/- Mine. Chapter 22, by hand: Put of the table. -/
import Derived.Test.YtaeelmkpjgmdlaaHX
import Derived.Test.YtaeelmkpjgmdlaaHQ
namespace Go.Proofs.Ytaeelmkpjgmdlaa.H
open Go Go.Proofs Go.RowKit Go.Lib Go.Proofs.Ytaeelmkpjgmdlaa.P Go.Proofs.YtaeelmkpjgmdlaaW.PrintWords Go.Proofs.YtaeelmkpjgmdlaaW.PrintLast Go.Proofs.YtaeelmkpjgmdlaaW.PrintMore Go.Proofs.YtaeelmkpjgmdlaaW.PrintFlat
set_option linter.unusedVariables false
set_option linter.unusedSimpArgs false
def PutP (own : Nat → Prop) (t : Nat) (L : Room.Lim) (r : List Room.OA × List Int × Bool × Int) (W : World) (e' : Ending) (w' : World) : Prop :=
  Fr own W w' ∧ ∃ own' os' v, TS own' t L os' w' ∧ (∀ q, own' q → own q ∨ W.heap.size ≤ q) ∧ aOf os' = r.1 ∧ e' = .returned (.tuple #[v, .bool r.2.2.1, .int .i64 r.2.2.2]) ∧ ∃ A c, v = .slice A r.2.1.length c ∧ r.2.1.length ≤ c ∧ Kd.C (Kd.int .u8) w' A r.2.1.length r.2.1
theorem nil_C (w : World) : ∃ A c, Value.slice none 0 0 = .slice A ([] : List Int).length c ∧ ([] : List Int).length ≤ c ∧ Kd.C (Kd.int .u8) w A ([] : List Int).length [] := ⟨none, 0, rfl, Nat.zero_le _, ⟨rfl, Nat.zero_le _, fun h => absurd h (Nat.lt_irrefl _)⟩⟩
theorem put_none {own : Nat → Prop} {t : Nat} {L : Room.Lim} {os' : List OB} {r : List Room.OA × List Int × Bool × Int} {W w' : World} {c : Int} (hr : r = (aOf os', [], false, c)) (hf : Fr own W w') (h : TS own t L os' w') : PutP own t L r W (.returned (.tuple #[.slice none 0 0, .bool false, .int .i64 c])) w' := by
  subst hr
  exact ⟨hf, own, os', _, h, fun q hq => .inl hq, rfl, rfl, nil_C _⟩
theorem box3c {w : World} {g t : Nat} {c0 c1 c2 : Value} (h : w.heap[g]? = some (.cells #[c0, c1, c2] t (0, 0))) : w.cell? ⟨g, 0, none⟩ = some c0 ∧ w.cell? ⟨g, 1, none⟩ = some c1 ∧ w.cell? ⟨g, 2, none⟩ = some c2 := ⟨(blk_cell h 0).trans rfl, (blk_cell h 1).trans rfl, (blk_cell h 2).trans rfl⟩
theorem box7c {w : World} {g t : Nat} {c0 c1 c2 c3 c4 c5 c6 : Value} (h : w.heap[g]? = some (.cells #[c0, c1, c2, c3, c4, c5, c6] t (0, 0))) : w.cell? ⟨g, 0, none⟩ = some c0 ∧ w.cell? ⟨g, 1, none⟩ = some c1 ∧ w.cell? ⟨g, 2, none⟩ = some c2 ∧ w.cell? ⟨g, 3, none⟩ = some c3 ∧ w.cell? ⟨g, 4, none⟩ = some c4 ∧ w.cell? ⟨g, 5, none⟩ = some c5 ∧ w.cell? ⟨g, 6, none⟩ = some c6 :=
  ⟨(blk_cell h 0).trans rfl, (blk_cell h 1).trans rfl, (blk_cell h 2).trans rfl, (blk_cell h 3).trans rfl, (blk_cell h 4).trans rfl, (blk_cell h 5).trans rfl, (blk_cell h 6).trans rfl⟩
theorem dead_ok {own : Nat → Prop} {t : Nat} {L : Room.Lim} {os : List OB} {W : World} (h : TS own t L os W) : Calls Try.prog 25 #[.pointer (some ⟨t, 0, none⟩)] W fun e w' => e = .returned (.bool false) ∧ W = w' := by
  obtain ⟨A, c, g0, _⟩ := h.reads
  clear h
  go_enter Try.func25, Try.ntmps25
  go_wp2
  go_ret
  exact ⟨rfl, rfl⟩
theorem put_none' {own own' : Nat → Prop} {t : Nat} {L : Room.Lim} {os' : List OB} {r : List Room.OA × List Int × Bool × Int} {W w' : World} {c : Int} (hr : r = (aOf os', [], false, c)) (hf : Fr own W w') (h : TS own' t L os' w') (ho : ∀ q, own' q → own q ∨ W.heap.size ≤ q) : PutP own t L r W (.returned (.tuple #[.slice none 0 0, .bool false, .int .i64 c])) w' := by
  subst hr
  exact ⟨hf, own', os', _, h, ho, rfl, rfl, nil_C _⟩
theorem put_yes {own own' : Nat → Prop} {t : Nat} {L : Room.Lim} {os' : List OB} {r : List Room.OA × List Int × Bool × Int} {W w' : World} {c : Int} {bs : List Int} {A : Option Addr} {cc : Nat} (hr : r = (aOf os', bs, true, c)) (hf : Fr own W w') (h : TS own' t L os' w') (ho : ∀ q, own' q → own q ∨ W.heap.size ≤ q) (hl : bs.length ≤ cc) (hC : Kd.C (Kd.int .u8) w' A bs.length bs) :
    PutP own t L r W (.returned (.tuple #[.slice A bs.length cc, .bool true, .int .i64 c])) w' := by
  subst hr
  exact ⟨hf, own', os', _, h, ho, rfl, rfl, A, cc, rfl, hl, hC⟩
theorem beg_last {L : Room.Lim} {os os1 : List Room.OA} {o : Room.OA} {k : Nat} (h : os1 = begA L os o) (hk : os1.length = k + 1) : os1[k]? = some o := by
  unfold begA at h
  subst h
  rw [List.length_append, List.length_singleton] at hk
  rw [List.getElem?_append_right (by omega), show k - (if (os.length : Int) ≥ L.op then os.eraseIdx 0 else os).length = 0 by omega]
  rfl
theorem beg_set {L : Room.Lim} {os os1 : List Room.OA} {o o' : Room.OA} {k : Nat} (h : os1 = begA L os o) (hk : os1.length = k + 1) : os1.set k o' = begA L os o' := by
  unfold begA at h ⊢
  subst h
  rw [List.length_append, List.length_singleton] at hk
  rw [List.set_append_right _ _ (by omega), show k - (if (os.length : Int) ≥ L.op then os.eraseIdx 0 else os).length = 0 by omega]
  rfl
theorem held_le {L : Room.Lim} {os : List Room.OA} (h : ∀ o ∈ os, Room.size o.ps ≤ L.by_) : Room.held os ≤ os.length * L.by_ := by
  induction os with
  | nil => simp [Room.held]
  | cons x r ih =>
    have h1 := h x (by simp)
    have h2 := ih (fun y hy => h y (by simp [hy]))
    rw [Room.held_cons, List.length_cons, show ((r.length + 1 : Nat) : Int) = (r.length : Int) + 1 by omega, Int.add_mul, Int.one_mul]
    omega
theorem one_key' {os : List OB} (h : ((aOf os).map okey).Nodup) {x y : OB} (hx : x ∈ os) (hy : y ∈ os) (hk : x.a = y.a) : x = y := by
  induction os with
  | nil => simp at hx
  | cons z r ih =>
    rw [show aOf (z :: r) = z.a :: aOf r from rfl, List.map_cons, List.nodup_cons] at h
    rcases List.mem_cons.1 hx with hx | hx
    · rcases List.mem_cons.1 hy with hy | hy
      · rw [hx, hy]
      · exact absurd (List.mem_map.2 ⟨y.a, List.mem_map.2 ⟨y, hy, rfl⟩, by rw [← hk, hx]⟩) h.1
    · rcases List.mem_cons.1 hy with hy | hy
      · exact absurd (List.mem_map.2 ⟨x.a, List.mem_map.2 ⟨x, hx, rfl⟩, by rw [hk, hy]⟩) h.1
      · exact ih h.2 hx hy
set_option maxHeartbeats 8000000 in
set_option maxRecDepth 100000 in
theorem put_calls {own : Nat → Prop} {t : Nat} {L : Room.Lim} {os : List OB} {W : World} (h : TS own t L os W) (hl : LimOk L) (hi : RInv L (aOf os)) (f : Int) (kd : Int) (g : Room.GA) (hg : Gm g) (A : Option Addr) (cp : Nat) (hcp : g.body.length ≤ cp)
    (hbody : ∀ V, Fr own W V → Kd.C (Kd.int .u8) V A g.body.length g.body) :
    Calls Try.prog 13 #[.pointer (some ⟨t, 0, none⟩), .int .u16 f, .agg #[.int .u8 kd, .int .u8 g.ver, .int .u32 g.ep, .int .u32 g.id, .int .u16 g.ix, .int .u16 g.cnt, .slice A g.body.length cp]] W (PutP own t L (Room.put L (aOf os) f g) W) := by
  obtain ⟨V, hV⟩ : ∃ V, ((W.alloc (.cells #[.int .u8 kd, .int .u8 g.ver, .int .u32 g.ep, .int .u32 g.id, .int .u16 g.ix, .int .u16 g.cnt, .slice A g.body.length cp] 38)).alloc (.cells #[.int .u16 f, .int .u32 g.ep, .int .u32 g.id] 66)) = V := ⟨_, rfl⟩
  obtain ⟨hbV, hsV, e5, e9⟩ := alloc2 hV
  have hTV := h.below hbV
  obtain ⟨B, c, g0, g1, g2, g3, g4, hlc, hC⟩ := hTV.reads
  have HI := Aside0.mk hi
  have HLM := Aside0.mk hl
  have HGM := Aside0.mk hg
  have HCP := Aside0.mk hcp
  have HBD := Aside0.mk hbody
  have HTL := Aside0.mk h.lt
  have HBV := Aside0.mk hbV
  have HTV := Aside0.mk hTV
  have HE5 := Aside0.mk e5
  have HE9 := Aside0.mk e9
  have HSV := Aside0.mk hsV
  have HDEAD := Aside0.mk (dead_ok (h.below (below_alloc (Below.refl _ _) (.cells #[.int .u8 kd, .int .u8 g.ver, .int .u32 g.ep, .int .u32 g.id, .int .u16 g.ix, .int .u16 g.cnt, .slice A g.body.length cp] 38))))
  have HFIND := Aside0.mk (find_calls hTV f g.ep g.id)
  clear h hl hi hg hcp hbody hbV hsV e5 e9 hTV hC g0 g1 g2 g3 g4 hlc
  go_enter Try.func13, Try.ntmps13
  go_wp2_with fail
  refine HDEAD.out.mono ?_
  rintro e1 w1 ⟨rfl, rfl⟩
  obtain ⟨u0, u1, u2⟩ := box3c HE9.out
  go_wp2_with fail
  refine HFIND.out.mono ?_
  rintro e1 w1 ⟨rfl, hb1⟩
  have HX5 := Aside0.mk ((hb1.block _ (blk_lt HE5.out)).trans HE5.out)
  have HX9 := Aside0.mk ((hb1.block _ (blk_lt HE9.out)).trans HE9.out)
  have HB1 := Aside0.mk (below_then HBV.out HBV.out.size hb1)
  have HT1 := Aside0.mk (HTV.out.below hb1)
  obtain ⟨v0, v1, v2, v3, v4, v5, v6⟩ := box7c HX5.out
  obtain ⟨k, hk⟩ : ∃ k, Room.idx (Room.isK f g.ep g.id) (aOf os) = k := ⟨_, rfl⟩
  have HK := Aside0.mk hk
  have hSm : Sm L os := ⟨by have h1 := HI.out.ln; have h2 := HLM.out.o2; rw [aOf_len] at h1; omega, by have h1 := HI.out.hd; have h2 := HLM.out.b2; omega, ⟨by have := HLM.out.b1; omega, HLM.out.b2⟩, fun o ho => HI.out.ct o.a (List.mem_map.2 ⟨o, ho, rfl⟩)⟩
  have HSM := Aside0.mk hSm
  clear hb1 u0 u1 u2 HFIND HDEAD hSm hV
  by_cases hlt : k < os.length
  · have hix : Room.ixI (Room.isK f g.ep g.id) (os.map OB.a) = (k : Int) := by
      unfold Room.ixI
      rw [show os.map OB.a = aOf os from rfl, hk, aOf_len, if_pos hlt]
    rw [hix]
    clear hix hk
    obtain ⟨y, hy⟩ : ∃ y, os[k] = y := ⟨_, rfl⟩
    have hyA : (aOf os)[k]? = some y.a := by
      show (os.map OB.a)[k]? = _
      rw [List.getElem?_map, List.getElem?_eq_getElem hlt, hy]; rfl
    have HYA := Aside0.mk hyA
    have HY := Aside0.mk hy
    have HLT := Aside0.mk hlt
    clear hyA hy
    by_cases hge : g.cnt ≤ g.ix
    · have hwn : whyNot L (some y.a) g = 1 := by unfold whyNot; rw [if_pos hge]
      have HWN := Aside0.mk hwn
      have HGE := Aside0.mk hge
      have hgl : ¬ (g.ix < g.cnt) := by omega
      clear hwn
      have hre := refused_some HT1.out HSM.out k HLT.out kd g HGM.out A cp
      rw [HY.out, HWN.out] at hre
      have HRE := Aside0.mk hre
      clear hre
      go_wp2_with fail
      refine HRE.out.mono ?_
      rintro e3 w3 ⟨rfl, hb3⟩
      clear v0 v1 v2 v3 v4 v5 v6
      have HX5c := Aside0.mk ((hb3.block _ (blk_lt HX5.out)).trans HX5.out)
      have HX9c := Aside0.mk ((hb3.block _ (blk_lt HX9.out)).trans HX9.out)
      have HB1c := Aside0.mk (below_then HB1.out HB1.out.size hb3)
      have HT1c := Aside0.mk (HT1.out.below hb3)
      obtain ⟨v0, v1, v2, v3, v4, v5, v6⟩ := box7c HX5c.out
      clear hb3
      go_wp2_with fail
      go_ret3
      exact put_none (os' := os) (by unfold Room.put; simp only [HK.out, HYA.out]; rw [if_neg (by have := HGE.out; omega), if_pos HGE.out]) (Fr.of_below HB1c.out) HT1c.out
    · have hgl : g.ix < g.cnt := by omega
      have HGL := Aside0.mk hgl
      have hth := there_calls HT1.out HSM.out k hlt kd g HGM.out A cp
      rw [HY.out] at hth
      obtain ⟨b, hb⟩ : ∃ b, (decide (y.a.cnt = g.cnt) && decide (y.a.ver = g.ver) && Room.has y.a.ps g.ix) = b := ⟨_, rfl⟩
      rw [hb] at hth
      have HTH := Aside0.mk hth
      have HBB := Aside0.mk hb
      clear hth hge hb
      go_wp2_with fail
      refine HTH.out.mono ?_
      rintro e2 w2 ⟨rfl, hb2⟩
      clear v0 v1 v2 v3 v4 v5 v6
      have HX5b := Aside0.mk ((hb2.block _ (blk_lt HX5.out)).trans HX5.out)
      have HX9b := Aside0.mk ((hb2.block _ (blk_lt HX9.out)).trans HX9.out)
      have HB1b := Aside0.mk (below_then HB1.out HB1.out.size hb2)
      have HT1b := Aside0.mk (HT1.out.below hb2)
      obtain ⟨v0, v1, v2, v3, v4, v5, v6⟩ := box7c HX5b.out
      clear hb2
      cases b with
      | true =>
        go_wp2_with fail
        go_ret3
        exact put_none (os' := os) (by unfold Room.put; simp only [HK.out, HYA.out]; rw [if_pos (by have := HBB.out; simp at this; exact ⟨HGL.out, this.1.1, this.1.2, this.2⟩)]) (Fr.of_below HB1b.out) HT1b.out
      | false =>
        have HNB : Aside0 (¬ (g.ix < g.cnt ∧ y.a.cnt = g.cnt ∧ y.a.ver = g.ver ∧ Room.has y.a.ps g.ix = true)) := ⟨fun h => by have := HBB.out; rw [decide_eq_true h.2.1, decide_eq_true h.2.2.1, h.2.2.2] at this; cases this⟩
        by_cases hmm : y.a.cnt ≠ g.cnt ∨ y.a.ver ≠ g.ver
        · have hwn : whyNot L (some y.a) g = 3 := by unfold whyNot; rw [if_neg (by omega)]; simp only [if_pos hmm]
          have HWN := Aside0.mk hwn
          have HMM := Aside0.mk hmm
          clear hwn hmm
          have hre := refused_some HT1b.out HSM.out k HLT.out kd g HGM.out A cp
          rw [HY.out, HWN.out] at hre
          have HRE := Aside0.mk hre
          clear hre
          go_wp2_with fail
          refine HRE.out.mono ?_
          rintro e3 w3 ⟨rfl, hb3⟩
          clear v0 v1 v2 v3 v4 v5 v6
          have HX5c := Aside0.mk ((hb3.block _ (blk_lt HX5b.out)).trans HX5b.out)
          have HX9c := Aside0.mk ((hb3.block _ (blk_lt HX9b.out)).trans HX9b.out)
          have HB1c := Aside0.mk (below_then HB1b.out HB1b.out.size hb3)
          have HT1c := Aside0.mk (HT1b.out.below hb3)
          obtain ⟨v0, v1, v2, v3, v4, v5, v6⟩ := box7c HX5c.out
          clear hb3
          go_wp2_with fail
          go_ret3
          exact put_none (os' := os) (by unfold Room.put; simp only [HK.out, HYA.out]; rw [if_neg HNB.out, if_neg (by have := HGL.out; omega), if_pos HMM.out]) (Fr.of_below HB1c.out) HT1c.out
        · by_cases hsz : Room.size y.a.ps > L.by_ - g.body.length
          · have hwn : whyNot L (some y.a) g = 10 := by unfold whyNot; rw [if_neg (by omega)]; simp only [if_neg hmm, if_pos hsz]
            have HWN := Aside0.mk hwn
            have HMM := Aside0.mk hmm
            have HSZ := Aside0.mk hsz
            clear hwn hmm hsz
            have hre := refused_some HT1b.out HSM.out k HLT.out kd g HGM.out A cp
            rw [HY.out, HWN.out] at hre
            have HRE := Aside0.mk hre
            clear hre
            go_wp2_with fail
            refine HRE.out.mono ?_
            rintro e3 w3 ⟨rfl, hb3⟩
            clear v0 v1 v2 v3 v4 v5 v6
            have HX5c := Aside0.mk ((hb3.block _ (blk_lt HX5b.out)).trans HX5b.out)
            have HX9c := Aside0.mk ((hb3.block _ (blk_lt HX9b.out)).trans HX9b.out)
            have HB1c := Aside0.mk (below_then HB1b.out HB1b.out.size hb3)
            have HT1c := Aside0.mk (HT1b.out.below hb3)
            obtain ⟨v0, v1, v2, v3, v4, v5, v6⟩ := box7c HX5c.out
            clear hb3
            have HDR := Aside0.mk (drop_calls HT1c.out k HLT.out (by have := HSM.out.1; omega))
            go_wp2_with fail
            refine HDR.out.mono ?_
            rintro e4 w4 ⟨rfl, hf4, hT4⟩
            have HF4 := Aside0.mk hf4
            have HT4 := Aside0.mk hT4
            clear hf4 hT4
            go_wp2_with fail
            go_ret3
            exact put_none (by unfold Room.put; simp only [HK.out, HYA.out]; rw [if_neg HNB.out, if_neg (by have := HGL.out; omega), if_neg HMM.out, if_pos HSZ.out, aOf_eraseIdx]) ((Fr.of_below HB1c.out).then_ HF4.out (fun q _ hq => hq)) HT4.out
          · have hwn : whyNot L (some y.a) g = 0 := by unfold whyNot; rw [if_neg (by omega)]; simp only [if_neg hmm, if_neg hsz]
            have HWN := Aside0.mk hwn
            have HMM := Aside0.mk hmm
            have HSZ := Aside0.mk hsz
            clear hwn hmm hsz
            have hre := refused_some HT1b.out HSM.out k HLT.out kd g HGM.out A cp
            rw [HY.out, HWN.out] at hre
            have HRE := Aside0.mk hre
            clear hre
            go_wp2_with fail
            refine HRE.out.mono ?_
            rintro e3 w3 ⟨rfl, hb3⟩
            clear v0 v1 v2 v3 v4 v5 v6
            have HX5c := Aside0.mk ((hb3.block _ (blk_lt HX5b.out)).trans HX5b.out)
            have HX9c := Aside0.mk ((hb3.block _ (blk_lt HX9b.out)).trans HX9b.out)
            have HB1c := Aside0.mk (below_then HB1b.out HB1b.out.size hb3)
            have HT1c := Aside0.mk (HT1b.out.below hb3)
            obtain ⟨v0, v1, v2, v3, v4, v5, v6⟩ := box7c HX5c.out
            clear hb3
            have HLT1 := Aside0.mk HLT.out
            have HY1 := Aside0.mk HY.out
            have HCT : Aside0 (y.a.cnt = g.cnt) := ⟨Classical.byContradiction fun h => HMM.out (.inl h)⟩
            have HNH : Aside0 (Room.has y.a.ps g.ix = false) := ⟨by
              have h1 : y.a.ver = g.ver := Classical.byContradiction fun h => HMM.out (.inr h)
              cases hh : Room.has y.a.ps g.ix with
              | false => rfl
              | true => exact absurd ⟨HGL.out, HCT.out, h1, hh⟩ HNB.out⟩
            have HSZ1 : Aside0 (Room.size y.a.ps ≤ L.by_ - g.body.length) := ⟨by have := HSZ.out; omega⟩
            have HK1 : Aside0 (Room.isK f g.ep g.id y.a = true) := ⟨by
              have h1 : Room.idx (Room.isK f g.ep g.id) (aOf os) < (aOf os).length := by rw [HK.out, aOf_len]; exact HLT.out
              have h2 := Room.idx_hit h1
              have h3 := HYA.out
              rw [← HK.out, List.getElem?_eq_getElem h1] at h3
              rw [← Option.some.inj h3]; exact h2⟩
            have HM : Aside0 (Mid L ((aOf os).set k { y.a with ps := y.a.ps ++ [(g.ix, g.body)] })) := ⟨HI.out.toMid.set HYA.out _ (by rw [Room.size_snoc]; have := HSZ1.out; omega)⟩
            have HOW : Aside0 (∀ q, own q → own q ∨ V.heap.size ≤ q) := ⟨fun q h => .inl h⟩
            have HFR := Aside0.mk (Fr.of_below (own := own) HB1c.out)
            have HRP : Aside0 (Room.put L (aOf os) f g = ((Room.fin L f g.ep g.id ((aOf os).set k { y.a with ps := y.a.ps ++ [(g.ix, g.body)] })).1, (Room.fin L f g.ep g.id ((aOf os).set k { y.a with ps := y.a.ps ++ [(g.ix, g.body)] })).2.1, (Room.fin L f g.ep g.id ((aOf os).set k { y.a with ps := y.a.ps ++ [(g.ix, g.body)] })).2.2, 0)) := ⟨by unfold Room.put; simp only [HK.out, HYA.out]; rw [if_neg HNB.out, if_neg (by have := HGL.out; omega), if_neg HMM.out, if_neg (show ¬ Room.size y.a.ps > L.by_ - g.body.length by have := HSZ1.out; omega)]⟩
            have HVW : Aside0 (V.heap.size ≤ w3.heap.size) := ⟨by have h1 := HB1c.out.size; have h2 := HSV.out; have h3 := blk_lt HX9c.out; omega⟩
            have hwx : wrap64 g.ix = g.ix := by have := HGM.out; unfold Gm at this; unfold wrap64; omega
            obtain ⟨A1, c1, j0, j1, j2, j3, j4, hl1, hC1⟩ := HT1c.out.reads
            obtain ⟨ad, e1, _, _, _, _, _, _, hx6⟩ := at7 hC1 (k : Int) (by omega) (by have := HLT.out; omega)
            cases e1
            simp only [Int.toNat_natCast] at hx6
            rw [rd7_eq HLT.out, HY.out] at hx6
            have p0 : (0 ≤ (k : Int)) = True := eq_true (by omega)
            have p1 : ((k : Int) < (os.length : Int)) = True := eq_true (by have := HLT.out; omega)
            have hmem : y ∈ os := by rw [← HY.out]; exact List.getElem_mem _
            have hadd := add_ok (HT1c.out.obj y hmem) g.ix (by have := HGM.out; exact this.1) (by have h1 := HGL.out; have h2 := HCT.out; omega) (by have h1 := HGM.out.2.2.2.1; have h2 := HCT.out; omega) HNH.out A cp g.body HCP.out (fun U hU => HBD.out U (HFR.out.then_ hU (fun q hq h => (HOW.out q (HT1c.out.own_of hmem q h)).resolve_right (by have := HSV.out; omega)))) (by have := HGM.out.2.2.2.2; omega) (by have h1 := HSZ1.out; have h2 := HLM.out.b2; omega)
            have HADD := Aside0.mk hadd
            have HMEM := Aside0.mk hmem
            clear hadd hmem hC1 j0 j1 j2 j3 hl1
            go_wp2_with fail
            refine HADD.out.mono ?_
            rintro e4 w4 ⟨rfl, hf4, hPA4⟩
            have hT4 := HT1c.out.set (W' := w4) (ps := y.a.ps ++ [(g.ix, g.body)]) HLT.out
            rw [HY.out] at hT4
            replace hT4 := hT4 hf4 hPA4
            obtain ⟨o2, ho2⟩ : ∃ o2, upd y (y.a.ps ++ [(g.ix, g.body)]) w3.heap.size w4.heap.size = o2 := ⟨_, rfl⟩
            obtain ⟨os2, hos2⟩ : ∃ os2, os.set k o2 = os2 := ⟨_, rfl⟩
            rw [ho2, hos2] at hT4
            have ha2 : aOf os2 = (aOf os).set k { y.a with ps := y.a.ps ++ [(g.ix, g.body)] } := by rw [← hos2, aOf_set, ← ho2]; rfl
            have hm2 : Mid L (aOf os2) := by rw [ha2]; exact HM.out
            have hl2 : os2.length = os.length := by rw [← hos2, List.length_set]
            have hmo : o2 ∈ os2 := by rw [← hos2]; exact List.mem_set HLT.out o2
            have hko : Room.isK f g.ep g.id o2.a = true := by rw [← ho2]; exact HK1.out
            have hpo : o2.p = y.p := by rw [← ho2]; rfl
            have hco : o2.a.cnt = g.cnt := by rw [← ho2]; exact HCT.out
            have hx9 := (hf4.block _ (blk_lt HX9c.out) (fun e => by have h1 := HOW.out _ (HT1c.out.own_of HMEM.out _ e); have h2 := HSV.out; rcases h1 with h1 | h1; (have := HTL.out _ h1; omega); omega)).trans HX9c.out
            have hs2 : Sm L os2 := ⟨by have h1 := hm2.ln; have h2 := HLM.out.o2; rw [aOf_len] at h1; omega, by
              have h1 := held_le hm2.sz
              have h2 := hm2.ln
              have h3 := HLM.out.o2
              have h4 := HLM.out.b2
              have h5 : ((aOf os2).length : Int) * L.by_ ≤ 16 * 65536 := Int.mul_le_mul (by omega) h4 (by have := HLM.out.b1; omega) (by omega)
              omega, ⟨by have := HLM.out.b1; omega, HLM.out.b2⟩, fun o ho => hm2.ct o.a (List.mem_map.2 ⟨o, ho, rfl⟩)⟩
            have HFIT := Aside0.mk (fit_calls hT4 hs2 f g.ep g.id (hm2.fits HLM.out f g.ep g.id))
            have HF4 : Aside0 (Fr own W w4) := ⟨HFR.out.then_ hf4 (fun q hq h => (HOW.out q (HT1c.out.own_of HMEM.out q h)).resolve_right (by have := HSV.out; omega))⟩
            have HO4 : Aside0 (∀ q, (own q ∨ w3.heap.size ≤ q ∧ q < w4.heap.size) → own q ∨ V.heap.size ≤ q) := ⟨fun q hq => by
              rcases hq with hq | hq
              · exact HOW.out q hq
              · have h1 := HVW.out
                exact .inr (by omega)⟩
            have HX9d := Aside0.mk hx9
            have HA2 := Aside0.mk ha2
            have HM2 := Aside0.mk hm2
            have HL2 := Aside0.mk hl2
            have HMO := Aside0.mk hmo
            have HKO := Aside0.mk hko
            have HPO := Aside0.mk hpo
            have HCO := Aside0.mk hco
            have HPS2 : Aside0 (o2.a.ps = y.a.ps ++ [(g.ix, g.body)]) := ⟨by rw [← ho2]; rfl⟩
            have HLW : Aside0 (w3.heap.size ≤ w4.heap.size) := ⟨hf4.size⟩
            have HXL : Aside0 (W.heap.size + 1 < w3.heap.size) := ⟨blk_lt HX9c.out⟩
            obtain ⟨z0, z1, z2⟩ := box3c hx9
            clear hf4 hPA4 hT4 ho2 hos2 ha2 hm2 hl2 hmo hko hpo hco hx9 hs2 hx6 j4 v0 v1 v2 v3 v4 v5 v6 p0 p1
            go_wp2_with fail
            refine HFIT.out.mono ?_
            rintro e5 w5 ⟨rfl, hf5, os3, hs3, ha3, hT5⟩
            have hat := fit_at (L := L) (n := os2.length) HM2.out.keys (List.mem_map.2 ⟨o2, HMO.out, rfl⟩) HKO.out
            rw [← ha3] at hat
            obtain ⟨k3, hk3⟩ : ∃ k3, Room.idx (Room.isK f g.ep g.id) (aOf os3) = k3 := ⟨_, rfl⟩
            rw [hk3] at hat
            have hl3 : k3 < os3.length := by have := hat.1; rwa [aOf_len] at this
            have hm3 : o2 ∈ os3 := by
              have h1 : os3[k3].a = o2.a := by
                have h2 := hat.2
                rw [show aOf os3 = os3.map OB.a from rfl, List.getElem?_map, List.getElem?_eq_getElem hl3] at h2
                exact Option.some.inj h2
              have h4 : os3[k3] = o2 := one_key' HM2.out.keys (hs3.subset (List.getElem_mem _)) HMO.out h1
              rw [← h4]; exact List.getElem_mem _
            have hwh := whole_ok (hT5.obj o2 hm3) (by have h1 := HGM.out.2.2.2.1; have h2 := HCO.out; omega) (by have h1 := HGM.out.2.2.1; have h2 := HCO.out; omega) (by have h1 := HM2.out.sz _ (List.mem_map.2 ⟨o2, HMO.out, rfl⟩); have h2 := HLM.out.b2; omega)
            rw [HPO.out] at hwh
            have hl3' : os3.length ≤ 140737488355328 := by have h1 := hs3.length_le; have h2 := HM2.out.ln; rw [aOf_len] at h2; have h3 := HLM.out.o2; omega
            have HX9e := Aside0.mk ((hf5.block _ (blk_lt HX9d.out) (fun e => by have h1 := HO4.out _ e; have h2 := HSV.out; rcases h1 with h1 | h1; (have := HTL.out _ h1; omega); omega)).trans HX9d.out)
            have HF5 : Aside0 (Fr own W w5) := ⟨HF4.out.then_ hf5 (fun q hq h => (HO4.out q h).resolve_right (by have := HSV.out; omega))⟩
            have HT5 := Aside0.mk hT5
            have HWH := Aside0.mk hwh
            have HA3 := Aside0.mk ha3
            have HK3 := Aside0.mk hk3
            have HL3 := Aside0.mk hl3
            have HL3' := Aside0.mk hl3'
            have HO5 : Aside0 (∀ q, (own q ∨ w3.heap.size ≤ q ∧ q < w4.heap.size) → own q ∨ W.heap.size ≤ q) := ⟨fun q hq => (HO4.out q hq).imp id (fun h => by have := HSV.out; omega)⟩
            have HFIN := Aside0.mk (fin_eq (L := L) HM2.out.keys (List.mem_map.2 ⟨o2, HMO.out, rfl⟩) HKO.out)
            have HL2a : Aside0 ((aOf os2).length = os2.length) := ⟨aOf_len _⟩
            clear hf5 hT5 hs3 ha3 hk3 hl3 hl3' hm3 hwh hat z0 z1 z2
            go_wp2_with fail
            refine HWH.out.mono ?_
            rintro e6 w6 ⟨hb6, (⟨hne, rfl⟩ | ⟨heq, v, rfl, hR⟩)⟩
            · have HB6 := Aside0.mk hb6
              have HNE := Aside0.mk hne
              clear hb6 hne
              go_wp2_with fail
              go_ret3
              refine put_none' (os' := os3) ?_ (HF5.out.then_ (Fr.of_below (own := fun _ => False) HB6.out) (fun _ _ h => h.elim)) (HT5.out.below HB6.out) HO5.out
              rw [HRP.out, ← HA2.out, HFIN.out, if_neg (by have h1 := HNE.out; omega), HL2a.out, ← HA3.out]
            · obtain ⟨A6, c6, rfl, hl6, hC6⟩ := Kd.R_reads hR
              have hR6 := Aside0.mk hR
              have HB6 := Aside0.mk hb6
              have HEQ := Aside0.mk heq
              have HT6 := Aside0.mk (HT5.out.below hb6)
              have HX9f := Aside0.mk ((hb6.block _ (blk_lt HX9e.out)).trans HX9e.out)
              obtain ⟨z0, z1, z2⟩ := box3c HX9f.out
              have hfi := find_calls HT6.out f g.ep g.id
              have hix : Room.ixI (Room.isK f g.ep g.id) (os3.map OB.a) = (k3 : Int) := by
                unfold Room.ixI
                rw [show os3.map OB.a = aOf os3 from rfl, HK3.out, aOf_len, if_pos HL3.out]
              rw [hix] at hfi
              have HFI := Aside0.mk hfi
              have HL6 := Aside0.mk hl6
              clear hb6 heq hfi hix hl6 hC6 hR
              go_wp2_with fail
              refine HFI.out.mono ?_
              rintro e7 w7 ⟨rfl, hb7⟩
              have HB7 := Aside0.mk hb7
              have HDR := Aside0.mk (drop_calls (HT6.out.below hb7) k3 HL3.out HL3'.out)
              clear hb7 z0 z1 z2
              go_wp2_with fail
              refine HDR.out.mono ?_
              rintro e8 w8 ⟨rfl, hf8, hT8⟩
              have HF8 := Aside0.mk hf8
              have HT8 := Aside0.mk hT8
              clear hf8 hT8
              go_wp2_with fail
              go_ret3
              have hR7 := Kd.R_below hR6.out HB7.out
              have hR8 := Kd.R_step (Kd.R_bound hR7) (fun q hq hlt => HF8.out.block q hlt (fun e => by have h1 := HT5.out.lt q e; have h2 := hq.2.1; omega))
              refine put_yes (os' := os3.eraseIdx k3) ?_ (((HF5.out.then_ (Fr.of_below (own := fun _ => False) HB6.out) (fun _ _ h => h.elim)).then_ (Fr.of_below (own := fun _ => False) HB7.out) (fun _ _ h => h.elim)).then_ HF8.out (fun q hq h => (HO5.out q h).resolve_right (by omega))) HT8.out HO5.out HL6.out (Kd.R_reads' hR8).2.2
              rw [HRP.out, ← HA2.out, HFIN.out, if_pos HEQ.out, aOf_eraseIdx, HL2a.out, ← HA3.out, HK3.out]
  · have hix : Room.ixI (Room.isK f g.ep g.id) (os.map OB.a) = -1 := by
      unfold Room.ixI
      rw [show os.map OB.a = aOf os from rfl, hk, aOf_len, if_neg hlt]
    rw [hix]
    have hyn : (aOf os)[k]? = none := List.getElem?_eq_none_iff.2 (by rw [aOf_len]; omega)
    have HYN := Aside0.mk hyn
    clear hix hk hyn
    by_cases hge : g.cnt ≤ g.ix
    · have hwn : whyNot L none g = 1 := by unfold whyNot; rw [if_pos hge]
      have HWN := Aside0.mk hwn
      have HGE := Aside0.mk hge
      have hgl : ¬ (g.ix < g.cnt) := by omega
      clear hwn
      have hre := refused_none HT1.out HSM.out kd g HGM.out A cp
      rw [HWN.out] at hre
      have HRE := Aside0.mk hre
      clear hre
      go_wp2_with fail
      refine HRE.out.mono ?_
      rintro e3 w3 ⟨rfl, hb3⟩
      clear v0 v1 v2 v3 v4 v5 v6
      have HX5c := Aside0.mk ((hb3.block _ (blk_lt HX5.out)).trans HX5.out)
      have HX9c := Aside0.mk ((hb3.block _ (blk_lt HX9.out)).trans HX9.out)
      have HB1c := Aside0.mk (below_then HB1.out HB1.out.size hb3)
      have HT1c := Aside0.mk (HT1.out.below hb3)
      obtain ⟨v0, v1, v2, v3, v4, v5, v6⟩ := box7c HX5c.out
      clear hb3
      go_wp2_with fail
      go_ret3
      exact put_none (os' := os) (by unfold Room.put; simp only [HK.out, HYN.out]; rw [if_pos HGE.out]) (Fr.of_below HB1c.out) HT1c.out
    · have hgl : g.ix < g.cnt := by omega
      have HGL := Aside0.mk hgl
      have HTH := Aside0.mk (there_none t w1 kd g A cp)
      clear hge
      go_wp2_with fail
      refine HTH.out.mono ?_
      rintro e2 w2 ⟨rfl, hb2⟩
      clear v0 v1 v2 v3 v4 v5 v6
      have HX5b := Aside0.mk ((hb2.block _ (blk_lt HX5.out)).trans HX5.out)
      have HX9b := Aside0.mk ((hb2.block _ (blk_lt HX9.out)).trans HX9.out)
      have HB1b := Aside0.mk (below_then HB1.out HB1.out.size hb2)
      have HT1b := Aside0.mk (HT1.out.below hb2)
      obtain ⟨v0, v1, v2, v3, v4, v5, v6⟩ := box7c HX5b.out
      clear hb2
      by_cases hsz : 0 > L.by_ - (g.body.length : Int)
      · have hwn : whyNot L none g = 10 := by unfold whyNot; rw [if_neg (by omega)]; simp only [if_pos hsz]
        have HWN := Aside0.mk hwn
        have HSZ := Aside0.mk hsz
        clear hwn hsz
        have hre := refused_none HT1b.out HSM.out kd g HGM.out A cp
        rw [HWN.out] at hre
        have HRE := Aside0.mk hre
        clear hre
        go_wp2_with fail
        refine HRE.out.mono ?_
        rintro e3 w3 ⟨rfl, hb3⟩
        clear v0 v1 v2 v3 v4 v5 v6
        have HX5c := Aside0.mk ((hb3.block _ (blk_lt HX5b.out)).trans HX5b.out)
        have HX9c := Aside0.mk ((hb3.block _ (blk_lt HX9b.out)).trans HX9b.out)
        have HB1c := Aside0.mk (below_then HB1b.out HB1b.out.size hb3)
        have HT1c := Aside0.mk (HT1b.out.below hb3)
        obtain ⟨v0, v1, v2, v3, v4, v5, v6⟩ := box7c HX5c.out
        clear hb3
        go_wp2_with fail
        go_ret3
        exact put_none (os' := os) (by unfold Room.put; simp only [HK.out, HYN.out]; rw [if_neg (by have := HGL.out; omega), if_pos HSZ.out]) (Fr.of_below HB1c.out) HT1c.out
      · have hwn : whyNot L none g = 0 := by unfold whyNot; rw [if_neg (by omega)]; simp only [if_neg hsz]
        have HWN := Aside0.mk hwn
        have HSZ := Aside0.mk hsz
        clear hwn hsz
        have hre := refused_none HT1b.out HSM.out kd g HGM.out A cp
        rw [HWN.out] at hre
        have HRE := Aside0.mk hre
        clear hre
        go_wp2_with fail
        refine HRE.out.mono ?_
        rintro e3 w3 ⟨rfl, hb3⟩
        clear v0 v1 v2 v3 v4 v5 v6
        have HX5c := Aside0.mk ((hb3.block _ (blk_lt HX5b.out)).trans HX5b.out)
        have HX9c := Aside0.mk ((hb3.block _ (blk_lt HX9b.out)).trans HX9b.out)
        have HB1c := Aside0.mk (below_then HB1b.out HB1b.out.size hb3)
        have HT1c := Aside0.mk (HT1b.out.below hb3)
        obtain ⟨v0, v1, v2, v3, v4, v5, v6⟩ := box7c HX5c.out
        clear hb3
        have HBE := Aside0.mk (begin_calls HT1c.out HSM.out f kd g HGM.out (by have h1 := HGL.out; have h2 := HGM.out.1; omega) A cp HLM.out.o1)
        obtain ⟨s0, s1, s2⟩ := box3c HX9c.out
        go_wp2_with fail
        refine HBE.out.mono ?_
        rintro e4 wt ⟨os1, hTT, haT, h1T, rfl, hfT⟩
        clear s0 s1 s2 v0 v1 v2 v3 v4 v5 v6
        have hxx5 := (hfT.block _ (blk_lt HX5c.out) (fun e => by have := HTL.out _ e; omega)).trans HX5c.out
        have hxx9 := (hfT.block _ (blk_lt HX9c.out) (fun e => by have := HTL.out _ e; omega)).trans HX9c.out
        obtain ⟨v0, v1, v2, v3, v4, v5, v6⟩ := box7c hxx5
        obtain ⟨k1, hk1⟩ : ∃ k1 : Nat, os1.length = k1 + 1 := ⟨os1.length - 1, by omega⟩
        have hlt1 : k1 < os1.length := by omega
        obtain ⟨y1, hy1⟩ : ∃ y1, os1[k1] = y1 := ⟨_, rfl⟩
        have hya1 : y1.a = ⟨f, g.ep, g.id, g.cnt, g.ver, 0, []⟩ := by
          have h1 : (aOf os1)[k1]? = some y1.a := by
            show (os1.map OB.a)[k1]? = _
            rw [List.getElem?_map, List.getElem?_eq_getElem hlt1, hy1]; rfl
          have h2 := beg_last haT (by rw [aOf_len]; exact hk1)
          rw [h1] at h2
          exact Option.some.inj h2
        rw [show ((os1.length : Int) - 1) = (k1 : Int) by omega]
        have HXX5 := Aside0.mk hxx5
        have HXX9 := Aside0.mk hxx9
        have HTT := Aside0.mk hTT
        have HLT1 := Aside0.mk hlt1
        have HY1 := Aside0.mk hy1
        have HYA1 := Aside0.mk hya1
        have HCT : Aside0 (y1.a.cnt = g.cnt) := ⟨by rw [hya1]⟩
        have HNH : Aside0 (Room.has y1.a.ps g.ix = false) := ⟨by rw [hya1]; rfl⟩
        have HSZ1 : Aside0 (Room.size y1.a.ps ≤ L.by_ - g.body.length) := ⟨by rw [hya1]; show (0 : Int) ≤ _; have := HSZ.out; omega⟩
        have HK1 : Aside0 (Room.isK f g.ep g.id y1.a = true) := ⟨by rw [hya1]; exact Room.isK_iff.2 ⟨rfl, rfl, rfl⟩⟩
        have hset : (aOf os1).set k1 { y1.a with ps := y1.a.ps ++ [(g.ix, g.body)] } = begA L (aOf os) ⟨f, g.ep, g.id, g.cnt, g.ver, 0, [(g.ix, g.body)]⟩ := by
          rw [beg_set haT (by rw [aOf_len]; exact hk1), hya1]; rfl
        have HM : Aside0 (Mid L ((aOf os1).set k1 { y1.a with ps := y1.a.ps ++ [(g.ix, g.body)] })) := ⟨by
          rw [hset]
          refine HI.out.toMid.beg HLM.out (fun x hx e => ?_) ?_ ⟨by have h1 := HGL.out; have h2 := HGM.out.1; show 1 ≤ g.cnt; omega, HGM.out.2.2.2.1⟩
          · have h1 := no_key (f := f) (e := g.ep) (i := g.id) (by rw [HK.out]; exact HYN.out) x hx
            have h2 : Room.isK f g.ep g.id x = true := isK_key.2 e
            rw [h1] at h2; cases h2
          · show Room.size ([] ++ [(g.ix, g.body)]) ≤ L.by_
            rw [Room.size_snoc]
            have h1 : Room.size [] = 0 := rfl
            have := HSZ.out
            omega⟩
        have HOW : Aside0 (∀ q, (own q ∨ w3.heap.size ≤ q ∧ q < wt.heap.size) → own q ∨ V.heap.size ≤ q) := ⟨fun q h => h.imp id (fun h => by have h1 := HB1c.out.size; have h2 := HSV.out; have h3 := blk_lt HX9c.out; omega)⟩
        have HFR : Aside0 (Fr own W wt) := ⟨(Fr.of_below (own := own) HB1c.out).then_ hfT (fun q _ hq => hq)⟩
        have HRP : Aside0 (Room.put L (aOf os) f g = ((Room.fin L f g.ep g.id ((aOf os1).set k1 { y1.a with ps := y1.a.ps ++ [(g.ix, g.body)] })).1, (Room.fin L f g.ep g.id ((aOf os1).set k1 { y1.a with ps := y1.a.ps ++ [(g.ix, g.body)] })).2.1, (Room.fin L f g.ep g.id ((aOf os1).set k1 { y1.a with ps := y1.a.ps ++ [(g.ix, g.body)] })).2.2, 0)) := ⟨by
          rw [hset]
          unfold Room.put
          simp only [HK.out, HYN.out]
          rw [if_neg (by have := HGL.out; omega), if_neg (show ¬ 0 > L.by_ - (g.body.length : Int) by have := HSZ.out; omega)]
          rfl⟩
        have HVW : Aside0 (V.heap.size ≤ wt.heap.size) := ⟨by have h2 := HSV.out; have h3 := blk_lt hxx9; omega⟩
        clear hTT haT h1T hfT hxx5 hxx9 hk1 hy1 hya1 hset
        have hwx : wrap64 g.ix = g.ix := by have := HGM.out; unfold Gm at this; unfold wrap64; omega
        obtain ⟨A1, c1, j0, j1, j2, j3, j4, hl1, hC1⟩ := HTT.out.reads
        obtain ⟨ad, e1, _, _, _, _, _, _, hx6⟩ := at7 hC1 (k1 : Int) (by omega) (by have := HLT1.out; omega)
        cases e1
        simp only [Int.toNat_natCast] at hx6
        rw [rd7_eq HLT1.out, HY1.out] at hx6
        have p0 : (0 ≤ (k1 : Int)) = True := eq_true (by omega)
        have p1 : ((k1 : Int) < (os1.length : Int)) = True := eq_true (by have := HLT1.out; omega)
        have hmem : y1 ∈ os1 := by rw [← HY1.out]; exact List.getElem_mem _
        have hadd := add_ok (HTT.out.obj y1 hmem) g.ix (by have := HGM.out; exact this.1) (by have h1 := HGL.out; have h2 := HCT.out; omega) (by have h1 := HGM.out.2.2.2.1; have h2 := HCT.out; omega) HNH.out A cp g.body HCP.out (fun U hU => HBD.out U (HFR.out.then_ hU (fun q hq h => (HOW.out q (HTT.out.own_of hmem q h)).resolve_right (by have := HSV.out; omega)))) (by have := HGM.out.2.2.2.2; omega) (by have h1 := HSZ1.out; have h2 := HLM.out.b2; omega)
        have HADD := Aside0.mk hadd
        have HMEM := Aside0.mk hmem
        clear hadd hmem hC1 j0 j1 j2 j3 hl1
        go_wp2_with fail
        refine HADD.out.mono ?_
        rintro e4 w4 ⟨rfl, hf4, hPA4⟩
        have hT4 := HTT.out.set (W' := w4) (ps := y1.a.ps ++ [(g.ix, g.body)]) HLT1.out
        rw [HY1.out] at hT4
        replace hT4 := hT4 hf4 hPA4
        obtain ⟨o2, ho2⟩ : ∃ o2, upd y1 (y1.a.ps ++ [(g.ix, g.body)]) wt.heap.size w4.heap.size = o2 := ⟨_, rfl⟩
        obtain ⟨os2, hos2⟩ : ∃ os2, os1.set k1 o2 = os2 := ⟨_, rfl⟩
        rw [ho2, hos2] at hT4
        have ha2 : aOf os2 = (aOf os1).set k1 { y1.a with ps := y1.a.ps ++ [(g.ix, g.body)] } := by rw [← hos2, aOf_set, ← ho2]; rfl
        have hm2 : Mid L (aOf os2) := by rw [ha2]; exact HM.out
        have hl2 : os2.length = os1.length := by rw [← hos2, List.length_set]
        have hmo : o2 ∈ os2 := by rw [← hos2]; exact List.mem_set HLT1.out o2
        have hko : Room.isK f g.ep g.id o2.a = true := by rw [← ho2]; exact HK1.out
        have hpo : o2.p = y1.p := by rw [← ho2]; rfl
        have hco : o2.a.cnt = g.cnt := by rw [← ho2]; exact HCT.out
        have hx9 := (hf4.block _ (blk_lt HXX9.out) (fun e => by have h1 := HOW.out _ (HTT.out.own_of HMEM.out _ e); have h2 := HSV.out; rcases h1 with h1 | h1; (have := HTL.out _ h1; omega); omega)).trans HXX9.out
        have hs2 : Sm L os2 := ⟨by have h1 := hm2.ln; have h2 := HLM.out.o2; rw [aOf_len] at h1; omega, by
          have h1 := held_le hm2.sz
          have h2 := hm2.ln
          have h3 := HLM.out.o2
          have h4 := HLM.out.b2
          have h5 : ((aOf os2).length : Int) * L.by_ ≤ 16 * 65536 := Int.mul_le_mul (by omega) h4 (by have := HLM.out.b1; omega) (by omega)
          omega, ⟨by have := HLM.out.b1; omega, HLM.out.b2⟩, fun o ho => hm2.ct o.a (List.mem_map.2 ⟨o, ho, rfl⟩)⟩
        have HFIT := Aside0.mk (fit_calls hT4 hs2 f g.ep g.id (hm2.fits HLM.out f g.ep g.id))
        have HF4 : Aside0 (Fr own W w4) := ⟨HFR.out.then_ hf4 (fun q hq h => (HOW.out q (HTT.out.own_of HMEM.out q h)).resolve_right (by have := HSV.out; omega))⟩
        have HO4 : Aside0 (∀ q, ((fun q => own q ∨ w3.heap.size ≤ q ∧ q < wt.heap.size) q ∨ wt.heap.size ≤ q ∧ q < w4.heap.size) → own q ∨ V.heap.size ≤ q) := ⟨fun q hq => by
          rcases hq with hq | hq
          · exact HOW.out q hq
          · have h1 := HVW.out
            exact .inr (by omega)⟩
        have HX9d := Aside0.mk hx9
        have HA2 := Aside0.mk ha2
        have HM2 := Aside0.mk hm2
        have HL2 := Aside0.mk hl2
        have HMO := Aside0.mk hmo
        have HKO := Aside0.mk hko
        have HPO := Aside0.mk hpo
        have HCO := Aside0.mk hco
        have HPS2 : Aside0 (o2.a.ps = y1.a.ps ++ [(g.ix, g.body)]) := ⟨by rw [← ho2]; rfl⟩
        have HLW : Aside0 (wt.heap.size ≤ w4.heap.size) := ⟨hf4.size⟩
        have HXL : Aside0 (W.heap.size + 1 < wt.heap.size) := ⟨blk_lt HXX9.out⟩
        obtain ⟨z0, z1, z2⟩ := box3c hx9
        clear hf4 hPA4 hT4 ho2 hos2 ha2 hm2 hl2 hmo hko hpo hco hx9 hs2 hx6 j4 v0 v1 v2 v3 v4 v5 v6 p0 p1
        go_wp2_with fail
        refine HFIT.out.mono ?_
        rintro e5 w5 ⟨rfl, hf5, os3, hs3, ha3, hT5⟩
        have hat := fit_at (L := L) (n := os2.length) HM2.out.keys (List.mem_map.2 ⟨o2, HMO.out, rfl⟩) HKO.out
        rw [← ha3] at hat
        obtain ⟨k3, hk3⟩ : ∃ k3, Room.idx (Room.isK f g.ep g.id) (aOf os3) = k3 := ⟨_, rfl⟩
        rw [hk3] at hat
        have hl3 : k3 < os3.length := by have := hat.1; rwa [aOf_len] at this
        have hm3 : o2 ∈ os3 := by
          have h1 : os3[k3].a = o2.a := by
            have h2 := hat.2
            rw [show aOf os3 = os3.map OB.a from rfl, List.getElem?_map, List.getElem?_eq_getElem hl3] at h2
            exact Option.some.inj h2
          have h4 : os3[k3] = o2 := one_key' HM2.out.keys (hs3.subset (List.getElem_mem _)) HMO.out h1
          rw [← h4]; exact List.getElem_mem _
        have hwh := whole_ok (hT5.obj o2 hm3) (by have h1 := HGM.out.2.2.2.1; have h2 := HCO.out; omega) (by have h1 := HGM.out.2.2.1; have h2 := HCO.out; omega) (by have h1 := HM2.out.sz _ (List.mem_map.2 ⟨o2, HMO.out, rfl⟩); have h2 := HLM.out.b2; omega)
        rw [HPO.out] at hwh
        have hl3' : os3.length ≤ 140737488355328 := by have h1 := hs3.length_le; have h2 := HM2.out.ln; rw [aOf_len] at h2; have h3 := HLM.out.o2; omega
        have HX9e := Aside0.mk ((hf5.block _ (blk_lt HX9d.out) (fun e => by have h1 := HO4.out _ e; have h2 := HSV.out; rcases h1 with h1 | h1; (have := HTL.out _ h1; omega); omega)).trans HX9d.out)
        have HF5 : Aside0 (Fr own W w5) := ⟨HF4.out.then_ hf5 (fun q hq h => (HO4.out q h).resolve_right (by have := HSV.out; omega))⟩
        have HT5 := Aside0.mk hT5
        have HWH := Aside0.mk hwh
        have HA3 := Aside0.mk ha3
        have HK3 := Aside0.mk hk3
        have HL3 := Aside0.mk hl3
        have HL3' := Aside0.mk hl3'
        have HO5 : Aside0 (∀ q, ((fun q => own q ∨ w3.heap.size ≤ q ∧ q < wt.heap.size) q ∨ wt.heap.size ≤ q ∧ q < w4.heap.size) → own q ∨ W.heap.size ≤ q) := ⟨fun q hq => (HO4.out q hq).imp id (fun h => by have := HSV.out; omega)⟩
        have HFIN := Aside0.mk (fin_eq (L := L) HM2.out.keys (List.mem_map.2 ⟨o2, HMO.out, rfl⟩) HKO.out)
        have HL2a : Aside0 ((aOf os2).length = os2.length) := ⟨aOf_len _⟩
        clear hf5 hT5 hs3 ha3 hk3 hl3 hl3' hm3 hwh hat z0 z1 z2
        go_wp2_with fail
        refine HWH.out.mono ?_
        rintro e6 w6 ⟨hb6, (⟨hne, rfl⟩ | ⟨heq, v, rfl, hR⟩)⟩
        · have HB6 := Aside0.mk hb6
          have HNE := Aside0.mk hne
          clear hb6 hne
          go_wp2_with fail
          go_ret3
          refine put_none' (os' := os3) ?_ (HF5.out.then_ (Fr.of_below (own := fun _ => False) HB6.out) (fun _ _ h => h.elim)) (HT5.out.below HB6.out) HO5.out
          rw [HRP.out, ← HA2.out, HFIN.out, if_neg (by have h1 := HNE.out; omega), HL2a.out, ← HA3.out]
        · obtain ⟨A6, c6, rfl, hl6, hC6⟩ := Kd.R_reads hR
          have hR6 := Aside0.mk hR
          have HB6 := Aside0.mk hb6
          have HEQ := Aside0.mk heq
          have HT6 := Aside0.mk (HT5.out.below hb6)
          have HX9f := Aside0.mk ((hb6.block _ (blk_lt HX9e.out)).trans HX9e.out)
          obtain ⟨z0, z1, z2⟩ := box3c HX9f.out
          have hfi := find_calls HT6.out f g.ep g.id
          have hix : Room.ixI (Room.isK f g.ep g.id) (os3.map OB.a) = (k3 : Int) := by
            unfold Room.ixI
            rw [show os3.map OB.a = aOf os3 from rfl, HK3.out, aOf_len, if_pos HL3.out]
          rw [hix] at hfi
          have HFI := Aside0.mk hfi
          have HL6 := Aside0.mk hl6
          clear hb6 heq hfi hix hl6 hC6 hR
          go_wp2_with fail
          refine HFI.out.mono ?_
          rintro e7 w7 ⟨rfl, hb7⟩
          have HB7 := Aside0.mk hb7
          have HDR := Aside0.mk (drop_calls (HT6.out.below hb7) k3 HL3.out HL3'.out)
          clear hb7 z0 z1 z2
          go_wp2_with fail
          refine HDR.out.mono ?_
          rintro e8 w8 ⟨rfl, hf8, hT8⟩
          have HF8 := Aside0.mk hf8
          have HT8 := Aside0.mk hT8
          clear hf8 hT8
          go_wp2_with fail
          go_ret3
          have hR7 := Kd.R_below hR6.out HB7.out
          have hR8 := Kd.R_step (Kd.R_bound hR7) (fun q hq hlt => HF8.out.block q hlt (fun e => by have h1 := HT5.out.lt q e; have h2 := hq.2.1; omega))
          refine put_yes (os' := os3.eraseIdx k3) ?_ (((HF5.out.then_ (Fr.of_below (own := fun _ => False) HB6.out) (fun _ _ h => h.elim)).then_ (Fr.of_below (own := fun _ => False) HB7.out) (fun _ _ h => h.elim)).then_ HF8.out (fun q hq h => (HO5.out q h).resolve_right (by omega))) HT8.out HO5.out HL6.out (Kd.R_reads' hR8).2.2
          rw [HRP.out, ← HA2.out, HFIN.out, if_pos HEQ.out, aOf_eraseIdx, HL2a.out, ← HA3.out, HK3.out]
end Go.Proofs.Ytaeelmkpjgmdlaa.H
