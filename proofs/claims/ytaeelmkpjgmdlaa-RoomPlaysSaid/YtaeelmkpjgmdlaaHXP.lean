/- Mine. Chapter 22, by hand: the reference's Put. -/
import Derived.Test.YtaeelmkpjgmdlaaHXC
import Derived.Deep.DeepCutAuto
namespace Go.Proofs.Ytaeelmkpjgmdlaa.H
open Go Go.Proofs Go.RowKit Go.Lib Go.Proofs.Ytaeelmkpjgmdlaa.P Go.Proofs.YtaeelmkpjgmdlaaW.PrintWords Go.Proofs.YtaeelmkpjgmdlaaW.PrintLast Go.Proofs.YtaeelmkpjgmdlaaW.PrintMore Go.Proofs.YtaeelmkpjgmdlaaW.PrintFlat
set_option linter.unusedVariables false
set_option linter.unusedSimpArgs false
def XPutP (own : Nat → Prop) (x : Nat) (L : Room.Lim) (r : List Room.OA × List Int × Bool × Int) (W : World) (e' : Ending) (w' : World) : Prop :=
  Fr own W w' ∧ ∃ own' os', XS own' x L os' w' ∧ (∀ q, own' q → own q ∨ W.heap.size ≤ q) ∧ aOf os' = r.1 ∧ e' = .returned (.tuple #[.string (strOfNums r.2.1), .bool r.2.2.1, .int .i64 r.2.2.2])
theorem hold_ {p : Prop} (h : True → p) : p := h trivial
theorem Sto.cell {w w1 : World} {g : Nat} {p : Addr} {v : Value} (h : Sto w w1 g) (hv : w.cell? p = some v) (hn : p.block ≠ g) : w1.cell? p = some v := by
  rw [World.cell?_of_block (h.far p.block hn)]; exact hv
theorem xput_end {own own' : Nat → Prop} {x : Nat} {L : Room.Lim} {os' : List OB} {r : List Room.OA × List Int × Bool × Int} {W w' : World} {c : Int} {ok : Bool} {bs : List Int} (hr : r = (aOf os', bs, ok, c)) (hf : Fr own W w') (h : XS own' x L os' w') (ho : ∀ q, own' q → own q ∨ W.heap.size ≤ q) : XPutP own x L r W (.returned (.tuple #[.string (strOfNums bs), .bool ok, .int .i64 c])) w' := by
  subst hr
  exact ⟨hf, own', os', h, ho, rfl, rfl⟩
theorem xput_none {own own' : Nat → Prop} {x : Nat} {L : Room.Lim} {os' : List OB} {r : List Room.OA × List Int × Bool × Int} {W w' : World} {c : Int} (hr : r = (aOf os', [], false, c)) (hf : Fr own W w') (h : XS own' x L os' w') (ho : ∀ q, own' q → own q ∨ W.heap.size ≤ q) : XPutP own x L r W (.returned (.tuple #[.string ⟨#[]⟩, .bool false, .int .i64 c])) w' := by
  subst hr
  exact ⟨hf, own', os', h, ho, rfl, rfl⟩
/-- The message that Put fills: y, in the box z; the packet in the box W.heap.size. -/
structure OneS (own : Nat → Prop) (x : Nat) (L : Room.Lim) (os : List OB) (f : Int) (g : Room.GA) (k : Nat) (W : World) (gv : Array Value) (z : Nat) (y : OB) (w : World) : Prop where
  xs : XS own x L os w
  fr : Below W.heap.size W w
  b5 : w.heap[W.heap.size]? = some (.cells gv 38 (0, 0))
  bo : w.heap[z]? = some (.cells #[.int .u16 y.a.fr, .int .u32 y.a.ep, .int .u32 y.a.id, .int .u16 y.a.cnt, .int .u8 y.a.ver, .int .i64 y.a.age, .pointer (some ⟨y.p, 0, none⟩)] 74 (0, 0))
  hz : W.heap.size < z
  ob : OPB y w
  ol : ∀ q, y.own q → q < w.heap.size ∧ q ≠ z ∧ q ≠ W.heap.size
  ca : (k < os.length ∧ os[k]? = some y) ∨ (os.length ≤ k ∧ y.a = ⟨f, g.ep, g.id, g.cnt, g.ver, 0, []⟩ ∧ ∀ q, y.own q → W.heap.size ≤ q)
theorem OneS.below {own : Nat → Prop} {x : Nat} {L : Room.Lim} {os : List OB} {f : Int} {g : Room.GA} {k : Nat} {W : World} {gv : Array Value} {z : Nat} {y : OB} {w w' : World} (h : OneS own x L os f g k W gv z y w) (hb : Below w.heap.size w w') : OneS own x L os f g k W gv z y w' :=
  ⟨h.xs.below hb, below_then h.fr h.fr.size hb, (hb.block _ (blk_lt h.b5)).trans h.b5, (hb.block _ (blk_lt h.bo)).trans h.bo, h.hz, OPB.fr y _ _ (fun _ => False) h.ob (Fr.of_below hb) (fun _ _ h => h), fun q hq => ⟨Nat.lt_of_lt_of_le (h.ol q hq).1 hb.size, (h.ol q hq).2⟩, h.ca⟩
theorem OneS.get {own : Nat → Prop} {x : Nat} {L : Room.Lim} {os : List OB} {f : Int} {g : Room.GA} {k : Nat} {W : World} {gv : Array Value} {z : Nat} {y : OB} {w : World} (h : OneS own x L os f g k W gv z y w) : (aOf os)[k]? = some y.a ∨ ((aOf os)[k]? = none ∧ os.length ≤ k ∧ y.a = ⟨f, g.ep, g.id, g.cnt, g.ver, 0, []⟩) := by
  rcases h.ca with ⟨h1, h2⟩ | ⟨h1, h2, _⟩
  · left
    show (os.map OB.a)[k]? = _
    rw [List.getElem?_map, h2]; rfl
  · right
    exact ⟨List.getElem?_eq_none (by rw [aOf_len]; exact h1), h1, h2⟩
/-- The table, a message less where it was full, ahead of the new one. -/
structure NewS (own : Nat → Prop) (x : Nat) (L : Room.Lim) (os : List OB) (W : World) (gv : Array Value) (z : Nat) (y : OB) (own1 : Nat → Prop) (os1 : List OB) (w : World) : Prop where
  xs : XS own1 x L os1 w
  fr : Fr own W w
  ow : ∀ q, own1 q → own q ∨ W.heap.size ≤ q
  b5 : w.heap[W.heap.size]? = some (.cells gv 38 (0, 0))
  bo : w.heap[z]? = some (.cells #[.int .u16 y.a.fr, .int .u32 y.a.ep, .int .u32 y.a.id, .int .u16 y.a.cnt, .int .u8 y.a.ver, .int .i64 y.a.age, .pointer (some ⟨y.p, 0, none⟩)] 74 (0, 0))
  hz : W.heap.size < z
  nz : ¬ own1 z ∧ ¬ own1 W.heap.size
  ob : OPB y w
  ol : ∀ q, y.own q → q < w.heap.size ∧ q ≠ z ∧ q ≠ W.heap.size ∧ ¬ own1 q ∧ W.heap.size ≤ q
  e1 : os1 = if (os.length : Int) ≥ L.op then os.eraseIdx 0 else os
theorem NewS.below {own : Nat → Prop} {x : Nat} {L : Room.Lim} {os : List OB} {W : World} {gv : Array Value} {z : Nat} {y : OB} {own1 : Nat → Prop} {os1 : List OB} {w w' : World} (h : NewS own x L os W gv z y own1 os1 w) (hb : Below w.heap.size w w') : NewS own x L os W gv z y own1 os1 w' :=
  ⟨h.xs.below hb, h.fr.then_ (Fr.of_below (own := fun _ => False) hb) (fun _ _ h => h.elim), h.ow, (hb.block _ (blk_lt h.b5)).trans h.b5, (hb.block _ (blk_lt h.bo)).trans h.bo, h.hz, h.nz, OPB.fr y _ _ (fun _ => False) h.ob (Fr.of_below hb) (fun _ _ h => h), fun q hq => ⟨Nat.lt_of_lt_of_le (h.ol q hq).1 hb.size, (h.ol q hq).2⟩, h.e1⟩
/-- The table with the message that is filled. -/
structure TwoS (own : Nat → Prop) (x : Nat) (L : Room.Lim) (os : List OB) (f : Int) (g : Room.GA) (W : World) (gv : Array Value) (z : Nat) (y : OB) (own1 : Nat → Prop) (os1 : List OB) (k1 : Nat) (w : World) : Prop where
  xs : XS own1 x L os1 w
  fr : Fr own W w
  ow : ∀ q, own1 q → own q ∨ W.heap.size ≤ q
  b5 : w.heap[W.heap.size]? = some (.cells gv 38 (0, 0))
  bo : w.heap[z]? = some (.cells #[.int .u16 y.a.fr, .int .u32 y.a.ep, .int .u32 y.a.id, .int .u16 y.a.cnt, .int .u8 y.a.ver, .int .i64 y.a.age, .pointer (some ⟨y.p, 0, none⟩)] 74 (0, 0))
  hz : W.heap.size < z
  nz : ¬ own1 z ∧ ¬ own1 W.heap.size
  at_ : os1[k1]? = some y
  mi : Mid L ((aOf os1).set k1 { y.a with ps := y.a.ps ++ [(g.ix, g.body)] })
  pt : Room.put L (aOf os) f g = ((Room.fin L f g.ep g.id ((aOf os1).set k1 { y.a with ps := y.a.ps ++ [(g.ix, g.body)] })).1, (Room.fin L f g.ep g.id ((aOf os1).set k1 { y.a with ps := y.a.ps ++ [(g.ix, g.body)] })).2.1, (Room.fin L f g.ep g.id ((aOf os1).set k1 { y.a with ps := y.a.ps ++ [(g.ix, g.body)] })).2.2, 0)
theorem two_new {L : Room.Lim} {os os1 : List OB} {f : Int} {g : Room.GA} {k : Nat} {y : OB} (hl : LimOk L) (hi : RInv L (aOf os)) (hg : Gm g) (hgl : g.ix < g.cnt) (hK : Room.idx (Room.isK f g.ep g.id) (aOf os) = k) (hn : os.length ≤ k) (hya : y.a = ⟨f, g.ep, g.id, g.cnt, g.ver, 0, []⟩) (hsz : Room.size y.a.ps ≤ L.by_ - g.body.length) (e1 : os1 = if (os.length : Int) ≥ L.op then os.eraseIdx 0 else os) :
    Mid L ((aOf (os1 ++ [y])).set os1.length { y.a with ps := y.a.ps ++ [(g.ix, g.body)] }) ∧ Room.put L (aOf os) f g = ((Room.fin L f g.ep g.id ((aOf (os1 ++ [y])).set os1.length { y.a with ps := y.a.ps ++ [(g.ix, g.body)] })).1, (Room.fin L f g.ep g.id ((aOf (os1 ++ [y])).set os1.length { y.a with ps := y.a.ps ++ [(g.ix, g.body)] })).2.1, (Room.fin L f g.ep g.id ((aOf (os1 ++ [y])).set os1.length { y.a with ps := y.a.ps ++ [(g.ix, g.body)] })).2.2, 0) := by
  have hno : (aOf os)[k]? = none := List.getElem?_eq_none (by rw [aOf_len]; exact hn)
  have h1 : aOf (os1 ++ [y]) = begA L (aOf os) y.a := by
    unfold begA
    rw [aOf_app, aOf_len, e1]
    split
    · rw [aOf_eraseIdx]; rfl
    · rfl
  have hset : (aOf (os1 ++ [y])).set os1.length { y.a with ps := y.a.ps ++ [(g.ix, g.body)] } = begA L (aOf os) ⟨f, g.ep, g.id, g.cnt, g.ver, 0, [(g.ix, g.body)]⟩ := by
    rw [beg_set h1 (by rw [aOf_len, List.length_append]; rfl), hya]; rfl
  have h0 : Room.size y.a.ps = 0 := by rw [hya]; rfl
  rw [hset]
  refine ⟨?_, ?_⟩
  · refine hi.toMid.beg hl (fun x hx e => ?_) ?_ ⟨by have h1 := hgl; have h2 := hg.1; show 1 ≤ g.cnt; omega, hg.2.2.2.1⟩
    · have h1 := no_key (f := f) (e := g.ep) (i := g.id) (by rw [hK]; exact hno) x hx
      have h2 : Room.isK f g.ep g.id x = true := isK_key.2 e
      rw [h1] at h2; cases h2
    · show Room.size ([] ++ [(g.ix, g.body)]) ≤ L.by_
      rw [Room.size_snoc]
      have h1 : Room.size [] = 0 := rfl
      omega
  · unfold Room.put
    simp only [hK, hno]
    rw [if_neg (by omega), if_neg (show ¬ 0 > L.by_ - (g.body.length : Int) by omega)]
    rfl
structure RowS (x z : Nat) (v : Value) (y : OB) (V : World) : Prop where
  c3 : V.cell? ⟨x, 3, none⟩ = some v
  bo : V.heap[z]? = some (.cells #[.int .u16 y.a.fr, .int .u32 y.a.ep, .int .u32 y.a.id, .int .u16 y.a.cnt, .int .u8 y.a.ver, .int .i64 y.a.age, .pointer (some ⟨y.p, 0, none⟩)] 74 (0, 0))
theorem RowS.below {x z : Nat} {v : Value} {y : OB} {V V' : World} (h : RowS x z v y V) (hb : Below V.heap.size V V') : RowS x z v y V' := ⟨pw_cell_below hb h.c3, (hb.block _ (blk_lt h.bo)).trans h.bo⟩
theorem OPB.cells {o : OB} {W : World} (h : OPB o W) : ∃ cs, W.heap[o.p]? = some (.cells cs 87 (0, 0)) := by
  obtain ⟨oP, oB, vp, vb, h1, h2, h3, h4, _⟩ := h.rs
  exact ⟨_, h4⟩
/-- The loop: fewer messages, round for round. -/
structure LopR (own : Nat → Prop) (x : Nat) (L : Room.Lim) (os2 : List OB) (f : Int) (g : Room.GA) (W : World) (gv : Array Value) (z : Nat) (y o2 : OB) (ownr : Nat → Prop) (osr : List OB) (w : World) : Prop where
  xs : XS ownr x L osr w
  fr : Fr own W w
  ow : ∀ q, ownr q → own q ∨ W.heap.size ≤ q
  b5 : w.heap[W.heap.size]? = some (.cells gv 38 (0, 0))
  bo : w.heap[z]? = some (.cells #[.int .u16 y.a.fr, .int .u32 y.a.ep, .int .u32 y.a.id, .int .u16 y.a.cnt, .int .u8 y.a.ver, .int .i64 y.a.age, .pointer (some ⟨y.p, 0, none⟩)] 74 (0, 0))
  hz : W.heap.size < z
  nz : ¬ ownr z ∧ ¬ ownr W.heap.size
  su : osr.Sublist os2
  ft : Room.fit L f g.ep g.id osr.length (aOf osr) = Room.fit L f g.ep g.id os2.length (aOf os2)
  fi : Fits L f g.ep g.id (aOf osr)
  me : o2 ∈ osr
theorem LopR.below {own : Nat → Prop} {x : Nat} {L : Room.Lim} {os2 : List OB} {f : Int} {g : Room.GA} {W : World} {gv : Array Value} {z : Nat} {y o2 : OB} {ownr : Nat → Prop} {osr : List OB} {w w' : World} (h : LopR own x L os2 f g W gv z y o2 ownr osr w) (hb : Below w.heap.size w w') : LopR own x L os2 f g W gv z y o2 ownr osr w' :=
  ⟨h.xs.below hb, h.fr.then_ (Fr.of_below (own := fun _ => False) hb) (fun _ _ h => h.elim), h.ow, (hb.block _ (blk_lt h.b5)).trans h.b5, (hb.block _ (blk_lt h.bo)).trans h.bo, h.hz, h.nz, h.su, h.ft, h.fi, h.me⟩
theorem LopR.less {own : Nat → Prop} {x : Nat} {L : Room.Lim} {os2 : List OB} {f : Int} {g : Room.GA} {W : World} {gv : Array Value} {z : Nat} {y o2 : OB} {ownr : Nat → Prop} {osr : List OB} {w w' : World} {i : Nat} (h : LopR own x L os2 f g W gv z y o2 ownr osr w) (hi : Room.idx (fun o => !Room.isK f g.ep g.id o) (aOf osr) = i) (hh : Room.held (aOf osr) > L.by_) (hko : Room.isK f g.ep g.id o2.a = true)
    (hf : Fr ownr w w') (hX : XS (fun q => ownr q ∨ w.heap.size ≤ q ∧ q < w'.heap.size) x L (osr.eraseIdx i) w') : LopR own x L os2 f g W gv z y o2 (fun q => ownr q ∨ w.heap.size ≤ q ∧ q < w'.heap.size) (osr.eraseIdx i) w' := by
  have hlt := h.fi.some hh
  have hW := blk_lt h.b5
  have hz := blk_lt h.bo
  have hlt' : i < osr.length := by rw [← hi]; rw [aOf_len] at hlt; exact hlt
  have hfe := h.fi.erase hlt
  rw [hi] at hfe
  refine ⟨hX, h.fr.then_ hf (fun q hq e => (h.ow q e).resolve_right (by omega)), fun q hq => ?_, (hf.block _ hW h.nz.2).trans h.b5, (hf.block _ hz h.nz.1).trans h.bo, h.hz, ⟨fun e => e.elim h.nz.1 (fun e => by omega), fun e => e.elim h.nz.2 (fun e => by omega)⟩, (List.eraseIdx_sublist _ _).trans h.su, ?_, by rw [aOf_eraseIdx]; exact hfe, ?_⟩
  · rcases hq with hq | hq
    · exact h.ow q hq
    · exact .inr (by omega)
  · rw [← h.ft, aOf_eraseIdx, List.length_eraseIdx_of_lt hlt']
    obtain ⟨n, hn⟩ : ∃ n, osr.length = n + 1 := ⟨osr.length - 1, by omega⟩
    rw [hn, Nat.add_sub_cancel]
    conv => rhs; unfold Room.fit
    rw [if_pos hh, hi]
  · obtain ⟨j, hj, hjo⟩ := List.getElem_of_mem h.me
    refine List.mem_eraseIdx_iff_getElem?.2 ⟨j, fun e => ?_, by rw [List.getElem?_eq_getElem hj, hjo]⟩
    have h1 := Room.idx_hit hlt
    have h2 : (aOf osr)[Room.idx (fun o => !Room.isK f g.ep g.id o) (aOf osr)] = o2.a := by
      have h3 : (aOf osr)[j]? = some o2.a := by
        show (osr.map OB.a)[j]? = _
        rw [List.getElem?_map, List.getElem?_eq_getElem hj, hjo]; rfl
      rw [e, ← hi, List.getElem?_eq_getElem hlt] at h3
      exact Option.some.inj h3
    rw [h2] at h1
    simp [hko] at h1
/-- A part's home, new. -/
theorem PB.new {W : World} {z : Nat} {c : Int} (hz : W.heap[z]? = some (.cells #[.int .i64 c, .slice none 0 0, .slice none 0 0] 87 (0, 0))) : PB (fun q => q = z) z c [] W := by
  have hlt := blk_lt hz
  exact ⟨⟨fun _ => False, fun _ => False, _, _, fun _ h => h.elim, fun _ h => h.elim, rfl, hz, Kd.R_nil _ _ _ _ _, Kd.R_nil _ _ _ _ _, fun k hk => by rw [hk]; exact hlt⟩, rfl, List.nodup_nil, fun x hx => by simp at hx⟩
set_option maxHeartbeats 8000000 in
set_option maxRecDepth 100000 in
theorem xput_calls {own : Nat → Prop} {x : Nat} {L : Room.Lim} {os : List OB} {W : World} (h : XS own x L os W) (hl : LimOk L) (hi : RInv L (aOf os)) (f : Int) (kd : Int) (g : Room.GA) (hg : Gm g) (A : Option Addr) (cp : Nat) (hcp : g.body.length ≤ cp)
    (hbody : ∀ V, Fr own W V → Kd.C (Kd.int .u8) V A g.body.length g.body) :
    Calls Try.prog 14 #[.pointer (some ⟨x, 0, none⟩), .int .u16 f, .agg #[.int .u8 kd, .int .u8 g.ver, .int .u32 g.ep, .int .u32 g.id, .int .u16 g.ix, .int .u16 g.cnt, .slice A g.body.length cp]] W (XPutP own x L (Room.put L (aOf os) f g) W) := by
  obtain ⟨V, hV⟩ : ∃ V, (W.alloc (.cells #[.int .u8 kd, .int .u8 g.ver, .int .u32 g.ep, .int .u32 g.id, .int .u16 g.ix, .int .u16 g.cnt, .slice A g.body.length cp] 38)) = V := ⟨_, rfl⟩
  have hbV : Below W.heap.size W V := by rw [← hV]; exact below_alloc (Below.refl _ _) _
  have hx5 : V.heap[W.heap.size]? = some (.cells #[.int .u8 kd, .int .u8 g.ver, .int .u32 g.ep, .int .u32 g.id, .int .u16 g.ix, .int .u16 g.cnt, .slice A g.body.length cp] 38 (0, 0)) := by rw [← hV]; exact heap_alloc_new W _
  have hlen : os.length ≤ 1000 := by have h1 := hi.ln; have h2 := hl.o2; rw [aOf_len] at h1; omega
  have HI := Aside0.mk hi
  have HLM := Aside0.mk hl
  have HGM := Aside0.mk hg
  have HCP := Aside0.mk hcp
  have HBD := Aside0.mk hbody
  have HTL := Aside0.mk h.lt
  have HBV := Aside0.mk hbV
  have HXV := Aside0.mk (h.below hbV)
  have HX5 := Aside0.mk hx5
  have HLN := Aside0.mk hlen
  have HO0 : Aside0 (∀ q, own q → own q ∨ W.heap.size ≤ q) := ⟨fun q h => .inl h⟩
  obtain ⟨v0, v1, v2, v3, v4, v5, v6⟩ := box7c hx5
  clear h hl hi hg hcp hbody hbV hx5 hlen
  have hwc : wrap64 g.cnt = g.cnt := by have := HGM.out; unfold Gm at this; unfold wrap64; omega
  have hwx : wrap64 g.ix = g.ix := by have := HGM.out; unfold Gm at this; unfold wrap64; omega
  obtain ⟨k, hk⟩ : ∃ k, Room.idx (Room.isK f g.ep g.id) (aOf os) = k := ⟨_, rfl⟩
  have HK := Aside0.mk hk
  by_cases hge : g.cnt ≤ g.ix
  · have HGE := Aside0.mk hge
    have HPUT : Aside0 (Room.put L (aOf os) f g = (aOf os, [], false, 1)) := ⟨by
      unfold Room.put
      simp only
      split
      · rw [if_neg (by omega), if_pos hge]
      · rw [if_pos hge]⟩
    clear hk
    by_cases hc0 : g.cnt = 0
    · have c0 : (g.cnt == 0) = true := by simpa using hc0
      clear hge hc0
      go_enter Try.func14, Try.ntmps14
      go_wp2_with fail
      go_ret3
      exact xput_none HPUT.out (Fr.of_below HBV.out) HXV.out HO0.out
    · have c0 : (g.cnt == 0) = false := by simpa using hc0
      have c1 : decide (g.ix ≥ g.cnt) = true := decide_eq_true hge
      clear hge hc0
      go_enter Try.func14, Try.ntmps14
      go_wp2_with fail
      go_ret3
      exact xput_none HPUT.out (Fr.of_below HBV.out) HXV.out HO0.out
  · have hc0 : ¬ (g.cnt = 0) := by have := HGM.out; unfold Gm at this; omega
    have c0 : (g.cnt == 0) = false := by simpa using hc0
    have c1 : decide (g.ix ≥ g.cnt) = false := decide_eq_false hge
    have HGL : Aside0 (g.ix < g.cnt) := ⟨by omega⟩
    have HFIND := Aside0.mk (xfind_calls HXV.out HLN.out f g.ep g.id)
    clear hge hc0
    go_enter Try.func14, Try.ntmps14
    go_wp2_with fail
    refine HFIND.out.mono ?_
    rintro e1 w1 ⟨rfl, hb1⟩
    obtain ⟨V2, hV2⟩ : ∃ V2, (w1.alloc (.cells #[.int .i64 g.cnt, .slice none 0 0, .slice none 0 0] 87)).alloc (.cells #[.int .u16 f, .int .u32 g.ep, .int .u32 g.id, .int .u16 g.cnt, .int .u8 g.ver, .int .i64 0, .pointer (some ⟨w1.heap.size, 0, none⟩)] 74) = V2 := ⟨_, rfl⟩
    obtain ⟨hbV2, hsV2, eP, eO⟩ := alloc2 hV2
    have hbb := below_then hb1 hb1.size hbV2
    have HX5a := Aside0.mk ((hbb.block _ (blk_lt HX5.out)).trans HX5.out)
    have HB2 := Aside0.mk (below_then HBV.out HBV.out.size hbb)
    have HXa := Aside0.mk (HXV.out.below hbb)
    have HP := Aside0.mk eP
    have HO := Aside0.mk eO
    have HSV2 := Aside0.mk hsV2
    have HSW : Aside0 (W.heap.size + 1 ≤ w1.heap.size) := ⟨by have h1 := hb1.size; have h2 := blk_lt HX5.out; omega⟩
    have w0 := pw_cell_below hb1 v0
    have w1' := pw_cell_below hb1 v1
    have w2' := pw_cell_below hb1 v2
    have w3' := pw_cell_below hb1 v3
    have w5' := pw_cell_below hb1 v5
    clear hb1 hbV2 hsV2 eP eO hbb v0 v1 v2 v3 v4 v5 v6 HFIND
    go_upto_if 47 with fail
    go_cut [9] (fun s9 wc => s9 = .int .i64 (Room.ixI (Room.isK f g.ep g.id) (aOf os)) ∧ Aside0 (∃ y, OneS own x L os f g k W #[.int .u8 kd, .int .u8 g.ver, .int .u32 g.ep, .int .u32 g.id, .int .u16 g.ix, .int .u16 g.cnt, .slice A g.body.length cp] (w1.heap.size + 1) y wc))
    case first =>
      by_cases hlt : k < os.length
      · have hix : Room.ixI (Room.isK f g.ep g.id) (aOf os) = (k : Int) := by
          unfold Room.ixI
          rw [hk, aOf_len, if_pos hlt]
        have HIX := Aside0.mk hix
        rw [hix]
        obtain ⟨y, hy⟩ : ∃ y, os[k] = y := ⟨_, rfl⟩
        have HY := Aside0.mk hy
        have HLT := Aside0.mk hlt
        obtain ⟨B, c, g0, g1, g2, g3, hlc, hC⟩ := HXa.out.reads
        obtain ⟨ad, e2, hx0, hx1, hx2, hx3, hx4, hx5, hx6⟩ := at7 hC (k : Int) (by omega) (by omega)
        cases e2
        simp only [Int.toNat_natCast] at hx0 hx1 hx2 hx3 hx4 hx5 hx6
        rw [rd7_eq hlt, hy] at hx0 hx1 hx2 hx3 hx4 hx5 hx6
        have p0 : (0 ≤ (k : Int)) = True := eq_true (by omega)
        have p1 : ((k : Int) < (os.length : Int)) = True := eq_true (by omega)
        have p2 : decide ((k : Int) ≥ 0) = true := decide_eq_true (by omega)
        clear hix hk hy hC hlc
        go_wp2_with (refine store_box (.store 74 (.tmp 10) (.tmp 54)) 74 _ _ (w1.heap.size + 1) 0 _ #[.int .u16 y.a.fr, .int .u32 y.a.ep, .int .u32 y.a.id, .int .u16 y.a.cnt, .int .u8 y.a.ver, .int .i64 y.a.age, .pointer (some ⟨y.p, 0, none⟩)] 74 (valB y) (cellsB y) rfl rfl rfl rfl rfl rfl HO.out rfl (by kernel_rfl) (by simp) (one7 y) (by simp) ?_; intro w2 e2 hs2; have HE2 := Aside0.mk e2; have HS2 := Aside0.mk hs2; clear e2 hs2)
        go_meet
        have hmem : y ∈ os := by rw [← HY.out]; exact List.getElem_mem _
        have hf : Fr (fun q => q = w1.heap.size + 1) V2 w2 := ⟨HS2.out.os, HS2.out.tape, HS2.out.output, Nat.le_of_eq HS2.out.size.symm, fun q _ hn => HS2.out.far q hn⟩
        have hsw := HSW.out
        have hsz := HS2.out.size
        have hsv := HSV2.out
        have hyo : ∀ q, y.own q → q < W.heap.size := fun q hq => HTL.out q (HXa.out.own_of hmem q hq)
        exact ⟨by rw [HIX.out], ⟨y, ⟨HXa.out.frame hf (fun q hq e => by have := HTL.out q hq; omega), HS2.out.on (by omega) HB2.out, HS2.out.blk (by omega) HX5a.out, HE2.out, by omega, OPB.fr y _ _ _ (HXa.out.obj y hmem) hf (fun q hq e => by have := hyo q hq; omega), fun q hq => by have := hyo q hq; exact ⟨by omega, by omega, by omega⟩, .inl ⟨HLT.out, by rw [List.getElem?_eq_getElem HLT.out, HY.out]⟩⟩⟩⟩
      · have hix : Room.ixI (Room.isK f g.ep g.id) (aOf os) = -1 := by
          unfold Room.ixI
          rw [hk, aOf_len, if_neg hlt]
        have HIX := Aside0.mk hix
        rw [hix]
        have HLT := Aside0.mk hlt
        clear hix hk hlt
        go_wp2_with fail
        go_meet
        have hsw := HSW.out
        have hsv := HSV2.out
        exact ⟨by rw [HIX.out], ⟨⟨⟨f, g.ep, g.id, g.cnt, g.ver, 0, []⟩, w1.heap.size, fun q => q = w1.heap.size⟩, ⟨HXa.out, HB2.out, HX5a.out, HO.out, by omega, PB.new HP.out, fun q hq => by have : q = w1.heap.size := hq; exact ⟨by omega, by omega, by omega⟩, .inr ⟨by have := HLT.out; omega, rfl, fun q hq => by have : q = w1.heap.size := hq; omega⟩⟩⟩⟩
    case rest =>
      obtain ⟨rfl, HONE⟩ := hcut
      obtain ⟨y, HY⟩ := HONE.out
      have HCT : Aside0 (1 ≤ y.a.cnt ∧ y.a.cnt ≤ 65535 ∧ Room.size y.a.ps ≤ L.by_) := ⟨by
        rcases HY.get with h1 | ⟨_, _, h1⟩
        · have hm := List.mem_of_getElem? h1
          exact ⟨(HI.out.ct _ hm).1, (HI.out.ct _ hm).2, HI.out.sz _ hm⟩
        · rw [h1]
          have h2 := HGM.out
          have h3 := HGL.out
          have h4 := HLM.out.b1
          unfold Gm at h2
          exact ⟨by show 1 ≤ g.cnt; omega, by show g.cnt ≤ 65535; omega, by show (0 : Int) ≤ L.by_; omega⟩⟩
      obtain ⟨b0, b1, b2, b3, b4, b5, b6⟩ := box7c HY.bo
      obtain ⟨v0, v1, v2, v3, v4, v5, v6⟩ := box7c HY.b5
      have HONE := Aside0.mk HY
      clear HY HX5a HB2 HXa HP HO HSV2 w0 w1' w2' w3' w5' hk
      by_cases hcc : y.a.cnt = g.cnt
      · have d0 : (y.a.cnt == g.cnt) = true := by simpa using hcc
        have d0' : (y.a.cnt != g.cnt) = false := by simp [hcc]
        by_cases hvv : y.a.ver = g.ver
        · have d1 : (y.a.ver == g.ver) = true := by simpa using hvv
          have d1' : (y.a.ver != g.ver) = false := by simp [hvv]
          have HCC := Aside0.mk hcc
          have HVV := Aside0.mk hvv
          have HHAS := Aside0.mk (rhas_ok HONE.out.ob g.ix HCT.out.2.1 (by have := HCT.out.1; omega))
          clear hcc hvv
          go_wp2_with fail
          refine HHAS.out.mono ?_
          rintro e2 w2 ⟨rfl, hb2⟩
          have HON2 := Aside0.mk (HONE.out.below hb2)
          clear hb2 b0 b1 b2 b3 b4 b5 b6 v0 v1 v2 v3 v4 v5 v6 HHAS
          by_cases hhs : Room.has y.a.ps g.ix = true
          · rw [hhs]
            have HPUT : Aside0 (Room.put L (aOf os) f g = (aOf os, [], false, 12)) := ⟨by
              unfold Room.put
              simp only
              rw [HK.out]
              rcases HON2.out.get with h1 | ⟨h1, _, h2⟩
              · rw [h1]
                simp only
                rw [if_pos ⟨HGL.out, HCC.out, HVV.out, hhs⟩]
              · rw [h2] at hhs
                simp [Room.has] at hhs⟩
            clear hhs
            go_wp2_with fail
            go_ret3
            exact xput_none HPUT.out (Fr.of_below HON2.out.fr) HON2.out.xs HO0.out
          · have hhs' : Room.has y.a.ps g.ix = false := by simpa using hhs
            have HHS := Aside0.mk hhs'
            rw [hhs']
            clear hhs hhs'
            obtain ⟨X, hX⟩ : ∃ X, w2.drew = X := ⟨_, rfl⟩
            have hs0 : OneS own x L os f g k W #[.int .u8 kd, .int .u8 g.ver, .int .u32 g.ep, .int .u32 g.id, .int .u16 g.ix, .int .u16 g.cnt, .slice A g.body.length cp] (w1.heap.size + 1) y w2.drew := HON2.out.below (Below.refl _ _).drew
            have HSIZE : Aside0 (∀ V, OneS own x L os f g k W #[.int .u8 kd, .int .u8 g.ver, .int .u32 g.ep, .int .u32 g.id, .int .u16 g.ix, .int .u16 g.cnt, .slice A g.body.length cp] (w1.heap.size + 1) y V → Calls Try.prog 38 #[.pointer (some ⟨y.p, 0, none⟩)] V fun e w' => e = .returned (.int .i64 (Room.size y.a.ps)) ∧ Below V.heap.size V w') := ⟨fun V hV => rsize_ok hV.ob HCT.out.2.1 (by have := HCT.out.1; omega) (by have h1 := HCT.out.2.2; have h2 := HLM.out.b2; omega)⟩
            have hwr : wrap64 (Room.size y.a.ps + (g.body.length : Int)) = Room.size y.a.ps + g.body.length := by have h1 := HCT.out.2.2; have h2 := HLM.out.b2; have h3 := HGM.out.2.2.2.2; have h4 := Room.size_nn y.a.ps; unfold wrap64; omega
            go_wp2_with fail
            refine start_ (n := 13) (S := fun V => OneS own x L os f g k W #[.int .u8 kd, .int .u8 g.ver, .int .u32 g.ep, .int .u32 g.id, .int .u16 g.ix, .int .u16 g.cnt, .slice A g.body.length cp] (w1.heap.size + 1) y V) (ds := []) #[false, false, false, false, false, false, false, false, false, false, false, false, false] (by kernel_rfl) rfl rfl hs0 (fun hH => ?_)
            rw [hX] at hH ⊢
            clear hs0 hX
            refine pure_ (i := 0) (N := some 73) (v := ?_) (a' := ?_) #[true, false, false, false, false, false, false, false, false, false, false, false, false] rfl rfl (by kernel_rfl) (fun _ _ _ h => h) (Or.inl ⟨by rfl, ?_⟩) ?_ ?_
            rotate_left
            · intro w'
              go_simp
              with_reducible rfl
            rotate_left
            · simp only [Act.put, List.setIfInBounds_toArray, List.set_cons_zero, List.set_cons_succ, i64_w, i32_w]
              rfl
            refine take_ (i := 1) (N := some 74) (v := ?_) (a' := ?_) #[true, true, false, false, false, false, false, false, false, false, false, false, false] rfl rfl (by kernel_rfl) (fun _ _ _ h => h) (Or.inl ⟨by rfl, ?_⟩) hH ?_ ?_
            rotate_left
            · rintro w' hs_
              have t0 := (box7c hs_.bo).2.2.2.2.2.2
              go_simp
              with_reducible rfl
            rotate_left
            · simp only [Act.put, List.setIfInBounds_toArray, List.set_cons_zero, List.set_cons_succ, i64_w, i32_w]
              rfl
            refine pure_ (i := 3) (N := some 76) (v := ?_) (a' := ?_) #[true, true, false, true, false, false, false, false, false, false, false, false, false] rfl rfl (by kernel_rfl) (fun _ _ _ h => h) (Or.inl ⟨by rfl, ?_⟩) ?_ ?_
            rotate_left
            · intro w'
              go_simp
              with_reducible rfl
            rotate_left
            · simp only [Act.put, List.setIfInBounds_toArray, List.set_cons_zero, List.set_cons_succ, i64_w, i32_w]
              rfl
            refine take_ (i := 4) (N := some 77) (v := ?_) (a' := ?_) #[true, true, false, true, true, false, false, false, false, false, false, false, false] rfl rfl (by kernel_rfl) (fun _ _ _ h => h) (Or.inl ⟨by rfl, ?_⟩) hH ?_ ?_
            rotate_left
            · rintro w' hs_
              have t0 := (box7c hs_.b5).2.2.2.2.2.2
              go_simp
              with_reducible rfl
            rotate_left
            · simp only [Act.put, List.setIfInBounds_toArray, List.set_cons_zero, List.set_cons_succ, i64_w, i32_w]
              rfl
            refine pure_ (i := 5) (N := some 78) (v := ?_) (a' := ?_) #[true, true, false, true, true, true, false, false, false, false, false, false, false] rfl rfl (by kernel_rfl) (fun _ _ _ h => h) (Or.inl ⟨by rfl, ?_⟩) ?_ ?_
            rotate_left
            · intro w'
              go_simp
              with_reducible rfl
            rotate_left
            · simp only [Act.put, List.setIfInBounds_toArray, List.set_cons_zero, List.set_cons_succ, i64_w, i32_w]
              rfl
            refine pure_ (i := 7) (N := some 80) (v := ?_) (a' := ?_) #[true, true, false, true, true, true, false, true, false, false, false, false, false] rfl rfl (by kernel_rfl) (fun _ _ _ h => h) (Or.inl ⟨by rfl, ?_⟩) ?_ ?_
            rotate_left
            · intro w'
              go_simp
              with_reducible rfl
            rotate_left
            · simp only [Act.put, List.setIfInBounds_toArray, List.set_cons_zero, List.set_cons_succ, i64_w, i32_w]
              rfl
            refine pure_ (i := 8) (N := some 81) (v := ?_) (a' := ?_) #[true, true, false, true, true, true, false, true, true, false, false, false, false] rfl rfl (by kernel_rfl) (fun _ _ _ h => h) (Or.inl ⟨by rfl, ?_⟩) ?_ ?_
            rotate_left
            · intro w'
              go_simp
              with_reducible rfl
            rotate_left
            · simp only [Act.put, List.setIfInBounds_toArray, List.set_cons_zero, List.set_cons_succ, i64_w, i32_w]
              rfl
            refine pure_ (i := 9) (N := some 82) (v := ?_) (a' := ?_) #[true, true, false, true, true, true, false, true, true, true, false, false, false] rfl rfl (by kernel_rfl) (fun _ _ _ h => h) (Or.inl ⟨by rfl, ?_⟩) ?_ ?_
            rotate_left
            · intro w'
              go_simp
              with_reducible rfl
            rotate_left
            · simp only [Act.put, List.setIfInBounds_toArray, List.set_cons_zero, List.set_cons_succ, i64_w, i32_w]
              rfl
            refine pure_ (i := 10) (N := some 83) (v := ?_) (a' := ?_) #[true, true, false, true, true, true, false, true, true, true, true, false, false] rfl rfl (by kernel_rfl) (fun _ _ _ h => h) (Or.inl ⟨by rfl, ?_⟩) ?_ ?_
            rotate_left
            · intro w'
              go_simp
              with_reducible rfl
            rotate_left
            · simp only [Act.put, List.setIfInBounds_toArray, List.set_cons_zero, List.set_cons_succ, i64_w, i32_w]
              rfl
            refine take_ (i := 11) (N := some 84) (v := ?_) (a' := ?_) #[true, true, false, true, true, true, false, true, true, true, true, true, false] rfl rfl (by kernel_rfl) (fun _ _ _ h => h) (Or.inl ⟨by rfl, ?_⟩) hH ?_ ?_
            rotate_left
            · rintro w' hs_
              obtain ⟨_, _, _, t0, _⟩ := hs_.xs.reads
              go_simp
              with_reducible rfl
            rotate_left
            · simp only [Act.put, List.setIfInBounds_toArray, List.set_cons_zero, List.set_cons_succ, i64_w, i32_w]
              rfl
            refine one_ (i := 2) (N := some 75) #[true, true, true, true, true, true, false, true, true, true, true, true, false] rfl rfl (by kernel_rfl) (by decide) (fun K hK => ?_)
            refine goes_ Try.func38 (by kernel_rfl) rfl #[.pointer (some ⟨y.p, 0, none⟩)] (by rfl) rfl rfl (by (try simp only [List.map_toArray, List.map_cons, List.map_nil]); first | done | rfl) ?_
            refine (HSIZE.out _ hH).mono ?_
            rintro e3 w3 ⟨rfl, hb3⟩
            refine ⟨_, rfl, ?_⟩
            have hS_ := (hH).below hb3
            clear hb3
            refine hK.out _ _ hS_ (fun hH1 => ?_)
            clear hS_
            clear hK K
            refine norm_ (a' := ?_) ?_ ?_
            rotate_left
            · show Act.put _ (some 75) _ = _
              simp only [Act.put, List.setIfInBounds_toArray, List.set_cons_zero, List.set_cons_succ, i64_w, i32_w]
              rfl
            refine pure_ (i := 6) (N := some 79) (v := ?_) (a' := ?_) #[true, true, true, true, true, true, true, true, true, true, true, true, false] rfl rfl (by kernel_rfl) (fun _ _ _ h => h) (Or.inl ⟨by rfl, ?_⟩) ?_ ?_
            rotate_left
            · intro w'
              go_simp
              with_reducible rfl
            rotate_left
            · simp only [Act.put, List.setIfInBounds_toArray, List.set_cons_zero, List.set_cons_succ, i64_w, i32_w]
              rfl
            refine pure_ (i := 12) (N := some 85) (v := ?_) (a' := ?_) #[true, true, true, true, true, true, true, true, true, true, true, true, true] rfl rfl (by kernel_rfl) (fun _ _ _ h => h) (Or.inl ⟨by rfl, ?_⟩) ?_ ?_
            rotate_left
            · intro w'
              go_simp
              with_reducible rfl
            rotate_left
            · simp only [Act.put, List.setIfInBounds_toArray, List.set_cons_zero, List.set_cons_succ, i64_w, i32_w]
              rfl
            refine done_ (by kernel_rfl) ?_
            have HON3 := Aside0.mk hH1
            clear hH hH1 HSIZE hwr
            by_cases hsz : Room.size y.a.ps + (g.body.length : Int) > L.by_
            · have d2 : L.by_ < Room.size y.a.ps + (g.body.length : Int) := hsz
              have HWO := Aside0.mk (without_calls HON3.out.xs HLN.out (Room.ixI (Room.isK f g.ep g.id) (aOf os)) k (fun j hj => by unfold Room.ixI; rw [HK.out, aOf_len]; split <;> omega))
              have HPUT : Aside0 (Room.put L (aOf os) f g = (aOf (os.eraseIdx k), [], false, 10)) := ⟨by
                unfold Room.put
                simp only
                rw [HK.out]
                have h3 := HGL.out
                rcases HON3.out.get with h1 | ⟨h1, h4, h2⟩
                · rw [h1]
                  simp only
                  rw [if_neg (fun e => by rw [HHS.out] at e; cases e.2.2.2), if_neg (by omega), if_neg (fun e => e.elim (fun h => h HCC.out) (fun h => h HVV.out)), if_pos (by omega), aOf_eraseIdx]
                · have h5 : Room.size y.a.ps = 0 := by rw [h2]; rfl
                  rw [h1]
                  simp only
                  rw [if_neg (by omega), if_pos (by omega), aOf_eraseIdx, List.eraseIdx_of_length_le (by rw [aOf_len]; exact h4)]⟩
              clear hsz
              go_wp2_with fail
              refine HWO.out.mono ?_
              rintro e4 w4 ⟨rfl, hf4, hX4⟩
              have HF4 := Aside0.mk hf4
              have HX4 := Aside0.mk hX4
              clear hf4 hX4
              go_wp2_with fail
              go_ret3
              exact xput_none HPUT.out ((Fr.of_below HON3.out.fr).then_ HF4.out (fun q _ hq => hq)) HX4.out (fun q hq => hq.imp id (fun h => by have := HON3.out.fr.size; omega))
            · have d2 : Room.size y.a.ps + (g.body.length : Int) ≤ L.by_ := by omega
              have HSZ : Aside0 (Room.size y.a.ps ≤ L.by_ - g.body.length) := ⟨by omega⟩
              clear hsz
              go_upto_if 90 with fail
              go_cut [9] (fun s9 wc => s9 = .int .i64 (Room.ixI (Room.isK f g.ep g.id) (aOf os)) ∧ Aside0 (∃ own1 os1 k1, TwoS own x L os f g W #[.int .u8 kd, .int .u8 g.ver, .int .u32 g.ep, .int .u32 g.id, .int .u16 g.ix, .int .u16 g.cnt, .slice A g.body.length cp] (w1.heap.size + 1) y own1 os1 k1 wc))
              case first =>
                rcases HON3.out.ca with ⟨h1, h2⟩ | ⟨h1, h2, h3⟩
                · have hix : Room.ixI (Room.isK f g.ep g.id) (aOf os) = (k : Int) := by
                    unfold Room.ixI
                    rw [HK.out, aOf_len, if_pos h1]
                  have hyA : (aOf os)[k]? = some y.a := by
                    show (os.map OB.a)[k]? = _
                    rw [List.getElem?_map, h2]; rfl
                  have HIX := Aside0.mk hix
                  have HYA := Aside0.mk hyA
                  have HY2 := Aside0.mk h2
                  have p2 : 0 ≤ (k : Int) := by omega
                  rw [hix]
                  clear hix h1 h2 hyA
                  go_wp2_with fail
                  go_meet
                  exact ⟨by rw [HIX.out], ⟨own, os, k, ⟨HON3.out.xs, Fr.of_below HON3.out.fr, HO0.out, HON3.out.b5, HON3.out.bo, HON3.out.hz, ⟨fun e => by have h1 := HTL.out _ e; have h2 := HON3.out.hz; omega, fun e => by have h1 := HTL.out _ e; omega⟩, HY2.out, HI.out.toMid.set HYA.out _ (by rw [Room.size_snoc]; have := HSZ.out; omega), by
                    unfold Room.put
                    have h3 := HGL.out
                    have h4 := HSZ.out
                    simp only [HK.out, HYA.out]
                    rw [if_neg (fun e => by rw [HHS.out] at e; cases e.2.2.2), if_neg (by omega), if_neg (fun e => e.elim (fun h => h HCC.out) (fun h => h HVV.out)), if_neg (by omega)]⟩⟩⟩
                · have hix : Room.ixI (Room.isK f g.ep g.id) (aOf os) = -1 := by
                    unfold Room.ixI
                    rw [HK.out, aOf_len, if_neg (by omega)]
                  have HIX := Aside0.mk hix
                  have HYA := Aside0.mk h2
                  have HKL := Aside0.mk h1
                  have HYO := Aside0.mk h3
                  rw [hix]
                  clear hix h1 h2 h3
                  obtain ⟨B, c, g0, g1, g2, g3, hlc, hC⟩ := HON3.out.xs.reads
                  clear hC hlc
                  go_wp2_with fail
                  go_quiet (fail)
                  obtain ⟨w4, hw4⟩ : ∃ w4, w3.drewN nq = w4 := ⟨_, rfl⟩
                  rw [hw4]
                  have hb34 : Below w3.heap.size w3 w4 := by rw [← hw4]; exact pw_below_drewN (Below.refl _ _) _
                  have HON4 := Aside0.mk (HON3.out.below hb34)
                  clear g0 g1 g2 g3 hw4 hb34
                  go_upto_if 101 with fail
                  go_cut [9] (fun s9 wc => s9 = .int .i64 (-1) ∧ Aside0 (∃ own1 os1, NewS own x L os W #[.int .u8 kd, .int .u8 g.ver, .int .u32 g.ep, .int .u32 g.id, .int .u16 g.ix, .int .u16 g.cnt, .slice A g.body.length cp] (w1.heap.size + 1) y own1 os1 wc))
                  case first =>
                    by_cases hop : (os.length : Int) = L.op
                    · have d3 : ((os.length : Int) == L.op) = true := by simpa using hop
                      have HOP := Aside0.mk hop
                      have HW0 := Aside0.mk (without_calls HON4.out.xs HLN.out 0 0 (fun j hj => by omega))
                      go_wp2_with fail
                      refine HW0.out.mono ?_
                      rintro e5 w5 ⟨rfl, hf5, hX5⟩
                      have HF5 := Aside0.mk hf5
                      have HX5 := Aside0.mk hX5
                      clear hf5 hX5 hop d3
                      go_wp2_with fail
                      go_meet
                      have hz := HON4.out.hz
                      have hzl := blk_lt HON4.out.bo
                      have hWl := blk_lt HON4.out.b5
                      have hsz5 := HF5.out.size
                      exact ⟨rfl, ⟨_, _, ⟨HX5.out, (Fr.of_below HON4.out.fr).then_ HF5.out (fun q _ hq => hq), fun q hq => hq.imp id (fun h => by omega), (HF5.out.block _ hWl (fun e => by have := HTL.out _ e; omega)).trans HON4.out.b5, (HF5.out.block _ hzl (fun e => by have := HTL.out _ e; omega)).trans HON4.out.bo, hz, ⟨fun e => e.elim (fun h => by have := HTL.out _ h; omega) (fun h => by omega), fun e => e.elim (fun h => by have := HTL.out _ h; omega) (fun h => by omega)⟩, OPB.fr y _ _ _ HON4.out.ob HF5.out (fun q hq e => by have h1 := HTL.out _ e; have h2 := HYO.out q hq; omega), fun q hq => by
                        have h1 := HON4.out.ol q hq
                        have h2 := HYO.out q hq
                        exact ⟨by omega, h1.2.1, h1.2.2, fun e => e.elim (fun h => by have := HTL.out _ h; omega) (fun h => by omega), h2⟩, by rw [if_pos (by have := HOP.out; omega)]⟩⟩⟩
                    · have d3 : ((os.length : Int) == L.op) = false := by simpa using hop
                      have HOP := Aside0.mk hop
                      clear hop
                      go_wp2_with fail
                      go_meet
                      have hz := HON4.out.hz
                      exact ⟨rfl, ⟨_, _, ⟨HON4.out.xs, Fr.of_below HON4.out.fr, HO0.out, HON4.out.b5, HON4.out.bo, hz, ⟨fun e => by have := HTL.out _ e; omega, fun e => by have := HTL.out _ e; omega⟩, HON4.out.ob, fun q hq => by
                        have h1 := HON4.out.ol q hq
                        have h2 := HYO.out q hq
                        exact ⟨h1.1, h1.2.1, h1.2.2, fun e => by have := HTL.out _ e; omega, h2⟩, by
                        have h1 := HI.out.ln
                        rw [aOf_len] at h1
                        rw [if_neg (by have := HOP.out; omega)]⟩⟩⟩
                  case rest =>
                    obtain ⟨rfl, HNEW⟩ := hcut
                    obtain ⟨own1, os1, HN⟩ := HNEW.out
                    clear HNEW HON3 HON4
                    obtain ⟨X, hX⟩ : ∃ X, wc.drew = X := ⟨_, rfl⟩
                    have hNX : NewS own x L os W #[.int .u8 kd, .int .u8 g.ver, .int .u32 g.ep, .int .u32 g.id, .int .u16 g.ix, .int .u16 g.cnt, .slice A g.body.length cp] (w1.heap.size + 1) y own1 os1 X := by rw [← hX]; exact HN.below (Below.refl _ _).drew
                    obtain ⟨v, oB, hb, hbag, hown⟩ := hNX.xs.st
                    obtain ⟨oL, hR, hL⟩ := hbag.row
                    have hs0 : RowS x (w1.heap.size + 1) v y wc.drew := by rw [hX]; exact ⟨(blk_cell hb 3).trans rfl, hNX.bo⟩
                    have HNX := Aside0.mk hNX
                    have HR := Aside0.mk hR
                    have HBAG := Aside0.mk hbag
                    have HLL := Aside0.mk hL
                    have HOWN := Aside0.mk hown
                    have HBT := Aside0.mk hb
                    have HLX : Aside0 (x < X.heap.size) := ⟨blk_lt hb⟩
                    have HNT : Aside0 (v.ownBlock ≠ some x) := ⟨fun e => (hown x (hL x (hR.1 x e)).1).2 rfl⟩
                    have HLN1 : Aside0 (os1.length ≤ 1000) := ⟨by
                      have h1 := hNX.e1
                      have h2 := HLN.out
                      rw [h1]
                      split
                      · exact Nat.le_trans (List.length_eraseIdx_le _ _) h2
                      · exact h2⟩
                    clear hNX HN hR hbag hL hown hb
                    go_wp2_with fail
                    refine start_ (n := 11) (S := RowS x (w1.heap.size + 1) v y) (ds := [7, 10]) #[false, false, false, false, false, false, false, false, false, false, false] (by kernel_rfl) rfl rfl hs0 (fun hH => ?_)
                    clear hs0
                    rw [hX] at hH ⊢
                    clear hX
                    refine pure_ (i := 0) (N := some 104) (v := ?_) (a' := ?_) #[true, false, false, false, false, false, false, false, false, false, false] rfl rfl (by kernel_rfl) (fun _ _ _ h => h) (Or.inl ⟨by rfl, ?_⟩) ?_ ?_
                    rotate_left
                    · intro w'
                      go_simp
                      with_reducible rfl
                    rotate_left
                    · simp only [Act.put, List.setIfInBounds_toArray, List.set_cons_zero, List.set_cons_succ, i64_w, i32_w]
                      rfl
                    refine pure_ (i := 1) (N := some 105) (v := ?_) (a' := ?_) #[true, true, false, false, false, false, false, false, false, false, false] rfl rfl (by kernel_rfl) (fun _ _ _ h => h) (Or.inl ⟨by rfl, ?_⟩) ?_ ?_
                    rotate_left
                    · intro w'
                      go_simp
                      with_reducible rfl
                    rotate_left
                    · simp only [Act.put, List.setIfInBounds_toArray, List.set_cons_zero, List.set_cons_succ, i64_w, i32_w]
                      rfl
                    refine pure_ (i := 2) (N := some 106) (v := ?_) (a' := ?_) #[true, true, true, false, false, false, false, false, false, false, false] rfl rfl (by kernel_rfl) (fun _ _ _ h => h) (Or.inl ⟨by rfl, ?_⟩) ?_ ?_
                    rotate_left
                    · intro w'
                      go_simp
                      with_reducible rfl
                    rotate_left
                    · simp only [Act.put, List.setIfInBounds_toArray, List.set_cons_zero, List.set_cons_succ, i64_w, i32_w]
                      rfl
                    refine pure_ (i := 3) (N := some 107) (v := ?_) (a' := ?_) #[true, true, true, true, false, false, false, false, false, false, false] rfl rfl (by kernel_rfl) (fun _ _ _ h => h) (Or.inl ⟨by rfl, ?_⟩) ?_ ?_
                    rotate_left
                    · intro w'
                      go_simp
                      with_reducible rfl
                    rotate_left
                    · simp only [Act.put, List.setIfInBounds_toArray, List.set_cons_zero, List.set_cons_succ, i64_w, i32_w]
                      rfl
                    refine take_ (i := 4) (N := some 108) (v := ?_) (a' := ?_) #[true, true, true, true, true, false, false, false, false, false, false] rfl rfl (by kernel_rfl) (fun _ _ _ h => h) (Or.inl ⟨by rfl, ?_⟩) hH ?_ ?_
                    rotate_left
                    · rintro w' hs_
                      have t0 := hs_.c3
                      go_simp
                      with_reducible rfl
                    rotate_left
                    · simp only [Act.put, List.setIfInBounds_toArray, List.set_cons_zero, List.set_cons_succ, i64_w, i32_w]
                      rfl
                    refine take_ (i := 5) (N := some 109) (v := ?_) (a' := ?_) #[true, true, true, true, true, true, false, false, false, false, false] rfl rfl (by kernel_rfl) (fun _ _ _ h => h) (Or.inl ⟨by rfl, ?_⟩) hH ?_ ?_
                    rotate_left
                    · rintro w' hs_
                      obtain ⟨t0, t1, t2, t3, t4, t5, t6⟩ := box7c hs_.bo
                      go_simp
                      with_reducible rfl
                    rotate_left
                    · simp only [Act.put, List.setIfInBounds_toArray, List.set_cons_zero, List.set_cons_succ, i64_w, i32_w]
                      rfl
                    refine one_ (i := 6) (N := some 110) #[true, true, true, true, true, true, true, false, false, false, false] rfl rfl (by kernel_rfl) (by decide) (fun K hK => ?_)
                    refine value_ (w1 := X.alloc (.cells #[.int .u16 y.a.fr, .int .u32 y.a.ep, .int .u32 y.a.id, .int .u16 y.a.cnt, .int .u8 y.a.ver, .int .i64 y.a.age, .pointer (some ⟨y.p, 0, none⟩)] 74)) (v := .slice (some ⟨X.heap.size, 0, none⟩) 1 1) (by rfl) rfl ?_ ?_
                    · go_simp
                      try rfl
                    have hS_ : RowS x (w1.heap.size + 1) v y (X.alloc (.cells #[.int .u16 y.a.fr, .int .u32 y.a.ep, .int .u32 y.a.id, .int .u16 y.a.cnt, .int .u8 y.a.ver, .int .i64 y.a.age, .pointer (some ⟨y.p, 0, none⟩)] 74)) := (hH).below (below_alloc (Below.refl _ _) _)
                    refine hK.out _ _ hS_ (fun hH1 => ?_)
                    clear hS_
                    clear hK K
                    refine norm_ (a' := ?_) ?_ ?_
                    rotate_left
                    · show Act.put _ (some 110) _ = _
                      simp only [Act.put, List.setIfInBounds_toArray, List.set_cons_zero, List.set_cons_succ, i64_w, i32_w]
                      rfl
                    refine last_ (i := 7) (N := some 111) #[true, true, true, true, true, true, true, true, false, false, false] rfl rfl (by kernel_rfl) (by decide) (fun K hK => ?_)
                    refine Kd.R_append_step k7 (w0 := X) 0 (by rfl) _ _ 46 74 _ 32 rfl Try.underlying46 i74 rfl (by decide) (by decide) v os1 y [.int .u16 y.a.fr, .int .u32 y.a.ep, .int .u32 y.a.id, .int .u16 y.a.cnt, .int .u8 y.a.ver, .int .i64 y.a.age, .pointer (some ⟨y.p, 0, none⟩)] (fun k => oL k ∨ X.heap.size ≤ k) (fun _ => False) rfl rfl (k7_mkM _ _ _ _) (fun _ h => h.elim) (fun _ h => .inr h) (Kd.R_mono HR.out (fun _ h => .inl h)) (Below.refl _ _) (Nat.zero_le _) (by have := HLN1.out; omega) ?_
                    intro v1 w5 hO3 hb3 hg3 hat3
                    obtain ⟨C, d, rfl, hlcd, hC3⟩ := Kd.R_reads hO3
                    clear hC3 hlcd
                    have hbt : w5.heap[x]? = some (.cells #[.int .i64 L.op, .int .i64 L.by_, .int .i64 L.ex, v] 48 (0, 0)) := (hg3.block x (by have := HLX.out; exact this) (fun e => HNT.out e.symm)).trans HBT.out
                    have hft : w5.frozen? ⟨x, 3, none⟩ = false := blk_frozen hbt 3
                    have hct : w5.cell? ⟨x, 3, none⟩ = some v := (blk_cell hbt 3).trans rfl
                    have HO3 := Aside0.mk hO3; have HG3 := Aside0.mk hg3
                    clear hO3 hb3 hg3 hat3 hbt
                    refine hK.out _ _ ?_
                    clear hK K
                    refine norm_ (a' := ?_) ?_ ?_
                    rotate_left
                    · show Act.put _ (some 111) _ = _
                      simp only [Act.put, List.setIfInBounds_toArray, List.set_cons_zero, List.set_cons_succ, i64_w, i32_w]
                      rfl
                    refine pure_ (i := 8) (N := some 112) (v := ?_) (a' := ?_) #[true, true, true, true, true, true, true, true, true, false, false] rfl rfl (by kernel_rfl) (fun _ _ _ h => h) (Or.inl ⟨by rfl, ?_⟩) ?_ ?_
                    rotate_left
                    · intro w'
                      go_simp
                      with_reducible rfl
                    rotate_left
                    · simp only [Act.put, List.setIfInBounds_toArray, List.set_cons_zero, List.set_cons_succ, i64_w, i32_w]
                      rfl
                    refine pure_ (i := 9) (N := some 113) (v := ?_) (a' := ?_) #[true, true, true, true, true, true, true, true, true, true, false] rfl rfl (by kernel_rfl) (fun _ _ _ h => h) (Or.inl ⟨by rfl, ?_⟩) ?_ ?_
                    rotate_left
                    · intro w'
                      go_simp
                      with_reducible rfl
                    rotate_left
                    · simp only [Act.put, List.setIfInBounds_toArray, List.set_cons_zero, List.set_cons_succ, i64_w, i32_w]
                      rfl
                    refine last_ (i := 10) (N := none) #[true, true, true, true, true, true, true, true, true, true, true] rfl rfl (by kernel_rfl) (by decide) (fun K hK => ?_)
                    refine skip_ (w1 := w5.setCell ⟨x, 3, none⟩ (.slice C (os1 ++ [y]).length d)) (by rfl) rfl ?_ ?_
                    · go_simp
                      try rfl
                    show K (Act.put _ none undef) _
                    refine hK.out _ _ ?_
                    clear hK K
                    refine norm_ (a' := ?_) ?_ ?_
                    rotate_left
                    · show Act.put _ (none) _ = _
                      simp only [Act.put, List.setIfInBounds_toArray, List.set_cons_zero, List.set_cons_succ, i64_w, i32_w]
                      rfl
                    refine done_ (by kernel_rfl) ?_
                    go_wp2_with fail
                    go_meet
                    have hsn := HNX.out.xs.snoc HBT.out HBAG.out HOWN.out HLL.out HR.out HO3.out HG3.out HNX.out.ob (fun q hq => (HNX.out.ol q hq).2.2.2.1) (fun q hq => (HNX.out.ol q hq).1) rfl
                    have hzl := blk_lt HNX.out.bo
                    have hWl := blk_lt HNX.out.b5
                    have hz := HNX.out.hz
                    have h2n := two_new HLM.out HI.out HGM.out HGL.out HK.out HKL.out HYA.out HSZ.out HNX.out.e1
                    exact ⟨by rw [HIX.out], ⟨_, os1 ++ [y], os1.length, ⟨hsn.2, HNX.out.fr.then_ hsn.1 (fun q hq h => (HNX.out.ow q h).resolve_right (by omega)), fun q hq => by
                      rcases hq with hq | hq | hq
                      · exact HNX.out.ow q hq
                      · exact .inr (HNX.out.ol q hq).2.2.2.2
                      · exact .inr (by omega), (hsn.1.block _ hWl HNX.out.nz.2).trans HNX.out.b5, (hsn.1.block _ hzl HNX.out.nz.1).trans HNX.out.bo, hz, ⟨fun e => by
                      rcases e with e | e | e
                      · exact HNX.out.nz.1 e
                      · exact (HNX.out.ol _ e).2.1 rfl
                      · omega, fun e => by
                      rcases e with e | e | e
                      · exact HNX.out.nz.2 e
                      · exact (HNX.out.ol _ e).2.2.1 rfl
                      · omega⟩, by simp, h2n.1, h2n.2⟩⟩⟩
              case rest =>
                obtain ⟨rfl, HTWO⟩ := hcut
                obtain ⟨own1, os1, k1, HT⟩ := HTWO.out
                clear HTWO d2
                have hk1 : k1 < os1.length := (List.getElem?_eq_some_iff.1 HT.at_).1
                have hy1 : os1[k1] = y := (List.getElem?_eq_some_iff.1 HT.at_).2
                have hmem : y ∈ os1 := by rw [← hy1]; exact List.getElem_mem _
                have HKY : Aside0 (Room.isK f g.ep g.id y.a = true) := ⟨by
                  rcases HON3.out.get with h3 | ⟨_, _, h3⟩
                  · have h1 : Room.idx (Room.isK f g.ep g.id) (aOf os) < (aOf os).length := by rw [HK.out]; exact (List.getElem?_eq_some_iff.1 h3).1
                    have h2 := Room.idx_hit h1
                    rw [← HK.out, List.getElem?_eq_getElem h1] at h3
                    rw [← Option.some.inj h3]; exact h2
                  · rw [h3]; exact Room.isK_iff.2 ⟨rfl, rfl, rfl⟩⟩
                obtain ⟨b0, b1, b2, b3, b4, b5, b6⟩ := box7c HT.bo
                obtain ⟨v0, v1, v2, v3, v4, v5, v6⟩ := box7c HT.b5
                have hcv : (Go.convert 36 9 (.slice A g.body.length cp)).run Try.prog wc = .ok (.string (strOfNums g.body)) wc := Kd.C_string (P := Try.prog) (A := A) (c := cp) Try.underlying36 Try.underlying5 Try.underlying9 (HBD.out wc HT.fr)
                have HADD := Aside0.mk (radd_ok (HT.xs.obj y hmem) g.ix HGM.out.1 (by have h1 := HGL.out; have h2 := HCC.out; omega) (by have := HCT.out.2.1; omega) HHS.out g.body)
                have HTWO := Aside0.mk HT
                have HK1 := Aside0.mk hk1
                have HY1 : Aside0 (os1[k1]'HK1.out = y) := ⟨hy1⟩
                have HMEM := Aside0.mk hmem
                clear HT hk1 hy1 hmem
                go_wp2_with fail
                refine HADD.out.mono ?_
                rintro e4 w4 ⟨rfl, hf4, hPB4⟩
                clear hcv b0 b1 b2 b3 b4 b5 b6 v0 v1 v2 v3 v4 v5 v6
                have hT4 := HTWO.out.xs.set (W' := w4) (ps := y.a.ps ++ [(g.ix, g.body)]) HK1.out
                rw [HY1.out] at hT4
                replace hT4 := hT4 hf4 hPB4
                obtain ⟨o2, ho2⟩ : ∃ o2, upd y (y.a.ps ++ [(g.ix, g.body)]) wc.heap.size w4.heap.size = o2 := ⟨_, rfl⟩
                obtain ⟨os2, hos2⟩ : ∃ os2, os1.set k1 o2 = os2 := ⟨_, rfl⟩
                rw [ho2, hos2] at hT4
                have ha2 : aOf os2 = (aOf os1).set k1 { y.a with ps := y.a.ps ++ [(g.ix, g.body)] } := by rw [← hos2, aOf_set, ← ho2]; rfl
                have HM2 : Aside0 (Mid L (aOf os2)) := ⟨by rw [ha2]; exact HTWO.out.mi⟩
                have HMO : Aside0 (o2 ∈ os2) := ⟨by rw [← hos2]; exact List.mem_set HK1.out o2⟩
                have HKO : Aside0 (Room.isK f g.ep g.id o2.a = true) := ⟨by rw [← ho2]; exact HKY.out⟩
                have HPO : Aside0 (o2.p = y.p) := ⟨by rw [← ho2]; rfl⟩
                have HCO : Aside0 (o2.a.cnt = g.cnt) := ⟨by rw [← ho2]; exact HCC.out⟩
                have HRP : Aside0 (Room.put L (aOf os) f g = ((Room.fin L f g.ep g.id (aOf os2)).1, (Room.fin L f g.ep g.id (aOf os2)).2.1, (Room.fin L f g.ep g.id (aOf os2)).2.2, 0)) := ⟨by rw [ha2]; exact HTWO.out.pt⟩
                have HLZ : Aside0 (W.heap.size < w1.heap.size + 1 ∧ w1.heap.size + 1 < wc.heap.size ∧ wc.heap.size ≤ w4.heap.size) := ⟨HTWO.out.hz, blk_lt HTWO.out.bo, hf4.size⟩
                have HL4 : Aside0 (LopR own x L os2 f g W #[.int .u8 kd, .int .u8 g.ver, .int .u32 g.ep, .int .u32 g.id, .int .u16 g.ix, .int .u16 g.cnt, .slice A g.body.length cp] (w1.heap.size + 1) y o2 (fun q => own1 q ∨ wc.heap.size ≤ q ∧ q < w4.heap.size) os2 w4) := ⟨⟨hT4, HTWO.out.fr.then_ hf4 (fun q hq h => (HTWO.out.ow q (HTWO.out.xs.own_of HMEM.out q h)).resolve_right (by omega)), fun q hq => by
                  rcases hq with hq | hq
                  · exact HTWO.out.ow q hq
                  · have := HLZ.out; exact .inr (by omega), (hf4.block _ (blk_lt HTWO.out.b5) (fun e => HTWO.out.nz.2 (HTWO.out.xs.own_of HMEM.out _ e))).trans HTWO.out.b5, (hf4.block _ (blk_lt HTWO.out.bo) (fun e => HTWO.out.nz.1 (HTWO.out.xs.own_of HMEM.out _ e))).trans HTWO.out.bo, HTWO.out.hz, ⟨fun e => e.elim HTWO.out.nz.1 (fun h => by have := HLZ.out; omega), fun e => e.elim HTWO.out.nz.2 (fun h => by have := HLZ.out; omega)⟩, List.Sublist.refl _, rfl, HM2.out.fits HLM.out f g.ep g.id, HMO.out⟩⟩
                clear hT4 ho2 hos2 ha2 hf4 hPB4 HADD HTWO HON2 HON3 HONE
                go_wp2_with fail
                go_loopg [11] os2.length (fun gg _ wr => ∃ osr ownr, osr.length ≤ gg ∧ Aside0 (LopR own x L os2 f g W #[.int .u8 kd, .int .u8 g.ver, .int .u32 g.ep, .int .u32 g.id, .int .u16 g.ix, .int .u16 g.cnt, .slice A g.body.length cp] (w1.heap.size + 1) y o2 ownr osr wr))
                case atStart => exact ⟨os2, _, Nat.le_refl _, HL4⟩
                case round =>
                  obtain ⟨osr, ownr, hgg, HR⟩ := hrel
                  have HLR : Aside0 (osr.length ≤ 16) := ⟨by have h1 := HR.out.su.length_le; have h2 := HM2.out.ln; have h3 := HLM.out.o2; rw [aOf_len] at h2; omega⟩
                  have HHL : Aside0 (Room.held (aOf osr) ≤ 4611686018427387904) := ⟨by
                    have h0 := held_sub (aOf_sub HR.out.su)
                    have h1 := held_le HM2.out.sz
                    have h2 := HM2.out.ln
                    have h3 := HLM.out.o2
                    have h4 := HLM.out.b2
                    have h5 : ((aOf os2).length : Int) * L.by_ ≤ 16 * 65536 := Int.mul_le_mul (by omega) h4 (by have := HLM.out.b1; omega) (by omega)
                    omega⟩
                  have HHELD : Aside0 (∀ V, LopR own x L os2 f g W #[.int .u8 kd, .int .u8 g.ver, .int .u32 g.ep, .int .u32 g.id, .int .u16 g.ix, .int .u16 g.cnt, .slice A g.body.length cp] (w1.heap.size + 1) y o2 ownr osr V → Calls Try.prog 17 #[.pointer (some ⟨x, 0, none⟩)] V fun e w' => e = .returned (.int .i64 (Room.held (aOf osr))) ∧ Below V.heap.size V w') := ⟨fun V hV => xheld_calls hV.xs (by have := HLR.out; omega) HHL.out (fun o ho => HM2.out.ct o.a (List.mem_map.2 ⟨o, hV.su.subset ho, rfl⟩))⟩
                  obtain ⟨X, hX⟩ : ∃ X, wr.drew = X := ⟨_, rfl⟩
                  have hs0 : LopR own x L os2 f g W #[.int .u8 kd, .int .u8 g.ver, .int .u32 g.ep, .int .u32 g.id, .int .u16 g.ix, .int .u16 g.cnt, .slice A g.body.length cp] (w1.heap.size + 1) y o2 ownr osr wr.drew := HR.out.below (Below.refl _ _).drew
                  by_cases hh : Room.held (aOf osr) > L.by_
                  · go_wp2_with fail
                    refine start_ (n := 8) (S := fun V => LopR own x L os2 f g W #[.int .u8 kd, .int .u8 g.ver, .int .u32 g.ep, .int .u32 g.id, .int .u16 g.ix, .int .u16 g.cnt, .slice A g.body.length cp] (w1.heap.size + 1) y o2 ownr osr V) (ds := []) #[false, false, false, false, false, false, false, false] (by kernel_rfl) rfl rfl hs0 (fun hH => ?_)
                    rw [hX] at hH ⊢
                    clear hs0 hX
                    refine pure_ (i := 0) (N := some 123) (v := ?_) (a' := ?_) #[true, false, false, false, false, false, false, false] rfl rfl (by kernel_rfl) (fun _ _ _ h => h) (Or.inl ⟨by rfl, ?_⟩) ?_ ?_
                    rotate_left
                    · intro w'
                      go_simp
                      with_reducible rfl
                    rotate_left
                    · simp only [Act.put, List.setIfInBounds_toArray, List.set_cons_zero, List.set_cons_succ, i64_w, i32_w]
                      rfl
                    refine pure_ (i := 2) (N := some 125) (v := ?_) (a' := ?_) #[true, false, true, false, false, false, false, false] rfl rfl (by kernel_rfl) (fun _ _ _ h => h) (Or.inl ⟨by rfl, ?_⟩) ?_ ?_
                    rotate_left
                    · intro w'
                      go_simp
                      with_reducible rfl
                    rotate_left
                    · simp only [Act.put, List.setIfInBounds_toArray, List.set_cons_zero, List.set_cons_succ, i64_w, i32_w]
                      rfl
                    refine pure_ (i := 3) (N := some 126) (v := ?_) (a' := ?_) #[true, false, true, true, false, false, false, false] rfl rfl (by kernel_rfl) (fun _ _ _ h => h) (Or.inl ⟨by rfl, ?_⟩) ?_ ?_
                    rotate_left
                    · intro w'
                      go_simp
                      with_reducible rfl
                    rotate_left
                    · simp only [Act.put, List.setIfInBounds_toArray, List.set_cons_zero, List.set_cons_succ, i64_w, i32_w]
                      rfl
                    refine pure_ (i := 4) (N := some 127) (v := ?_) (a' := ?_) #[true, false, true, true, true, false, false, false] rfl rfl (by kernel_rfl) (fun _ _ _ h => h) (Or.inl ⟨by rfl, ?_⟩) ?_ ?_
                    rotate_left
                    · intro w'
                      go_simp
                      with_reducible rfl
                    rotate_left
                    · simp only [Act.put, List.setIfInBounds_toArray, List.set_cons_zero, List.set_cons_succ, i64_w, i32_w]
                      rfl
                    refine pure_ (i := 5) (N := some 128) (v := ?_) (a' := ?_) #[true, false, true, true, true, true, false, false] rfl rfl (by kernel_rfl) (fun _ _ _ h => h) (Or.inl ⟨by rfl, ?_⟩) ?_ ?_
                    rotate_left
                    · intro w'
                      go_simp
                      with_reducible rfl
                    rotate_left
                    · simp only [Act.put, List.setIfInBounds_toArray, List.set_cons_zero, List.set_cons_succ, i64_w, i32_w]
                      rfl
                    refine take_ (i := 6) (N := some 129) (v := ?_) (a' := ?_) #[true, false, true, true, true, true, true, false] rfl rfl (by kernel_rfl) (fun _ _ _ h => h) (Or.inl ⟨by rfl, ?_⟩) hH ?_ ?_
                    rotate_left
                    · rintro w' hs_
                      obtain ⟨_, _, _, t0, _⟩ := hs_.xs.reads
                      go_simp
                      with_reducible rfl
                    rotate_left
                    · simp only [Act.put, List.setIfInBounds_toArray, List.set_cons_zero, List.set_cons_succ, i64_w, i32_w]
                      rfl
                    refine one_ (i := 1) (N := some 124) #[true, true, true, true, true, true, true, false] rfl rfl (by kernel_rfl) (by decide) (fun K hK => ?_)
                    refine goes_ Try.func17 (by kernel_rfl) rfl #[.pointer (some ⟨x, 0, none⟩)] (by rfl) rfl rfl (by (try simp only [List.map_toArray, List.map_cons, List.map_nil]); first | done | rfl) ?_
                    refine (HHELD.out _ hH).mono ?_
                    rintro e5 w5 ⟨rfl, hb5⟩
                    refine ⟨_, rfl, ?_⟩
                    have hS_ := (hH).below hb5
                    clear hb5
                    refine hK.out _ _ hS_ (fun hH1 => ?_)
                    clear hS_
                    clear hK K
                    refine norm_ (a' := ?_) ?_ ?_
                    rotate_left
                    · show Act.put _ (some 124) _ = _
                      simp only [Act.put, List.setIfInBounds_toArray, List.set_cons_zero, List.set_cons_succ, i64_w, i32_w]
                      rfl
                    refine pure_ (i := 7) (N := some 130) (v := ?_) (a' := ?_) #[true, true, true, true, true, true, true, true] rfl rfl (by kernel_rfl) (fun _ _ _ h => h) (Or.inl ⟨by rfl, ?_⟩) ?_ ?_
                    rotate_left
                    · intro w'
                      go_simp
                      with_reducible rfl
                    rotate_left
                    · simp only [Act.put, List.setIfInBounds_toArray, List.set_cons_zero, List.set_cons_succ, i64_w, i32_w]
                      rfl
                    refine done_ (by kernel_rfl) ?_
                    have HR5 := Aside0.mk hH1
                    obtain ⟨h0, hcase⟩ := fit_idx hH1.xs (HM2.out.keys.sublist ((aOf_sub hH1.su).map _)) hH1.me HKO.out hH1.fi hh
                    obtain ⟨B, c, g0, g1, g2, g3, hlc, hC⟩ := hH1.xs.reads
                    obtain ⟨ad, e2, hx0, hx1, hx2, hx3, hx4, hx5, hx6⟩ := at7 hC (0 : Int) (by omega) (by omega)
                    cases e2
                    have hrd : rd7 osr 0 = osr[0] := rd7_eq (k := 0) h0
                    simp only [hrd, Int.toNat_zero, Nat.zero_mul] at hx6
                    have hx7 : w5.cell? ⟨ad.block, ad.off + 6, none⟩ = some (.pointer (some ⟨osr[0].p, 0, none⟩)) := hx6
                    obtain ⟨b0, b1, b2, b3, b4, b5, b6⟩ := box7c hH1.bo
                    have p1 : ((0 : Int) < (osr.length : Int)) = True := eq_true (by omega)
                    have HER := Aside0.mk (hH1.fi.erase (hH1.fi.some hh))
                    have HFI : Aside0 (Room.fit L f g.ep g.id (osr.length - 1) ((aOf osr).eraseIdx (Room.idx (fun o => !Room.isK f g.ep g.id o) (aOf osr))) = Room.fit L f g.ep g.id osr.length (aOf osr)) := ⟨by
                      obtain ⟨n, hn⟩ : ∃ n, osr.length = n + 1 := ⟨osr.length - 1, by omega⟩
                      rw [hn, Nat.add_sub_cancel]
                      conv => rhs; unfold Room.fit
                      rw [if_pos hh]⟩
                    have HH0 := Aside0.mk h0
                    clear hH hH1 hC hlc hrd g0 g1 g2 HHELD
                    rcases hcase with ⟨hp, hi1, hl1⟩ | ⟨hp, hi0⟩
                    · rw [hp, HPO.out] at hx6 hx7
                      have hx8 : w5.cell? (ad.add 6) = some (.pointer (some ⟨y.p, 0, none⟩)) := hx7
                      have HI1 := Aside0.mk hi1
                      have HL1 := Aside0.mk hl1
                      clear hp hi1 hl1
                      have hpe : ∀ w, (Go.binOp .eql 72 (.pointer (some ⟨y.p, 0, none⟩)) (.pointer (some ⟨y.p, 0, none⟩))).run Try.prog w = .ok (.bool true) w := fun w => run_eql_ptr_same (te := 87) w _ (by kernel_rfl) (j := (Try.prog.info? 87).getD default) (by kernel_rfl)
                      go_wp2_with fail
                      go_quiet (fail)
                      obtain ⟨w6, hw6⟩ : ∃ w6, w5.drewN nq = w6 := ⟨_, rfl⟩
                      rw [hw6]
                      have hb56 : Below w5.heap.size w5 w6 := by rw [← hw6]; exact pw_below_drewN (Below.refl _ _) _
                      have HR6 := Aside0.mk (HR5.out.below hb56)
                      have HWO := Aside0.mk (without_calls HR6.out.xs (by have := HLR.out; omega) 1 1 (fun j hj => by omega))
                      have HHH := Aside0.mk hh
                      clear hw6 hb56 hx0 hx1 hx2 hx3 hx4 hx5 hx6 hx7 g3 b0 b1 b2 b3 b4 b5 b6 hh
                      go_wp2_with fail
                      refine HWO.out.mono ?_
                      rintro e7 w7 ⟨rfl, hf7, hX7⟩
                      have HR7 := Aside0.mk (HR6.out.less HI1.out HHH.out HKO.out hf7 hX7)
                      clear hf7 hX7
                      go_wp2_with fail
                      go_roundg (osr.length - 1)
                      case measure => have := HH0.out; omega
                      case rel => exact ⟨osr.eraseIdx 1, _, by rw [List.length_eraseIdx_of_lt (by first | exact HL1.out | exact HH0.out)]; exact Nat.le_refl _, HR7⟩
                    · have hpn : ¬ (osr[0].p = y.p) := by rw [← HPO.out]; exact hp
                      have HI0 := Aside0.mk hi0
                      clear hp hi0
                      obtain ⟨ca, hca⟩ := OPB.cells (HR5.out.xs.obj osr[0] (List.getElem_mem _))
                      obtain ⟨cb, hcb⟩ := OPB.cells (HR5.out.xs.obj o2 HR5.out.me)
                      rw [HPO.out] at hcb
                      have hpe : ∀ n, (Go.binOp .eql 72 (.pointer (some ⟨osr[0].p, 0, none⟩)) (.pointer (some ⟨y.p, 0, none⟩))).run Try.prog (w5.drewN n) = .ok (.bool false) (w5.drewN n) := fun n => run_eql_ptr_other (te := 87) (w5.drewN n) (by kernel_rfl) (j := (Try.prog.info? 87).getD default) (by kernel_rfl) (by decide +kernel) (fun e => hpn (by injection e)) (((pw_below_drewN (Below.refl w5.heap.size w5) n).block _ (blk_lt hca)).trans hca) (((pw_below_drewN (Below.refl w5.heap.size w5) n).block _ (blk_lt hcb)).trans hcb)
                      go_wp2_with fail
                      go_quiet (fail)
                      obtain ⟨w6, hw6⟩ : ∃ w6, w5.drewN nq = w6 := ⟨_, rfl⟩
                      rw [hw6]
                      have hb56 : Below w5.heap.size w5 w6 := by rw [← hw6]; exact pw_below_drewN (Below.refl _ _) _
                      have HR6 := Aside0.mk (HR5.out.below hb56)
                      have HWO := Aside0.mk (without_calls HR6.out.xs (by have := HLR.out; omega) 0 0 (fun j hj => by omega))
                      have HHH := Aside0.mk hh
                      clear hw6 hb56 hx0 hx1 hx2 hx3 hx4 hx5 hx6 hx7 g3 b0 b1 b2 b3 b4 b5 b6 hh
                      go_wp2_with fail
                      refine HWO.out.mono ?_
                      rintro e7 w7 ⟨rfl, hf7, hX7⟩
                      have HR7 := Aside0.mk (HR6.out.less HI0.out HHH.out HKO.out hf7 hX7)
                      clear hf7 hX7
                      go_wp2_with fail
                      go_roundg (osr.length - 1)
                      case measure => have := HH0.out; omega
                      case rel => exact ⟨osr.eraseIdx 0, _, by rw [List.length_eraseIdx_of_lt (by first | exact HL1.out | exact HH0.out)]; exact Nat.le_refl _, HR7⟩
                  · go_wp2_with fail
                    refine start_ (n := 8) (S := fun V => LopR own x L os2 f g W #[.int .u8 kd, .int .u8 g.ver, .int .u32 g.ep, .int .u32 g.id, .int .u16 g.ix, .int .u16 g.cnt, .slice A g.body.length cp] (w1.heap.size + 1) y o2 ownr osr V) (ds := []) #[false, false, false, false, false, false, false, false] (by kernel_rfl) rfl rfl hs0 (fun hH => ?_)
                    rw [hX] at hH ⊢
                    clear hs0 hX
                    refine pure_ (i := 0) (N := some 123) (v := ?_) (a' := ?_) #[true, false, false, false, false, false, false, false] rfl rfl (by kernel_rfl) (fun _ _ _ h => h) (Or.inl ⟨by rfl, ?_⟩) ?_ ?_
                    rotate_left
                    · intro w'
                      go_simp
                      with_reducible rfl
                    rotate_left
                    · simp only [Act.put, List.setIfInBounds_toArray, List.set_cons_zero, List.set_cons_succ, i64_w, i32_w]
                      rfl
                    refine pure_ (i := 2) (N := some 125) (v := ?_) (a' := ?_) #[true, false, true, false, false, false, false, false] rfl rfl (by kernel_rfl) (fun _ _ _ h => h) (Or.inl ⟨by rfl, ?_⟩) ?_ ?_
                    rotate_left
                    · intro w'
                      go_simp
                      with_reducible rfl
                    rotate_left
                    · simp only [Act.put, List.setIfInBounds_toArray, List.set_cons_zero, List.set_cons_succ, i64_w, i32_w]
                      rfl
                    refine pure_ (i := 3) (N := some 126) (v := ?_) (a' := ?_) #[true, false, true, true, false, false, false, false] rfl rfl (by kernel_rfl) (fun _ _ _ h => h) (Or.inl ⟨by rfl, ?_⟩) ?_ ?_
                    rotate_left
                    · intro w'
                      go_simp
                      with_reducible rfl
                    rotate_left
                    · simp only [Act.put, List.setIfInBounds_toArray, List.set_cons_zero, List.set_cons_succ, i64_w, i32_w]
                      rfl
                    refine pure_ (i := 4) (N := some 127) (v := ?_) (a' := ?_) #[true, false, true, true, true, false, false, false] rfl rfl (by kernel_rfl) (fun _ _ _ h => h) (Or.inl ⟨by rfl, ?_⟩) ?_ ?_
                    rotate_left
                    · intro w'
                      go_simp
                      with_reducible rfl
                    rotate_left
                    · simp only [Act.put, List.setIfInBounds_toArray, List.set_cons_zero, List.set_cons_succ, i64_w, i32_w]
                      rfl
                    refine pure_ (i := 5) (N := some 128) (v := ?_) (a' := ?_) #[true, false, true, true, true, true, false, false] rfl rfl (by kernel_rfl) (fun _ _ _ h => h) (Or.inl ⟨by rfl, ?_⟩) ?_ ?_
                    rotate_left
                    · intro w'
                      go_simp
                      with_reducible rfl
                    rotate_left
                    · simp only [Act.put, List.setIfInBounds_toArray, List.set_cons_zero, List.set_cons_succ, i64_w, i32_w]
                      rfl
                    refine take_ (i := 6) (N := some 129) (v := ?_) (a' := ?_) #[true, false, true, true, true, true, true, false] rfl rfl (by kernel_rfl) (fun _ _ _ h => h) (Or.inl ⟨by rfl, ?_⟩) hH ?_ ?_
                    rotate_left
                    · rintro w' hs_
                      obtain ⟨_, _, _, t0, _⟩ := hs_.xs.reads
                      go_simp
                      with_reducible rfl
                    rotate_left
                    · simp only [Act.put, List.setIfInBounds_toArray, List.set_cons_zero, List.set_cons_succ, i64_w, i32_w]
                      rfl
                    refine one_ (i := 1) (N := some 124) #[true, true, true, true, true, true, true, false] rfl rfl (by kernel_rfl) (by decide) (fun K hK => ?_)
                    refine goes_ Try.func17 (by kernel_rfl) rfl #[.pointer (some ⟨x, 0, none⟩)] (by rfl) rfl rfl (by (try simp only [List.map_toArray, List.map_cons, List.map_nil]); first | done | rfl) ?_
                    refine (HHELD.out _ hH).mono ?_
                    rintro e5 w5 ⟨rfl, hb5⟩
                    refine ⟨_, rfl, ?_⟩
                    have hS_ := (hH).below hb5
                    clear hb5
                    refine hK.out _ _ hS_ (fun hH1 => ?_)
                    clear hS_
                    clear hK K
                    refine norm_ (a' := ?_) ?_ ?_
                    rotate_left
                    · show Act.put _ (some 124) _ = _
                      simp only [Act.put, List.setIfInBounds_toArray, List.set_cons_zero, List.set_cons_succ, i64_w, i32_w]
                      rfl
                    refine pure_ (i := 7) (N := some 130) (v := ?_) (a' := ?_) #[true, true, true, true, true, true, true, true] rfl rfl (by kernel_rfl) (fun _ _ _ h => h) (Or.inl ⟨by rfl, ?_⟩) ?_ ?_
                    rotate_left
                    · intro w'
                      go_simp
                      with_reducible rfl
                    rotate_left
                    · simp only [Act.put, List.setIfInBounds_toArray, List.set_cons_zero, List.set_cons_succ, i64_w, i32_w]
                      rfl
                    refine done_ (by kernel_rfl) ?_
                    have HR5 := Aside0.mk hH1
                    have ht3 : Room.fit L f g.ep g.id os2.length (aOf os2) = aOf osr := by
                      rw [← hH1.ft]
                      cases osr.length with
                      | zero => rfl
                      | succ n => unfold Room.fit; rw [if_neg (by omega)]
                    have hat := fit_at (L := L) (n := os2.length) HM2.out.keys (List.mem_map.2 ⟨o2, HMO.out, rfl⟩) HKO.out
                    rw [ht3] at hat
                    obtain ⟨k3, hk3⟩ : ∃ k3, Room.idx (Room.isK f g.ep g.id) (aOf osr) = k3 := ⟨_, rfl⟩
                    rw [hk3] at hat
                    have hl3 : k3 < osr.length := by have := hat.1; rwa [aOf_len] at this
                    have hwh := rwhole_ok (hH1.xs.obj o2 hH1.me) (by have h1 := HGM.out.2.2.2.1; have h2 := HCO.out; omega) (by have h1 := HGM.out.2.2.1; have h2 := HCO.out; omega) (by have h1 := HM2.out.sz _ (List.mem_map.2 ⟨o2, HMO.out, rfl⟩); have h2 := HLM.out.b2; omega)
                    rw [HPO.out, show ByteArray.empty = (⟨#[]⟩ : ByteArray) from rfl] at hwh
                    have HWH := Aside0.mk hwh
                    have HT3 := Aside0.mk ht3
                    have HK3 := Aside0.mk hk3
                    have HL3 := Aside0.mk hl3
                    have HFIN := Aside0.mk (fin_eq (L := L) HM2.out.keys (List.mem_map.2 ⟨o2, HMO.out, rfl⟩) HKO.out)
                    have HL2a : Aside0 ((aOf os2).length = os2.length) := ⟨aOf_len _⟩
                    obtain ⟨b0, b1, b2, b3, b4, b5, b6⟩ := box7c hH1.bo
                    clear ht3 hat hk3 hl3 hwh hH hH1 HHELD
                    go_wp2_with fail
                    refine HWH.out.mono ?_
                    rintro e6 w6 ⟨hb6, (⟨hne, rfl⟩ | ⟨heq, rfl⟩)⟩
                    · have HR6 := Aside0.mk (HR5.out.below hb6)
                      have HNE := Aside0.mk hne
                      clear hb6 hne b0 b1 b2 b3 b4 b5 b6
                      go_wp2_with fail
                      go_ret3
                      refine xput_none (os' := osr) ?_ HR6.out.fr HR6.out.xs HR6.out.ow
                      rw [HRP.out, HFIN.out, if_neg (by have h1 := HNE.out; omega), HL2a.out, HT3.out]
                    · have HR6 := Aside0.mk (HR5.out.below hb6)
                      have HEQ := Aside0.mk heq
                      have hfi := xfind_calls HR6.out.xs (by have := HLR.out; omega) f g.ep g.id
                      have hix : Room.ixI (Room.isK f g.ep g.id) (aOf osr) = (k3 : Int) := by
                        unfold Room.ixI
                        rw [HK3.out, aOf_len, if_pos HL3.out]
                      rw [hix] at hfi
                      have HFI := Aside0.mk hfi
                      clear hb6 heq hfi hix b0 b1 b2 b3 b4 b5 b6
                      obtain ⟨v0, v1, v2, v3, v4, v5, v6⟩ := box7c HR6.out.b5
                      go_wp2_with fail
                      refine HFI.out.mono ?_
                      rintro e7 w7 ⟨rfl, hb7⟩
                      have HR7 := Aside0.mk (HR6.out.below hb7)
                      have HWO := Aside0.mk (without_calls HR7.out.xs (by have := HLR.out; omega) k3 k3 (fun j hj => by omega))
                      clear hb7 v0 v1 v2 v3 v4 v5 v6
                      go_wp2_with fail
                      refine HWO.out.mono ?_
                      rintro e8 w8 ⟨rfl, hf8, hX8⟩
                      have HF8 := Aside0.mk hf8
                      have HX8 := Aside0.mk hX8
                      clear hf8 hX8
                      go_wp2_with fail
                      go_ret3
                      refine xput_end (os' := osr.eraseIdx k3) (c := 0) (ok := true) (bs := Room.whole o2.a.ps o2.a.cnt.toNat) ?_ (HR7.out.fr.then_ HF8.out (fun q hq h => (HR7.out.ow q h).resolve_right (by omega))) HX8.out (fun q hq => by
                        rcases hq with hq | hq
                        · exact HR7.out.ow q hq
                        · have h1 := blk_lt HR7.out.b5
                          exact .inr (by omega))
                      rw [HRP.out, HFIN.out, if_pos HEQ.out, aOf_eraseIdx, HL2a.out, HT3.out, HK3.out]
        · have d1 : (y.a.ver == g.ver) = false := by simpa using hvv
          have d1' : (y.a.ver != g.ver) = true := by simpa using hvv
          have HPUT : Aside0 (Room.put L (aOf os) f g = (aOf os, [], false, 3)) := ⟨by
            unfold Room.put
            simp only
            rw [HK.out]
            rcases HONE.out.get with h1 | ⟨h1, _, h2⟩
            · rw [h1]
              simp only
              have h3 := HGL.out
              rw [if_neg (fun e => hvv e.2.2.1), if_neg (by omega), if_pos (.inr hvv)]
            · exact absurd (by rw [h2]) hvv⟩
          clear hvv hcc
          go_wp2_with fail
          go_ret3
          exact xput_none HPUT.out (Fr.of_below HONE.out.fr) HONE.out.xs HO0.out
      · have d0 : (y.a.cnt == g.cnt) = false := by simpa using hcc
        have d0' : (y.a.cnt != g.cnt) = true := by simpa using hcc
        have HPUT : Aside0 (Room.put L (aOf os) f g = (aOf os, [], false, 3)) := ⟨by
          unfold Room.put
          simp only
          rw [HK.out]
          rcases HONE.out.get with h1 | ⟨h1, _, h2⟩
          · rw [h1]
            simp only
            have h3 := HGL.out
            rw [if_neg (fun e => hcc e.2.1), if_neg (by omega), if_pos (.inl hcc)]
          · exact absurd (by rw [h2]) hcc⟩
        clear hcc
        go_wp2_with fail
        go_ret3
        exact xput_none HPUT.out (Fr.of_below HONE.out.fr) HONE.out.xs HO0.out
end Go.Proofs.Ytaeelmkpjgmdlaa.H
