/- Mine. Chapter 23, by hand: asm's New, Take, Tick, Held, Memory. -/
import Derived.Test.YtaeelmkpjgmdlaaHS
namespace Go.Proofs.Ytaeelmkpjgmdlaa.H
open Go Go.Proofs Go.RowKit Go.Lib Go.Proofs.Ytaeelmkpjgmdlaa.P Go.Proofs.YtaeelmkpjgmdlaaW.PrintWords Go.Proofs.YtaeelmkpjgmdlaaW.PrintLast Go.Proofs.YtaeelmkpjgmdlaaW.PrintMore Go.Proofs.YtaeelmkpjgmdlaaW.PrintFlat Go.Proofs.Ytaeelmkpjgmdlaa.Seen
set_option linter.unusedVariables false
set_option linter.unusedSimpArgs false
abbrev SS := Bool × Nat × Nat × Nat
def s0 : SS := (false, 0, 0, 0)
def encS (s : SS) : Value := .agg #[.bool s.1, .int .u32 s.2.1, .int .u32 s.2.2.1, .int .u64 s.2.2.2]
structure SBd (s : SS) : Prop where
  e : s.2.1 < 4294967296
  t : s.2.2.1 < 4294967296
  b : s.2.2.2 < 2 ^ 64
theorem s0_bd : SBd s0 := ⟨by decide, by decide, by decide⟩
theorem mks_bd {s : SS} (h : SBd s) {e i : Nat} (he : e < 4294967296) (hi : i < 4294967296) : SBd (mks s e i) := by
  have := mk_bounds (any := s.1) h.e h.t h.b he hi
  exact ⟨this.1, this.2.1, this.2.2⟩
def upM (mem : Int → SS) (f : Int) (s : SS) : Int → SS := fun i => if i = f then s else mem i
/-- A map from senders to what is known of them. -/
def MM (b n : Nat) (mem : Int → SS) (W : World) : Prop := ∃ D, W.ownsMap Try.prog 34 RV b n D ∧ Maps.Tidy D ∧ ∀ i, D.atKey (.int .u16 i) (.held (encS s0)) = .held (encS (mem i))
theorem key16 (i : Int) : WideAt.IsKeyLit (.int .u16 i) := by simp [WideAt.IsKeyLit]
theorem MM.look {b n : Nat} {mem : Int → SS} {W : World} (h : MM b n mem W) (f : Int) (hf : (Lit.int .u16 f).wf = true) : (Instr.lookup 100 (.map (some b)) (.int .u16 f) false).run Try.prog W = .ok (encS (mem f)) W := by
  obtain ⟨D, h1, h2, h3⟩ := h
  obtain ⟨v, ps, hrun, hv⟩ := h1.lookup (Maps.int_keyed Try.underlying34) Try.underlying100 (Try.zeroValue94 W) (zd := .held (encS s0)) (zp := []) rfl (Maps.keyOf_int_mk (P := Try.prog) Try.underlying34 hf)
  rw [h3 f] at hv
  have : v = encS (mem f) := by
    have h4 := congrArg (fun z : Option (DataW Value × List MemPlace) => z.map Prod.fst) hv
    simpa using h4
  rw [← this]
  exact hrun
theorem MM.store {b n : Nat} {mem : Int → SS} {W : World} (h : MM b n mem W) (f : Int) (s : SS) (hf : (Lit.int .u16 f).wf = true) (hn : n < maxLen) : ∃ w', (Instr.mapUpdate 100 (.map (some b)) (.int .u16 f) (encS s)).run Try.prog W = .ok () w' ∧ MM b (n + 1) (upM mem f s) w' ∧ W.mapTurned w' b := by
  obtain ⟨D, h1, h2, h3⟩ := h
  obtain ⟨w', hrun, r1, r2⟩ := h1.store (Maps.int_keyed Try.underlying34) Try.underlying100 hn (Maps.keyOf_int_mk (P := Try.prog) Try.underlying34 hf) (show RV (encS s) = some (.held (encS s), []) from rfl)
  refine ⟨w', hrun, ⟨_, r1, h2.put (key16 f) _, fun i => ?_⟩, r2⟩
  unfold upM
  by_cases hi : i = f
  · rw [if_pos hi, hi, Maps.atKey_put_same h2.isMap (key16 f)]
  · rw [if_neg hi, Maps.atKey_put_other (by intro e; injection e with _ e; exact hi e)]
    exact h3 i
theorem MM.frame {b n : Nat} {mem : Int → SS} {W W' : World} (h : MM b n mem W) (hb : W'.heap[b]? = W.heap[b]?) : MM b n mem W' := by
  obtain ⟨D, ⟨es, clock, h1, r⟩, h2, h3⟩ := h
  exact ⟨D, ⟨es, clock, hb.trans h1, r⟩, h2, h3⟩
theorem MM.lt {b n : Nat} {mem : Int → SS} {W : World} (h : MM b n mem W) : b < W.heap.size := by
  obtain ⟨D, h1, h2, h3⟩ := h
  exact h1.lt
/-- What comes of datagrams. -/
structure AX (own : Nat → Prop) (a t b : Nat) (ownT : Nat → Prop) (L : Room.Lim) (os : List OB) (mem : Int → SS) (n : Nat) (W : World) : Prop where
  oa : own a
  ob : own b
  ne : a ≠ b
  st : W.heap[a]? = some (.cells #[.bool true, .pointer (some ⟨t, 0, none⟩), .map (some b)] 102 (0, 0))
  tb : TS ownT t L os W
  sub : ∀ q, ownT q → own q ∧ q ≠ a ∧ q ≠ b
  mm : MM b n mem W
  lt : ∀ q, own q → q < W.heap.size
theorem AX.frame {own S : Nat → Prop} {a t b : Nat} {ownT : Nat → Prop} {L : Room.Lim} {os : List OB} {mem : Int → SS} {n : Nat} {W W' : World} (h : AX own a t b ownT L os mem n W) (hf : Fr S W W') (hd : ∀ k, own k → ¬ S k) : AX own a t b ownT L os mem n W' :=
  ⟨h.oa, h.ob, h.ne, (hf.block a (h.lt a h.oa) (hd a h.oa)).trans h.st, h.tb.frame hf (fun k hk => hd k (h.sub k hk).1), h.sub, h.mm.frame (hf.block b (h.lt b h.ob) (hd b h.ob)), fun q hq => Nat.lt_of_lt_of_le (h.lt q hq) hf.size⟩
theorem AX.below {own : Nat → Prop} {a t b : Nat} {ownT : Nat → Prop} {L : Room.Lim} {os : List OB} {mem : Int → SS} {n : Nat} {W W' : World} (h : AX own a t b ownT L os mem n W) (hb : Below W.heap.size W W') : AX own a t b ownT L os mem n W' := h.frame (S := fun _ => False) (Fr.of_below hb) (fun _ _ h => h)
def AS (own : Nat → Prop) (a : Nat) (L : Room.Lim) (os : List OB) (mem : Int → SS) (n : Nat) (W : World) : Prop := ∃ t b ownT, AX own a t b ownT L os mem n W
theorem AS.below {own : Nat → Prop} {a : Nat} {L : Room.Lim} {os : List OB} {mem : Int → SS} {n : Nat} {W W' : World} (h : AS own a L os mem n W) (hb : Below W.heap.size W W') : AS own a L os mem n W' := by
  obtain ⟨t, b, ownT, h⟩ := h
  exact ⟨t, b, ownT, h.below hb⟩
theorem AS.lt {own : Nat → Prop} {a : Nat} {L : Room.Lim} {os : List OB} {mem : Int → SS} {n : Nat} {W : World} (h : AS own a L os mem n W) : ∀ q, own q → q < W.heap.size := by
  obtain ⟨t, b, ownT, h⟩ := h
  exact h.lt
theorem adead_ok {a : Nat} {W : World} (h : W.cell? ⟨a, 0, none⟩ = some (.bool true)) : Calls Try.prog 53 #[.pointer (some ⟨a, 0, none⟩)] W fun e w' => e = .returned (.bool false) ∧ W = w' := by
  go_enter Try.func53, Try.ntmps53
  go_wp2
  go_ret
  exact ⟨rfl, rfl⟩
theorem i_nat {x : Int} (h : (Lit.int .u32 x).wf = true) : x = (x.toNat : Int) ∧ x.toNat < 4294967296 := by
  simp [Lit.wf, IntKind.min, IntKind.max, IntKind.bits, IntKind.signed] at h
  omega
theorem fresh_ok {s : SS} (h : SBd s) {ep id : Int} (he : (Lit.int .u32 ep).wf = true) (hi : (Lit.int .u32 id).wf = true) (W : World) : Calls Try.prog 54 #[encS s, .int .u32 ep, .int .u32 id] W fun e w' => e = .returned (.int .i64 (frs s ep.toNat id.toNat)) ∧ Below W.heap.size W w' := by
  obtain ⟨e1, _⟩ := i_nat he
  obtain ⟨e2, _⟩ := i_nat hi
  have h1 := seen_fresh s.1 s.2.1 s.2.2.1 s.2.2.2 ep.toNat id.toNat h.t h.b
  rw [← e1, ← e2] at h1
  exact seen_Fresh.calls _ _ _ _ _ _ _ W h1
theorem mark_ok {s : SS} (h : SBd s) {ep id : Int} (he : (Lit.int .u32 ep).wf = true) (hi : (Lit.int .u32 id).wf = true) (W : World) : Calls Try.prog 55 #[encS s, .int .u32 ep, .int .u32 id] W fun e w' => e = .returned (encS (mks s ep.toNat id.toNat)) ∧ Below W.heap.size W w' := by
  obtain ⟨e1, _⟩ := i_nat he
  obtain ⟨e2, l2⟩ := i_nat hi
  have h1 := seen_mark s.1 s.2.1 s.2.2.1 s.2.2.2 ep.toNat id.toNat h.t l2 h.b
  rw [← e1, ← e2] at h1
  exact seen_Mark.calls _ _ _ _ _ _ _ _ _ _ W h1
/-- What a datagram tells: the messages and the memory behind it, the bytes, whether, and why not. -/
def takeR (L : Room.Lim) (os : List Room.OA) (mem : Int → SS) (f kd : Int) (g : Room.GA) : (List Room.OA × (Int → SS)) × List Int × Bool × Int :=
  if kd ≠ 1 then ((os, mem), [], false, 9)
  else if frs (mem f) g.ep.toNat g.id.toNat ≠ 0 then ((os, mem), [], false, frs (mem f) g.ep.toNat g.id.toNat)
  else (((Room.put L os f g).1, if (Room.put L os f g).2.2.1 = true then upM mem f (mks (mem f) g.ep.toNat g.id.toNat) else mem), (Room.put L os f g).2.1, (Room.put L os f g).2.2.1, (Room.put L os f g).2.2.2)
def TakeP (own : Nat → Prop) (a : Nat) (L : Room.Lim) (n : Nat) (r : (List Room.OA × (Int → SS)) × List Int × Bool × Int) (W : World) (e' : Ending) (w' : World) : Prop :=
  Fr own W w' ∧ ∃ own' os' n' v, AS own' a L os' r.1.2 n' w' ∧ n' ≤ n + 1 ∧ (∀ q, own' q → own q ∨ W.heap.size ≤ q) ∧ aOf os' = r.1.1 ∧ e' = .returned (.tuple #[v, .bool r.2.2.1, .int .i64 r.2.2.2]) ∧ ∃ A c, v = .slice A r.2.1.length c ∧ r.2.1.length ≤ c ∧ Stay own' W w' A r.2.1
theorem take_none {own : Nat → Prop} {a : Nat} {L : Room.Lim} {os : List OB} {mem : Int → SS} {n : Nat} {r : (List Room.OA × (Int → SS)) × List Int × Bool × Int} {W w' : World} {c : Int} (hr : r = ((aOf os, mem), [], false, c)) (hf : Fr own W w') (h : AS own a L os mem n w') : TakeP own a L n r W (.returned (.tuple #[.slice none 0 0, .bool false, .int .i64 c])) w' := by
  subst hr
  exact ⟨hf, own, os, n, _, h, Nat.le_succ n, fun q hq => .inl hq, rfl, rfl, nil_C _ _ _⟩
theorem AX.put {own ownT own4 : Nat → Prop} {a t b n : Nat} {L : Room.Lim} {os os4 : List OB} {mem : Int → SS} {X w4 : World} (h : AX own a t b ownT L os mem n X)
    (hf : Fr ownT X w4) (hT4 : TS own4 t L os4 w4) (ho : ∀ q, own4 q → ownT q ∨ X.heap.size ≤ q) : AX (fun q => own q ∨ own4 q) a t b own4 L os4 mem n w4 where
  oa := .inl h.oa
  ob := .inl h.ob
  ne := h.ne
  st := (hf.block a (h.lt a h.oa) (fun e => (h.sub a e).2.1 rfl)).trans h.st
  tb := hT4
  sub := fun q hq => by
    have ha := h.lt a h.oa
    have hb := h.lt b h.ob
    refine ⟨.inr hq, ?_, ?_⟩
    · rcases ho q hq with h1 | h1
      · exact (h.sub q h1).2.1
      · omega
    · rcases ho q hq with h1 | h1
      · exact (h.sub q h1).2.2
      · omega
  mm := h.mm.frame (hf.block b (h.lt b h.ob) (fun e => (h.sub b e).2.2 rfl))
  lt := fun q hq => by
    rcases hq with hq | hq
    · exact Nat.lt_of_lt_of_le (h.lt q hq) hf.size
    · exact hT4.lt q hq
theorem AX.turned {own ownT : Nat → Prop} {a t b n n' : Nat} {L : Room.Lim} {os : List OB} {mem mem' : Int → SS} {X w : World} (h : AX own a t b ownT L os mem n X) (ht : X.mapTurned w b) (hm : MM b n' mem' w) : AX own a t b ownT L os mem' n' w := by
  have hf : Fr (fun q => q = b) X w := Fr.of_grown ht.grown rfl
  exact ⟨h.oa, h.ob, h.ne, (hf.block a (h.lt a h.oa) h.ne).trans h.st, h.tb.frame hf (fun q hq e => (h.sub q hq).2.2 e), h.sub, hm, fun q hq => Nat.lt_of_lt_of_le (h.lt q hq) hf.size⟩
theorem take_yes {own own' : Nat → Prop} {a : Nat} {L : Room.Lim} {os' : List OB} {mem' : Int → SS} {n n' : Nat} {r : (List Room.OA × (Int → SS)) × List Int × Bool × Int} {W w' : World} {c : Int} {ok : Bool} {bs : List Int} {A : Option Addr} {cc : Nat} (hr : r = ((aOf os', mem'), bs, ok, c)) (hf : Fr own W w') (h : AS own' a L os' mem' n' w') (hn : n' ≤ n + 1) (ho : ∀ q, own' q → own q ∨ W.heap.size ≤ q)
    (hl : bs.length ≤ cc) (hC : Stay own' W w' A bs) : TakeP own a L n r W (.returned (.tuple #[.slice A bs.length cc, .bool ok, .int .i64 c])) w' := by
  subst hr
  exact ⟨hf, own', os', n', _, h, hn, ho, rfl, rfl, A, cc, rfl, hl, hC⟩
structure MrkS (a b n z : Nat) (g : Room.GA) (mem : Int → SS) (V : World) : Prop where
  m2 : V.cell? ⟨a, 2, none⟩ = some (.map (some b))
  x2 : V.cell? ⟨z, 2, none⟩ = some (.int .u32 g.ep)
  x3 : V.cell? ⟨z, 3, none⟩ = some (.int .u32 g.id)
  lt : b < V.heap.size
  mm : MM b n mem V
theorem MrkS.below {a b n z : Nat} {g : Room.GA} {mem : Int → SS} {V V' : World} (h : MrkS a b n z g mem V) (hb : Below V.heap.size V V') : MrkS a b n z g mem V' :=
  ⟨pw_cell_below hb h.m2, pw_cell_below hb h.x2, pw_cell_below hb h.x3, Nat.lt_of_lt_of_le h.lt hb.size, h.mm.frame (hb.block b h.lt)⟩
set_option maxHeartbeats 8000000 in
set_option maxRecDepth 100000 in
theorem take_calls {own : Nat → Prop} {a : Nat} {L : Room.Lim} {os : List OB} {mem : Int → SS} {n : Nat} {W : World} (h' : AS own a L os mem n W) (hl : LimOk L) (hi : RInv L (aOf os)) (hbd : ∀ i, SBd (mem i)) (hn : n ≤ 1000000) (f kd : Int) (hfw : (Lit.int .u16 f).wf = true) (g : Room.GA) (hg : Gm g) (hge : (Lit.int .u32 g.ep).wf = true) (hgi : (Lit.int .u32 g.id).wf = true) (A : Option Addr) (cp : Nat) (hcp : g.body.length ≤ cp)
    (hbody : ∀ V, Fr own W V → Kd.C (Kd.int .u8) V A g.body.length g.body) :
    Calls Try.prog 22 #[.pointer (some ⟨a, 0, none⟩), .int .u16 f, .agg #[.int .u8 kd, .int .u8 g.ver, .int .u32 g.ep, .int .u32 g.id, .int .u16 g.ix, .int .u16 g.cnt, .slice A g.body.length cp]] W (TakeP own a L n (takeR L (aOf os) mem f kd g) W) := by
  obtain ⟨t, b, ownT, h⟩ := h'
  obtain ⟨V, hV⟩ : ∃ V, (W.alloc (.cells #[.int .u8 kd, .int .u8 g.ver, .int .u32 g.ep, .int .u32 g.id, .int .u16 g.ix, .int .u16 g.cnt, .slice A g.body.length cp] 38)) = V := ⟨_, rfl⟩
  have hbV : Below W.heap.size W V := by rw [← hV]; exact below_alloc (Below.refl _ _) _
  have hx5 : V.heap[W.heap.size]? = some (.cells #[.int .u8 kd, .int .u8 g.ver, .int .u32 g.ep, .int .u32 g.id, .int .u16 g.ix, .int .u16 g.cnt, .slice A g.body.length cp] 38 (0, 0)) := by rw [← hV]; exact heap_alloc_new W _
  have HBV := Aside0.mk hbV
  have HX5 := Aside0.mk hx5
  have HASV := Aside0.mk (h.below hbV)
  have HTL := Aside0.mk h.lt
  have hst := HASV.out.st
  have HI := Aside0.mk hi
  have HLM := Aside0.mk hl
  have HBND := Aside0.mk hbd
  have HGM := Aside0.mk (And.intro hg (And.intro hge hgi))
  have HWF := Aside0.mk hfw
  have HN : Aside0 (n < maxLen) := ⟨by unfold maxLen; omega⟩
  have HCP := Aside0.mk (And.intro hcp hbody)
  have a0 : V.cell? ⟨a, 0, none⟩ = some (.bool true) := (blk_cell hst 0).trans rfl
  have HDEAD := Aside0.mk (adead_ok a0)
  obtain ⟨v0, v1, v2, v3, v4, v5, v6⟩ := box7c hx5
  clear h hl hi hbd hn hfw hg hge hgi hcp hbody hbV hx5 hst a0
  by_cases hk : kd = 1
  · subst hk
    obtain ⟨s, hs⟩ : ∃ s, mem f = s := ⟨_, rfl⟩
    have HSF := Aside0.mk hs
    clear hs
    obtain ⟨X, hX⟩ : ∃ X, V.drew = X := ⟨_, rfl⟩
    have hbX : Below V.heap.size V X := by rw [← hX]; exact (Below.refl _ _).drew
    have HBX := Aside0.mk hbX
    have hlook : (Instr.lookup 100 (.map (some b)) (.int .u16 f) false).run Try.prog X = .ok (.agg #[.bool s.1, .int .u32 s.2.1, .int .u32 s.2.2.1, .int .u64 s.2.2.2]) X := by
      have h1 := (HASV.out.mm.frame (hbX.block b HASV.out.mm.lt)).look f HWF.out
      rw [HSF.out] at h1
      exact h1
    have HFRESH := Aside0.mk (fresh_ok (s := s) (by rw [← HSF.out]; exact HBND.out f) HGM.out.2.1 HGM.out.2.2 X)
    have m2 : X.cell? ⟨a, 2, none⟩ = some (.map (some b)) := (blk_cell ((hbX.block a (blk_lt HASV.out.st)).trans HASV.out.st) 2).trans rfl
    have y2 := pw_cell_below hbX v2
    have y3 := pw_cell_below hbX v3
    clear hbX
    go_enter Try.func22, Try.ntmps22
    go_wp2_with fail
    refine HDEAD.out.mono ?_
    rintro e1 w1 ⟨rfl, rfl⟩
    go_wp2_with fail
    refine start_ (n := 12) (S := fun V => V = X) (ds := [10]) #[false, false, false, false, false, false, false, false, false, false, false, false] (by kernel_rfl) rfl rfl hX (fun hH => ?_)
    rw [hX] at hH ⊢
    clear hX
    refine pure_ (i := 0) (N := some 18) (v := ?_) (a' := ?_) #[true, false, false, false, false, false, false, false, false, false, false, false] rfl rfl (by kernel_rfl) (fun _ _ _ h => h) (Or.inl ⟨by rfl, ?_⟩) ?_ ?_
    rotate_left
    · intro w'
      go_simp
      with_reducible rfl
    rotate_left
    · simp only [Act.put, List.setIfInBounds_toArray, List.set_cons_zero, List.set_cons_succ, i64_w, i32_w]
      rfl
    refine pure_ (i := 1) (N := some 19) (v := ?_) (a' := ?_) #[true, true, false, false, false, false, false, false, false, false, false, false] rfl rfl (by kernel_rfl) (fun _ _ _ h => h) (Or.inl ⟨by rfl, ?_⟩) ?_ ?_
    rotate_left
    · intro w'
      go_simp
      with_reducible rfl
    rotate_left
    · simp only [Act.put, List.setIfInBounds_toArray, List.set_cons_zero, List.set_cons_succ, i64_w, i32_w]
      rfl
    refine pure_ (i := 2) (N := some 20) (v := ?_) (a' := ?_) #[true, true, true, false, false, false, false, false, false, false, false, false] rfl rfl (by kernel_rfl) (fun _ _ _ h => h) (Or.inl ⟨by rfl, ?_⟩) ?_ ?_
    rotate_left
    · intro w'
      go_simp
      with_reducible rfl
    rotate_left
    · simp only [Act.put, List.setIfInBounds_toArray, List.set_cons_zero, List.set_cons_succ, i64_w, i32_w]
      rfl
    refine take_ (i := 3) (N := some 21) (v := ?_) (a' := ?_) #[true, true, true, true, false, false, false, false, false, false, false, false] rfl rfl (by kernel_rfl) (fun _ _ _ h => h) (Or.inl ⟨by rfl, ?_⟩) hH ?_ ?_
    rotate_left
    · rintro w' rfl
      go_simp
      with_reducible rfl
    rotate_left
    · simp only [Act.put, List.setIfInBounds_toArray, List.set_cons_zero, List.set_cons_succ, i64_w, i32_w]
      rfl
    refine pure_ (i := 4) (N := some 22) (v := ?_) (a' := ?_) #[true, true, true, true, true, false, false, false, false, false, false, false] rfl rfl (by kernel_rfl) (fun _ _ _ h => h) (Or.inl ⟨by rfl, ?_⟩) ?_ ?_
    rotate_left
    · intro w'
      go_simp
      with_reducible rfl
    rotate_left
    · simp only [Act.put, List.setIfInBounds_toArray, List.set_cons_zero, List.set_cons_succ, i64_w, i32_w]
      rfl
    refine take_ (i := 5) (N := some 23) (v := ?_) (a' := ?_) #[true, true, true, true, true, true, false, false, false, false, false, false] rfl rfl (by kernel_rfl) (fun _ _ _ h => h) (Or.inl ⟨by rfl, ?_⟩) hH ?_ ?_
    rotate_left
    · rintro w' rfl
      have hl_ := hlook
      simp [execOp, Act.eval, hl_, Result.andThen]
      try rfl
    rotate_left
    · simp only [Act.put, List.setIfInBounds_toArray, List.set_cons_zero, List.set_cons_succ, i64_w, i32_w]
      rfl
    refine pure_ (i := 6) (N := some 24) (v := ?_) (a' := ?_) #[true, true, true, true, true, true, true, false, false, false, false, false] rfl rfl (by kernel_rfl) (fun _ _ _ h => h) (Or.inl ⟨by rfl, ?_⟩) ?_ ?_
    rotate_left
    · intro w'
      go_simp
      with_reducible rfl
    rotate_left
    · simp only [Act.put, List.setIfInBounds_toArray, List.set_cons_zero, List.set_cons_succ, i64_w, i32_w]
      rfl
    refine take_ (i := 7) (N := some 25) (v := ?_) (a' := ?_) #[true, true, true, true, true, true, true, true, false, false, false, false] rfl rfl (by kernel_rfl) (fun _ _ _ h => h) (Or.inl ⟨by rfl, ?_⟩) hH ?_ ?_
    rotate_left
    · rintro w' rfl
      go_simp
      with_reducible rfl
    rotate_left
    · simp only [Act.put, List.setIfInBounds_toArray, List.set_cons_zero, List.set_cons_succ, i64_w, i32_w]
      rfl
    refine pure_ (i := 8) (N := some 26) (v := ?_) (a' := ?_) #[true, true, true, true, true, true, true, true, true, false, false, false] rfl rfl (by kernel_rfl) (fun _ _ _ h => h) (Or.inl ⟨by rfl, ?_⟩) ?_ ?_
    rotate_left
    · intro w'
      go_simp
      with_reducible rfl
    rotate_left
    · simp only [Act.put, List.setIfInBounds_toArray, List.set_cons_zero, List.set_cons_succ, i64_w, i32_w]
      rfl
    refine take_ (i := 9) (N := some 27) (v := ?_) (a' := ?_) #[true, true, true, true, true, true, true, true, true, true, false, false] rfl rfl (by kernel_rfl) (fun _ _ _ h => h) (Or.inl ⟨by rfl, ?_⟩) hH ?_ ?_
    rotate_left
    · rintro w' rfl
      go_simp
      with_reducible rfl
    rotate_left
    · simp only [Act.put, List.setIfInBounds_toArray, List.set_cons_zero, List.set_cons_succ, i64_w, i32_w]
      rfl
    refine last_ (i := 10) (N := some 28) #[true, true, true, true, true, true, true, true, true, true, true, false] rfl rfl (by kernel_rfl) (by decide) (fun K hK => ?_)
    refine goes_ Try.func54 (by kernel_rfl) rfl #[.agg #[.bool s.1, .int .u32 s.2.1, .int .u32 s.2.2.1, .int .u64 s.2.2.2], .int .u32 g.ep, .int .u32 g.id] (by rfl) rfl rfl (by (try simp only [List.map_toArray, List.map_cons, List.map_nil]); first | done | rfl) ?_
    refine HFRESH.out.mono ?_
    rintro e3 w3 ⟨rfl, hb3⟩
    refine ⟨_, rfl, ?_⟩
    refine hK.out _ _ ?_
    clear hK K
    refine norm_ (a' := ?_) ?_ ?_
    rotate_left
    · show Act.put _ (some 28) _ = _
      simp only [Act.put, List.setIfInBounds_toArray, List.set_cons_zero, List.set_cons_succ, i64_w, i32_w]
      rfl
    refine pure_ (i := 11) (N := some 9) (v := ?_) (a' := ?_) #[true, true, true, true, true, true, true, true, true, true, true, true] rfl rfl (by kernel_rfl) (fun _ _ _ h => h) (Or.inl ⟨by rfl, ?_⟩) ?_ ?_
    rotate_left
    · intro w'
      go_simp
      with_reducible rfl
    rotate_left
    · simp only [Act.put, List.setIfInBounds_toArray, List.set_cons_zero, List.set_cons_succ, i64_w, i32_w]
      rfl
    refine done_ (by kernel_rfl) ?_
    clear hH m2 y2 y3 hlook v0 v1 v2 v3 v4 v5 v6
    have HB3 := Aside0.mk hb3
    have HX5b := Aside0.mk ((hb3.block _ (blk_lt ((HBX.out.block _ (blk_lt HX5.out)).trans HX5.out))).trans ((HBX.out.block _ (blk_lt HX5.out)).trans HX5.out))
    have HAS3 := Aside0.mk ((HASV.out.below HBX.out).below hb3)
    have hBV3 : Below W.heap.size W w3 := below_then (below_then HBV.out HBV.out.size HBX.out) (Nat.le_trans HBV.out.size HBX.out.size) hb3
    have HBV3 := Aside0.mk hBV3
    clear hb3 hBV3
    by_cases he : frs s g.ep.toNat g.id.toNat = 0
    · have HE := Aside0.mk he
      rw [he]
      obtain ⟨X2, hX2⟩ : ∃ X2, w3.drew = X2 := ⟨_, rfl⟩
      have hbX2 : Below w3.heap.size w3 X2 := by rw [← hX2]; exact (Below.refl _ _).drew
      have HBX2 := Aside0.mk hbX2
      have HAS4 := Aside0.mk (HAS3.out.below hbX2)
      have HX5c := Aside0.mk ((hbX2.block _ (blk_lt HX5b.out)).trans HX5b.out)
      have HBV4 := Aside0.mk (below_then HBV3.out HBV3.out.size hbX2)
      obtain ⟨v0, v1, v2, v3, v4, v5, v6⟩ := box7c HX5c.out
      have hT := HAS4.out.tb
      have hsub := HAS4.out.sub
      have hst := HAS4.out.st
      obtain ⟨r, hr⟩ : ∃ r, Room.put L (aOf os) f g = r := ⟨_, rfl⟩
      have hput := put_calls hT HLM.out HI.out f 1 g HGM.out.1 A cp HCP.out.1 (fun U hU => HCP.out.2 U ((Fr.of_below (own := own) HBV4.out).then_ hU (fun q _ h => (hsub q h).1)))
      rw [hr] at hput
      have HPUT := Aside0.mk hput
      have HRR := Aside0.mk hr
      have m1 : X2.cell? ⟨a, 1, none⟩ = some (.pointer (some ⟨t, 0, none⟩)) := (blk_cell hst 1).trans rfl
      clear hbX2 hst hT hsub hr hput he
      go_wp2_with fail
      refine start_ (n := 14) (S := fun V => V = X2) (ds := [6]) #[false, false, false, false, false, false, false, false, false, false, false, false, false, false] (by kernel_rfl) rfl rfl hX2 (fun hH => ?_)
      rw [hX2] at hH ⊢
      clear hX2
      refine pure_ (i := 0) (N := some 33) (v := ?_) (a' := ?_) #[true, false, false, false, false, false, false, false, false, false, false, false, false, false] rfl rfl (by kernel_rfl) (fun _ _ _ h => h) (Or.inl ⟨by rfl, ?_⟩) ?_ ?_
      rotate_left
      · intro w'
        go_simp
        with_reducible rfl
      rotate_left
      · simp only [Act.put, List.setIfInBounds_toArray, List.set_cons_zero, List.set_cons_succ, i64_w, i32_w]
        rfl
      refine pure_ (i := 1) (N := some 34) (v := ?_) (a' := ?_) #[true, true, false, false, false, false, false, false, false, false, false, false, false, false] rfl rfl (by kernel_rfl) (fun _ _ _ h => h) (Or.inl ⟨by rfl, ?_⟩) ?_ ?_
      rotate_left
      · intro w'
        go_simp
        with_reducible rfl
      rotate_left
      · simp only [Act.put, List.setIfInBounds_toArray, List.set_cons_zero, List.set_cons_succ, i64_w, i32_w]
        rfl
      refine pure_ (i := 2) (N := some 35) (v := ?_) (a' := ?_) #[true, true, true, false, false, false, false, false, false, false, false, false, false, false] rfl rfl (by kernel_rfl) (fun _ _ _ h => h) (Or.inl ⟨by rfl, ?_⟩) ?_ ?_
      rotate_left
      · intro w'
        go_simp
        with_reducible rfl
      rotate_left
      · simp only [Act.put, List.setIfInBounds_toArray, List.set_cons_zero, List.set_cons_succ, i64_w, i32_w]
        rfl
      refine take_ (i := 3) (N := some 36) (v := ?_) (a' := ?_) #[true, true, true, true, false, false, false, false, false, false, false, false, false, false] rfl rfl (by kernel_rfl) (fun _ _ _ h => h) (Or.inl ⟨by rfl, ?_⟩) hH ?_ ?_
      rotate_left
      · rintro w' rfl
        go_simp
        with_reducible rfl
      rotate_left
      · simp only [Act.put, List.setIfInBounds_toArray, List.set_cons_zero, List.set_cons_succ, i64_w, i32_w]
        rfl
      refine pure_ (i := 4) (N := some 37) (v := ?_) (a' := ?_) #[true, true, true, true, true, false, false, false, false, false, false, false, false, false] rfl rfl (by kernel_rfl) (fun _ _ _ h => h) (Or.inl ⟨by rfl, ?_⟩) ?_ ?_
      rotate_left
      · intro w'
        go_simp
        with_reducible rfl
      rotate_left
      · simp only [Act.put, List.setIfInBounds_toArray, List.set_cons_zero, List.set_cons_succ, i64_w, i32_w]
        rfl
      refine take_ (i := 5) (N := some 38) (v := ?_) (a' := ?_) #[true, true, true, true, true, true, false, false, false, false, false, false, false, false] rfl rfl (by kernel_rfl) (fun _ _ _ h => h) (Or.inl ⟨by rfl, ?_⟩) hH ?_ ?_
      rotate_left
      · rintro w' rfl
        go_simp
        with_reducible rfl
      rotate_left
      · simp only [Act.put, List.setIfInBounds_toArray, List.set_cons_zero, List.set_cons_succ, i64_w, i32_w]
        rfl
      refine last_ (i := 6) (N := some 39) #[true, true, true, true, true, true, true, false, false, false, false, false, false, false] rfl rfl (by kernel_rfl) (by decide) (fun K hK => ?_)
      refine goes_ Try.func13 (by kernel_rfl) rfl #[.pointer (some ⟨t, 0, none⟩), .int .u16 f, .agg #[.int .u8 1, .int .u8 g.ver, .int .u32 g.ep, .int .u32 g.id, .int .u16 g.ix, .int .u16 g.cnt, .slice A g.body.length cp]] (by rfl) rfl rfl (by (try simp only [List.map_toArray, List.map_cons, List.map_nil]); first | done | rfl) ?_
      refine HPUT.out.mono ?_
      rintro e4 w4 ⟨hf4, own4, os4, v4, hT4, ho4, ha4, rfl, A4, c4, rfl, hl4, hC4⟩
      refine ⟨_, rfl, ?_⟩
      refine hK.out _ _ ?_
      clear hK K
      refine norm_ (a' := ?_) ?_ ?_
      rotate_left
      · show Act.put _ (some 39) _ = _
        simp only [Act.put, List.setIfInBounds_toArray, List.set_cons_zero, List.set_cons_succ, i64_w, i32_w]
        rfl
      refine pure_ (i := 7) (N := some 32) (v := ?_) (a' := ?_) #[true, true, true, true, true, true, true, true, false, false, false, false, false, false] rfl rfl (by kernel_rfl) (fun _ _ _ h => h) (Or.inl ⟨by rfl, ?_⟩) ?_ ?_
      rotate_left
      · intro w'
        go_simp
        with_reducible rfl
      rotate_left
      · simp only [Act.put, List.setIfInBounds_toArray, List.set_cons_zero, List.set_cons_succ, i64_w, i32_w]
        rfl
      refine pure_ (i := 8) (N := some 40) (v := ?_) (a' := ?_) #[true, true, true, true, true, true, true, true, true, false, false, false, false, false] rfl rfl (by kernel_rfl) (fun _ _ _ h => h) (Or.inl ⟨by rfl, ?_⟩) ?_ ?_
      rotate_left
      · intro w'
        go_simp
        with_reducible rfl
      rotate_left
      · simp only [Act.put, List.setIfInBounds_toArray, List.set_cons_zero, List.set_cons_succ, i64_w, i32_w]
        rfl
      refine pure_ (i := 9) (N := some 41) (v := ?_) (a' := ?_) #[true, true, true, true, true, true, true, true, true, true, false, false, false, false] rfl rfl (by kernel_rfl) (fun _ _ _ h => h) (Or.inl ⟨by rfl, ?_⟩) ?_ ?_
      rotate_left
      · intro w'
        go_simp
        with_reducible rfl
      rotate_left
      · simp only [Act.put, List.setIfInBounds_toArray, List.set_cons_zero, List.set_cons_succ, i64_w, i32_w]
        rfl
      refine pure_ (i := 10) (N := some 42) (v := ?_) (a' := ?_) #[true, true, true, true, true, true, true, true, true, true, true, false, false, false] rfl rfl (by kernel_rfl) (fun _ _ _ h => h) (Or.inl ⟨by rfl, ?_⟩) ?_ ?_
      rotate_left
      · intro w'
        go_simp
        with_reducible rfl
      rotate_left
      · simp only [Act.put, List.setIfInBounds_toArray, List.set_cons_zero, List.set_cons_succ, i64_w, i32_w]
        rfl
      refine pure_ (i := 11) (N := some 10) (v := ?_) (a' := ?_) #[true, true, true, true, true, true, true, true, true, true, true, true, false, false] rfl rfl (by kernel_rfl) (fun _ _ _ h => h) (Or.inl ⟨by rfl, ?_⟩) ?_ ?_
      rotate_left
      · intro w'
        go_simp
        with_reducible rfl
      rotate_left
      · simp only [Act.put, List.setIfInBounds_toArray, List.set_cons_zero, List.set_cons_succ, i64_w, i32_w]
        rfl
      refine pure_ (i := 12) (N := some 11) (v := ?_) (a' := ?_) #[true, true, true, true, true, true, true, true, true, true, true, true, true, false] rfl rfl (by kernel_rfl) (fun _ _ _ h => h) (Or.inl ⟨by rfl, ?_⟩) ?_ ?_
      rotate_left
      · intro w'
        go_simp
        with_reducible rfl
      rotate_left
      · simp only [Act.put, List.setIfInBounds_toArray, List.set_cons_zero, List.set_cons_succ, i64_w, i32_w]
        rfl
      refine pure_ (i := 13) (N := some 12) (v := ?_) (a' := ?_) #[true, true, true, true, true, true, true, true, true, true, true, true, true, true] rfl rfl (by kernel_rfl) (fun _ _ _ h => h) (Or.inl ⟨by rfl, ?_⟩) ?_ ?_
      rotate_left
      · intro w'
        go_simp
        with_reducible rfl
      rotate_left
      · simp only [Act.put, List.setIfInBounds_toArray, List.set_cons_zero, List.set_cons_succ, i64_w, i32_w]
        rfl
      refine done_ (by kernel_rfl) ?_
      clear hH v0 v1 v2 v3 v4 v5 v6 m1
      have HF4 := Aside0.mk hf4
      have hsub := HAS4.out.sub
      have hAS5 : AX (fun q => own q ∨ own4 q) a t b own4 L os4 mem n w4 := HAS4.out.put hf4 hT4 ho4
      have HAS5 := Aside0.mk hAS5
      have HO5 : Aside0 (∀ q, (own q ∨ own4 q) → own q ∨ W.heap.size ≤ q) := ⟨fun q hq => by
        rcases hq with hq | hq
        · exact .inl hq
        · rcases ho4 q hq with h1 | h1
          · exact .inl (hsub q h1).1
          · exact .inr (Nat.le_trans HBV4.out.size h1)⟩
      have HF5 : Aside0 (Fr own W w4) := ⟨(Fr.of_below (own := own) HBV4.out).then_ hf4 (fun q _ h => (hsub q h).1)⟩
      have HAT : Aside0 (aOf os4 = r.1) := ⟨ha4⟩
      have HC4 := Aside0.mk (And.intro hl4 hC4)
      have HX5d := Aside0.mk ((hf4.block _ (blk_lt HX5c.out) (fun e => by have h1 := HTL.out _ (hsub _ e).1; omega)).trans HX5c.out)
      clear hf4 hsub hAS5 ha4 hT4 ho4 hl4 hC4
      obtain ⟨ra, rb, rok, re⟩ := r
      cases rok with
      | false =>
        go_wp2_with fail
        go_ret3
        exact take_yes (by unfold takeR; rw [if_neg (by decide), HSF.out, if_neg (by rw [HE.out]; decide), HRR.out, HAT.out]; rfl) HF5.out ⟨t, b, own4, HAS5.out⟩ (Nat.le_succ n) HO5.out HC4.out.1 (fun S U hU hS => HC4.out.2 S U hU (fun q hq => by
          rcases hS q hq with (h1 | h1) | h1
          · exact .inr (HAS4.out.lt q h1)
          · exact .inl h1
          · exact .inr (Nat.lt_of_lt_of_le h1 HBV4.out.size)))
      | true =>
        obtain ⟨X3, hX3⟩ : ∃ X3, w4.drew = X3 := ⟨_, rfl⟩
        have hbX3 : Below w4.heap.size w4 X3 := by rw [← hX3]; exact (Below.refl _ _).drew
        have HBX3 := Aside0.mk hbX3
        have HAS6 := Aside0.mk (HAS5.out.below hbX3)
        have HX5e := Aside0.mk ((hbX3.block _ (blk_lt HX5d.out)).trans HX5d.out)
        have hst := HAS6.out.st
        have hmm := HAS6.out.mm
        obtain ⟨v0, v1, v2, v3, v4, v5, v6⟩ := box7c HX5e.out
        have hs0 : MrkS a b n W.heap.size g mem w4.drew := by rw [hX3]; exact ⟨(blk_cell hst 2).trans rfl, v2, v3, hmm.lt, hmm⟩
        have HMARK : Aside0 (∀ V, Calls Try.prog 55 #[.agg #[.bool s.1, .int .u32 s.2.1, .int .u32 s.2.2.1, .int .u64 s.2.2.2], .int .u32 g.ep, .int .u32 g.id] V fun e w' => e = .returned (encS (mks s g.ep.toNat g.id.toNat)) ∧ Below V.heap.size V w') := ⟨fun V => mark_ok (s := s) (by rw [← HSF.out]; exact HBND.out f) HGM.out.2.1 HGM.out.2.2 V⟩
        clear hbX3 hst hmm v0 v1 v2 v3 v4 v5 v6
        go_wp2_with fail
        refine start_ (n := 17) (S := MrkS a b n W.heap.size g mem) (ds := [16]) #[false, false, false, false, false, false, false, false, false, false, false, false, false, false, false, false, false] (by kernel_rfl) rfl rfl hs0 (fun hH => ?_)
        rw [hX3] at hH ⊢
        clear hs0 hX3
        refine pure_ (i := 0) (N := some 44) (v := ?_) (a' := ?_) #[true, false, false, false, false, false, false, false, false, false, false, false, false, false, false, false, false] rfl rfl (by kernel_rfl) (fun _ _ _ h => h) (Or.inl ⟨by rfl, ?_⟩) ?_ ?_
        rotate_left
        · intro w'
          go_simp
          with_reducible rfl
        rotate_left
        · simp only [Act.put, List.setIfInBounds_toArray, List.set_cons_zero, List.set_cons_succ, i64_w, i32_w]
          rfl
        refine pure_ (i := 1) (N := some 45) (v := ?_) (a' := ?_) #[true, true, false, false, false, false, false, false, false, false, false, false, false, false, false, false, false] rfl rfl (by kernel_rfl) (fun _ _ _ h => h) (Or.inl ⟨by rfl, ?_⟩) ?_ ?_
        rotate_left
        · intro w'
          go_simp
          with_reducible rfl
        rotate_left
        · simp only [Act.put, List.setIfInBounds_toArray, List.set_cons_zero, List.set_cons_succ, i64_w, i32_w]
          rfl
        refine pure_ (i := 2) (N := some 46) (v := ?_) (a' := ?_) #[true, true, true, false, false, false, false, false, false, false, false, false, false, false, false, false, false] rfl rfl (by kernel_rfl) (fun _ _ _ h => h) (Or.inl ⟨by rfl, ?_⟩) ?_ ?_
        rotate_left
        · intro w'
          go_simp
          with_reducible rfl
        rotate_left
        · simp only [Act.put, List.setIfInBounds_toArray, List.set_cons_zero, List.set_cons_succ, i64_w, i32_w]
          rfl
        refine take_ (i := 3) (N := some 47) (v := ?_) (a' := ?_) #[true, true, true, true, false, false, false, false, false, false, false, false, false, false, false, false, false] rfl rfl (by kernel_rfl) (fun _ _ _ h => h) (Or.inl ⟨by rfl, ?_⟩) hH ?_ ?_
        rotate_left
        · rintro w' ⟨m2, x2, x3, _, mm⟩
          go_simp
          with_reducible rfl
        rotate_left
        · simp only [Act.put, List.setIfInBounds_toArray, List.set_cons_zero, List.set_cons_succ, i64_w, i32_w]
          rfl
        refine pure_ (i := 4) (N := some 48) (v := ?_) (a' := ?_) #[true, true, true, true, true, false, false, false, false, false, false, false, false, false, false, false, false] rfl rfl (by kernel_rfl) (fun _ _ _ h => h) (Or.inl ⟨by rfl, ?_⟩) ?_ ?_
        rotate_left
        · intro w'
          go_simp
          with_reducible rfl
        rotate_left
        · simp only [Act.put, List.setIfInBounds_toArray, List.set_cons_zero, List.set_cons_succ, i64_w, i32_w]
          rfl
        refine pure_ (i := 5) (N := some 49) (v := ?_) (a' := ?_) #[true, true, true, true, true, true, false, false, false, false, false, false, false, false, false, false, false] rfl rfl (by kernel_rfl) (fun _ _ _ h => h) (Or.inl ⟨by rfl, ?_⟩) ?_ ?_
        rotate_left
        · intro w'
          go_simp
          with_reducible rfl
        rotate_left
        · simp only [Act.put, List.setIfInBounds_toArray, List.set_cons_zero, List.set_cons_succ, i64_w, i32_w]
          rfl
        refine pure_ (i := 6) (N := some 50) (v := ?_) (a' := ?_) #[true, true, true, true, true, true, true, false, false, false, false, false, false, false, false, false, false] rfl rfl (by kernel_rfl) (fun _ _ _ h => h) (Or.inl ⟨by rfl, ?_⟩) ?_ ?_
        rotate_left
        · intro w'
          go_simp
          with_reducible rfl
        rotate_left
        · simp only [Act.put, List.setIfInBounds_toArray, List.set_cons_zero, List.set_cons_succ, i64_w, i32_w]
          rfl
        refine pure_ (i := 7) (N := some 51) (v := ?_) (a' := ?_) #[true, true, true, true, true, true, true, true, false, false, false, false, false, false, false, false, false] rfl rfl (by kernel_rfl) (fun _ _ _ h => h) (Or.inl ⟨by rfl, ?_⟩) ?_ ?_
        rotate_left
        · intro w'
          go_simp
          with_reducible rfl
        rotate_left
        · simp only [Act.put, List.setIfInBounds_toArray, List.set_cons_zero, List.set_cons_succ, i64_w, i32_w]
          rfl
        refine take_ (i := 8) (N := some 52) (v := ?_) (a' := ?_) #[true, true, true, true, true, true, true, true, true, false, false, false, false, false, false, false, false] rfl rfl (by kernel_rfl) (fun _ _ _ h => h) (Or.inl ⟨by rfl, ?_⟩) hH ?_ ?_
        rotate_left
        · rintro w' ⟨m2, x2, x3, _, mm⟩
          go_simp
          with_reducible rfl
        rotate_left
        · simp only [Act.put, List.setIfInBounds_toArray, List.set_cons_zero, List.set_cons_succ, i64_w, i32_w]
          rfl
        refine pure_ (i := 9) (N := some 53) (v := ?_) (a' := ?_) #[true, true, true, true, true, true, true, true, true, true, false, false, false, false, false, false, false] rfl rfl (by kernel_rfl) (fun _ _ _ h => h) (Or.inl ⟨by rfl, ?_⟩) ?_ ?_
        rotate_left
        · intro w'
          go_simp
          with_reducible rfl
        rotate_left
        · simp only [Act.put, List.setIfInBounds_toArray, List.set_cons_zero, List.set_cons_succ, i64_w, i32_w]
          rfl
        refine take_ (i := 10) (N := some 54) (v := ?_) (a' := ?_) #[true, true, true, true, true, true, true, true, true, true, true, false, false, false, false, false, false] rfl rfl (by kernel_rfl) (fun _ _ _ h => h) (Or.inl ⟨by rfl, ?_⟩) hH ?_ ?_
        rotate_left
        · rintro w' ⟨m2, x2, x3, _, mm⟩
          have hl_ := (mm.look f HWF.out)
          simp [execOp, Act.eval, hl_, HSF.out, encS, Result.andThen]
          try rfl
        rotate_left
        · simp only [Act.put, List.setIfInBounds_toArray, List.set_cons_zero, List.set_cons_succ, i64_w, i32_w]
          rfl
        refine pure_ (i := 11) (N := some 55) (v := ?_) (a' := ?_) #[true, true, true, true, true, true, true, true, true, true, true, true, false, false, false, false, false] rfl rfl (by kernel_rfl) (fun _ _ _ h => h) (Or.inl ⟨by rfl, ?_⟩) ?_ ?_
        rotate_left
        · intro w'
          go_simp
          with_reducible rfl
        rotate_left
        · simp only [Act.put, List.setIfInBounds_toArray, List.set_cons_zero, List.set_cons_succ, i64_w, i32_w]
          rfl
        refine take_ (i := 12) (N := some 56) (v := ?_) (a' := ?_) #[true, true, true, true, true, true, true, true, true, true, true, true, true, false, false, false, false] rfl rfl (by kernel_rfl) (fun _ _ _ h => h) (Or.inl ⟨by rfl, ?_⟩) hH ?_ ?_
        rotate_left
        · rintro w' ⟨m2, x2, x3, _, mm⟩
          go_simp
          with_reducible rfl
        rotate_left
        · simp only [Act.put, List.setIfInBounds_toArray, List.set_cons_zero, List.set_cons_succ, i64_w, i32_w]
          rfl
        refine pure_ (i := 13) (N := some 57) (v := ?_) (a' := ?_) #[true, true, true, true, true, true, true, true, true, true, true, true, true, true, false, false, false] rfl rfl (by kernel_rfl) (fun _ _ _ h => h) (Or.inl ⟨by rfl, ?_⟩) ?_ ?_
        rotate_left
        · intro w'
          go_simp
          with_reducible rfl
        rotate_left
        · simp only [Act.put, List.setIfInBounds_toArray, List.set_cons_zero, List.set_cons_succ, i64_w, i32_w]
          rfl
        refine take_ (i := 14) (N := some 58) (v := ?_) (a' := ?_) #[true, true, true, true, true, true, true, true, true, true, true, true, true, true, true, false, false] rfl rfl (by kernel_rfl) (fun _ _ _ h => h) (Or.inl ⟨by rfl, ?_⟩) hH ?_ ?_
        rotate_left
        · rintro w' ⟨m2, x2, x3, _, mm⟩
          go_simp
          with_reducible rfl
        rotate_left
        · simp only [Act.put, List.setIfInBounds_toArray, List.set_cons_zero, List.set_cons_succ, i64_w, i32_w]
          rfl
        refine one_ (i := 15) (N := some 59) #[true, true, true, true, true, true, true, true, true, true, true, true, true, true, true, true, false] rfl rfl (by kernel_rfl) (by decide) (fun K hK => ?_)
        refine goes_ Try.func55 (by kernel_rfl) rfl #[.agg #[.bool s.1, .int .u32 s.2.1, .int .u32 s.2.2.1, .int .u64 s.2.2.2], .int .u32 g.ep, .int .u32 g.id] (by rfl) rfl rfl (by (try simp only [List.map_toArray, List.map_cons, List.map_nil]); first | done | rfl) ?_
        refine (HMARK.out _).mono ?_
        rintro e5 w5 ⟨rfl, hb5⟩
        refine ⟨_, rfl, ?_⟩
        have hS_ := hH.below hb5
        have HB5 := Aside0.mk hb5
        clear hb5
        refine hK.out _ _ hS_ (fun hH1 => ?_)
        clear hS_
        clear hK K
        refine norm_ (a' := ?_) ?_ ?_
        rotate_left
        · show Act.put _ (some 59) _ = _
          simp only [Act.put, List.setIfInBounds_toArray, List.set_cons_zero, List.set_cons_succ, i64_w, i32_w]
          rfl
        refine last_ (i := 16) (N := none) #[true, true, true, true, true, true, true, true, true, true, true, true, true, true, true, true, true] rfl rfl (by kernel_rfl) (by decide) (fun K hK => ?_)
        obtain ⟨w6, hrun6, hmm6, ht6⟩ := hH1.mm.store f (mks s g.ep.toNat g.id.toNat) HWF.out HN.out
        refine skip_step (by rfl) (w1 := w6) (by simp [execOp, Act.eval, hrun6, Result.andThen]) ?_
        have HM6 := Aside0.mk hmm6
        have HT6 := Aside0.mk ht6
        have HH5 := Aside0.mk hH1
        clear hmm6 ht6 hrun6
        refine hK.out _ _ ?_
        clear hK K
        refine norm_ (a' := ?_) ?_ ?_
        rotate_left
        · show Act.put _ (none) _ = _
          simp only [Act.put, List.setIfInBounds_toArray, List.set_cons_zero, List.set_cons_succ, i64_w, i32_w]
          rfl
        refine done_ (by kernel_rfl) ?_
        clear hH hH1
        go_wp2_with fail
        go_ret3
        have hb5 : Below X3.heap.size X3 w5 := HB5.out
        have hAX := (HAS6.out.below hb5).turned HT6.out HM6.out
        have hfb : Fr (fun q => q = b) w5 w6 := Fr.of_grown HT6.out.grown rfl
        have hFw : Fr (fun q => q = b) w4 w6 := ((Fr.of_below (own := fun q => q = b) HBX3.out).then_ (Fr.of_below (own := fun _ => False) hb5) (fun _ _ h => h.elim)).then_ hfb (fun q _ h => h)
        have hbW : b < X2.heap.size := HAS4.out.lt b HAS4.out.ob
        have hC : Stay (fun q => own q ∨ own4 q) W w6 A4 rb := fun S U hU hS => HC4.out.2 (fun q => S q ∨ q = b) U ((hFw.mono (own' := fun q => S q ∨ q = b) (fun q _ h => .inr h)).then_ hU (fun q _ h => .inl h)) (fun q hq => by
          rcases hq with hq | hq
          · rcases hS q hq with (h1 | h1) | h1
            · exact .inr (HAS4.out.lt q h1)
            · exact .inl h1
            · exact .inr (Nat.lt_of_lt_of_le h1 HBV4.out.size)
          · exact .inr (by rw [hq]; exact hbW))
        have hF : Fr own W w6 := ((HF5.out.then_ (Fr.of_below (own := fun _ => False) HBX3.out) (fun _ _ h => h.elim)).then_ (Fr.of_below (own := fun _ => False) hb5) (fun _ _ h => h.elim)).then_ hfb (fun q hq e => by
          rw [e]
          rcases HO5.out b HAS5.out.ob with h1 | h1
          · exact h1
          · rw [e] at hq; omega)
        exact take_yes (by unfold takeR; rw [if_neg (by decide), HSF.out, if_neg (by rw [HE.out]; decide), HRR.out, HAT.out]; rfl) hF ⟨t, b, own4, hAX⟩ (Nat.le_refl _) HO5.out HC4.out.1 hC
    · have hne : (frs s g.ep.toNat g.id.toNat != 0) = true := by simpa using he
      have hne2 : (frs s g.ep.toNat g.id.toNat == 0) = false := by simpa using he
      have HE := Aside0.mk he
      clear he
      go_wp2_with fail
      go_ret3
      exact take_none (by unfold takeR; rw [if_neg (by decide), HSF.out, if_pos HE.out]) (Fr.of_below HBV3.out) ⟨t, b, ownT, HAS3.out⟩
  · have hk1 : (kd == 1) = false := by simpa using hk
    have hk2 : (kd != 1) = true := by simpa using hk
    have HK := Aside0.mk hk
    clear hk
    go_enter Try.func22, Try.ntmps22
    go_wp2_with fail
    refine HDEAD.out.mono ?_
    rintro e1 w1 ⟨rfl, rfl⟩
    go_wp2_with fail
    go_ret3
    exact take_none (by unfold takeR; rw [if_pos HK.out]) (Fr.of_below HBV.out) ⟨t, b, ownT, HASV.out⟩
end Go.Proofs.Ytaeelmkpjgmdlaa.H
