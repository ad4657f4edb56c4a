/- Mine. Chapters 22 and 23, by hand: rows of open messages, whose parts lie behind pointers. -/
import Derived.Test.YtaeelmkpjgmdlaaHO
namespace Go.Proofs.Ytaeelmkpjgmdlaa.H
open Go Go.Proofs Go.RowKit Go.Lib Go.Proofs.Ytaeelmkpjgmdlaa.P Go.Proofs.YtaeelmkpjgmdlaaW.PrintWords Go.Proofs.YtaeelmkpjgmdlaaW.PrintLast Go.Proofs.YtaeelmkpjgmdlaaW.PrintMore Go.Proofs.YtaeelmkpjgmdlaaW.PrintFlat
set_option linter.unusedVariables false
set_option linter.unusedSimpArgs false
/-- An open message: what it is, where its parts are, and which blocks are theirs. -/
structure OB where
  a : Room.OA
  p : Nat
  own : Nat → Prop
abbrev cellsB (o : OB) : List Value := [.int .u16 o.a.fr, .int .u32 o.a.ep, .int .u32 o.a.id, .int .u16 o.a.cnt, .int .u8 o.a.ver, .int .i64 o.a.age, .pointer (some ⟨o.p, 0, none⟩)]
abbrev valB (o : OB) : Value := .agg #[.int .u16 o.a.fr, .int .u32 o.a.ep, .int .u32 o.a.id, .int .u16 o.a.cnt, .int .u8 o.a.ver, .int .i64 o.a.age, .pointer (some ⟨o.p, 0, none⟩)]
def zB : OB := ⟨⟨0, 0, 0, 0, 0, 0, []⟩, 0, fun _ => False⟩
def k7 : Kd OB := Kd.iso (Kd.raw 7) cellsB
def rd7 (xs : List OB) (i : Int) : OB := xs.getD i.toNat zB
theorem rd7_eq {xs : List OB} {k : Nat} (h : k < xs.length) : rd7 xs (k : Int) = xs[k] := by
  unfold rd7
  rw [Int.toNat_natCast, List.getD_eq_getElem?_getD, List.getElem?_eq_getElem h]
  rfl
theorem k7_open {w : World} {x : OB} {cs : List Value} (h : k7.K w x cs) : cs = cellsB x := h.1
theorem k7_openM {w : World} {base : Nat} {ok : Nat → Prop} {x : OB} {cs : List Value} (h : k7.M w base ok x cs) : cs = cellsB x := h.1
theorem one7 (x : OB) : ∀ u ∈ cellsB x, u.oneCell' = true := by
  intro u hu
  simp only [cellsB, List.mem_cons, List.not_mem_nil, or_false] at hu
  rcases hu with rfl | rfl | rfl | rfl | rfl | rfl | rfl <;> rfl
theorem k7_mk (w : World) (x : OB) : k7.K w x (cellsB x) := ⟨rfl, rfl, one7 x⟩
theorem k7_mkM (w : World) (base : Nat) (ok : Nat → Prop) (x : OB) : k7.M w base ok x (cellsB x) := ⟨rfl, rfl, one7 x⟩
theorem at7 {w : World} {A : Option Addr} {n : Nat} {xs : List OB} (h : Kd.C k7 w A n xs) (i : Int) (h0 : 0 ≤ i) (h1 : i < n) : ∃ ad , A = some ad ∧
    w.cell? (ad.add (i.toNat * 7)) = some (.int .u16 (rd7 xs i).a.fr) ∧ w.cell? ⟨(ad.add (i.toNat * 7)).block, (ad.add (i.toNat * 7)).off + 1, none⟩ = some (.int .u32 (rd7 xs i).a.ep) ∧
    w.cell? ⟨(ad.add (i.toNat * 7)).block, (ad.add (i.toNat * 7)).off + 2, none⟩ = some (.int .u32 (rd7 xs i).a.id) ∧ w.cell? ⟨(ad.add (i.toNat * 7)).block, (ad.add (i.toNat * 7)).off + 3, none⟩ = some (.int .u16 (rd7 xs i).a.cnt) ∧
    w.cell? ⟨(ad.add (i.toNat * 7)).block, (ad.add (i.toNat * 7)).off + 4, none⟩ = some (.int .u8 (rd7 xs i).a.ver) ∧ w.cell? ⟨(ad.add (i.toNat * 7)).block, (ad.add (i.toNat * 7)).off + 5, none⟩ = some (.int .i64 (rd7 xs i).a.age) ∧
    w.cell? ⟨(ad.add (i.toNat * 7)).block, (ad.add (i.toNat * 7)).off + 6, none⟩ = some (.pointer (some ⟨(rd7 xs i).p, 0, none⟩)) := by
  obtain ⟨ad, c, e, _, hK, hc0⟩ := Kd.C_get h zB i h0 h1
  have hc : ∀ j u, c[j]? = some u → w.cell? (ad.add (i.toNat * 7 + j)) = some u := hc0
  obtain rfl := k7_open hK
  exact ⟨ad, e, hc 0 _ rfl, by rw [← add_field _ _ 1 (by omega)]; exact hc 1 _ rfl, by rw [← add_field _ _ 2 (by omega)]; exact hc 2 _ rfl, by rw [← add_field _ _ 3 (by omega)]; exact hc 3 _ rfl, by rw [← add_field _ _ 4 (by omega)]; exact hc 4 _ rfl, by rw [← add_field _ _ 5 (by omega)]; exact hc 5 _ rfl, by rw [← add_field _ _ 6 (by omega)]; exact hc 6 _ rfl⟩
/-- A row of open messages, each with parts of its own (OBJ). -/
structure Bag (OBJ : OB → World → Prop) (T : Nat) (own : Nat → Prop) (v : Value) (os : List OB) (W : World) : Prop where
  row : ∃ oL : Nat → Prop, k7.R T W 0 oL v os ∧ (∀ k, oL k → own k ∧ ∀ o ∈ os, ¬ o.own k)
  obj : ∀ o ∈ os, OBJ o W
  sub : ∀ o ∈ os, ∀ k, o.own k → own k
  apart : os.Pairwise fun a b => ∀ k, a.own k → ¬ b.own k
  lt : ∀ k, own k → k < W.heap.size
section
variable {OBJ : OB → World → Prop} {T : Nat} {own S : Nat → Prop} {v : Value} {os : List OB} {W W' : World}
theorem Bag.frame (h : Bag OBJ T own v os W) (hO : ∀ (o : OB) (W W' : World) (S : Nat → Prop), OBJ o W → Fr S W W' → (∀ k, o.own k → ¬ S k) → OBJ o W') (hf : Fr S W W') (hd : ∀ k, own k → ¬ S k) : Bag OBJ T own v os W' where
  row := by
    obtain ⟨oL, h1, h2⟩ := h.row
    exact ⟨oL, Kd.R_step h1 (fun k hk hlt => hf.block k hlt (hd k (h2 k hk).1)), h2⟩
  obj := fun o ho => hO o W W' S (h.obj o ho) hf (fun k hk => hd k (h.sub o ho k hk))
  sub := h.sub
  apart := h.apart
  lt := fun k hk => Nat.lt_of_lt_of_le (h.lt k hk) hf.size
theorem Bag.reads (h : Bag OBJ T own v os W) : ∃ A c, v = .slice A os.length c ∧ os.length ≤ c ∧ Kd.C k7 W A os.length os := by
  obtain ⟨oL, h1, h2⟩ := h.row
  exact Kd.R_reads h1
theorem Bag.mono {own' : Nat → Prop} (h : Bag OBJ T own v os W) (hs : ∀ k, own k → own' k) (hl : ∀ k, own' k → k < W.heap.size) : Bag OBJ T own' v os W where
  row := by
    obtain ⟨oL, h1, h2⟩ := h.row
    exact ⟨oL, h1, fun k hk => ⟨hs k (h2 k hk).1, (h2 k hk).2⟩⟩
  obj := h.obj
  sub := fun o ho k hk => hs k (h.sub o ho k hk)
  apart := h.apart
  lt := hl
/-- Behind a call that has written the row alone: fewer messages. -/
theorem Bag.sub_ (h : Bag OBJ T own v os W) (hO : ∀ (o : OB) (W W' : World) (S : Nat → Prop), OBJ o W → Fr S W W' → (∀ k, o.own k → ¬ S k) → OBJ o W') {oL : Nat → Prop} (hL : ∀ k, oL k → own k ∧ ∀ o ∈ os, ¬ o.own k) {g : Nat} (hg : oL g) {os' : List OB} {v' : Value} (hsub : os'.Sublist os)
    (hrow : k7.R T W' 0 oL v' os') (hgr : W.grownBy W' (some g)) : Bag OBJ T own v' os' W' where
  row := ⟨oL, hrow, fun k hk => ⟨(hL k hk).1, fun o ho => (hL k hk).2 o (hsub.subset ho)⟩⟩
  obj := fun o ho => hO o W W' (fun k => k = g) (h.obj o (hsub.subset ho)) (Fr.of_grown hgr rfl) (fun k hk e => (hL g hg).2 o (hsub.subset ho) (by rw [← e]; exact hk))
  sub := fun o ho => h.sub o (hsub.subset ho)
  apart := h.apart.sublist hsub
  lt := fun k hk => Nat.lt_of_lt_of_le (h.lt k hk) hgr.size
end
/-! the two kinds of objects -/
def OPA (o : OB) (W : World) : Prop := PA o.own o.p o.a.cnt o.a.ps W
def OPB (o : OB) (W : World) : Prop := PB o.own o.p o.a.cnt o.a.ps W
theorem OPA.fr (o : OB) (W W' : World) (S : Nat → Prop) (h : OPA o W) (hf : Fr S W W') (hd : ∀ k, o.own k → ¬ S k) : OPA o W' := PA.frame h hf hd
theorem OPB.fr (o : OB) (W W' : World) (S : Nat → Prop) (h : OPB o W) (hf : Fr S W W') (hd : ∀ k, o.own k → ¬ S k) : OPB o W' := PB.frame h hf hd
theorem i69 : (Try.prog.info? 69).map (fun i => (i.zero, i.size, i.bytes)) = some (some (.agg #[.int .u16 0, .int .u32 0, .int .u32 0, .int .u16 0, .int .u8 0, .int .i64 0, .pointer none]), 7, 32) := by kernel_rfl
theorem i74 : (Try.prog.info? 74).map (fun i => (i.zero, i.size, i.bytes)) = some (some (.agg #[.int .u16 0, .int .u32 0, .int .u32 0, .int .u16 0, .int .u8 0, .int .i64 0, .pointer none]), 7, 32) := by kernel_rfl
end Go.Proofs.Ytaeelmkpjgmdlaa.H
