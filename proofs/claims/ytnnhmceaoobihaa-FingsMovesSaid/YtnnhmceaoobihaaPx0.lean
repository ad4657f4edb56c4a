-- Printed by fprint.py (a program of this session's, over the kit's print), for this claim.
import Derived.Test.YtnnhmceaoobihaaProg
import Derived.Test.YtnnhmceaoobihaaWIdx
import Derived.Below
import Derived.Deep.Draws
import Derived.Deep.AppendLies
import Derived.Maps.AppendAt
import Derived.OwnWalk
import Derived.Laws.BytesArg
import Derived.Laws.MakeOwn
import Derived.Laws.OwnMore
import Derived.Deep.OwnRows
import Derived.Tactics
import Derived.Lib.ConvBytes
import Derived.Laws.Slices
import Derived.WalkKit
import Derived.KernelRfl
import Derived.RowKit3
import Derived.Deep.LoopGhost
import Derived.Deep.QuietTactic
import Derived.BigQuiet
import Derived.WideLaws
import Derived.Deep.DeepCutAuto
import Derived.Deep.CutBlock
import Derived.Deep.RegionHeld3
import Derived.Laws.Rows
import Derived.Lib.AppendStr
import Derived.ArgAppend
import Derived.Laws.IdiomCopy
import Derived.OrdersHeld
import Derived.Laws.BitsLemmas
import Derived.RowKit
import Derived.WalkSpells
import Derived.WalkLawsBesides
import Derived.Lib.SliceRun
import Derived.Test.YtnnhmceaoobihaaWFlat
import Derived.Test.YtnnhmceaoobihaaWIns
import Derived.Test.YtnnhmceaoobihaaWSort
import Derived.Test.YtnnhmceaoobihaaSort
import Derived.Test.YtnnhmceaoobihaaWWords
import Derived.Test.YtnnhmceaoobihaaWLast
import Derived.Test.YtnnhmceaoobihaaWTab
import Derived.Test.YtnnhmceaoobihaaWFour
import Derived.Test.YtnnhmceaoobihaaWQPut
import Derived.Test.YtnnhmceaoobihaaWApart
import Derived.Test.YtnnhmceaoobihaaWArr
import Derived.Test.YtnnhmceaoobihaaWZeros
import Derived.Test.YtnnhmceaoobihaaWFoot
import Derived.Test.YtnnhmceaoobihaaWKept
import Derived.Test.YtnnhmceaoobihaaWShare
import Derived.Test.YtnnhmceaoobihaaWN
import Derived.Test.YtnnhmceaoobihaaWFootNe
import Derived.Test.YtnnhmceaoobihaaWAt
import Derived.Test.YtnnhmceaoobihaaWEqStruct
import Derived.Test.YtnnhmceaoobihaaWRepsOne
import Derived.Test.YtnnhmceaoobihaaWInv
import Derived.Test.YtnnhmceaoobihaaWInvWords
import Derived.Test.YtnnhmceaoobihaaWGuard
import Derived.Test.YtnnhmceaoobihaaWNEv
import Derived.Test.YtnnhmceaoobihaaWMore
namespace Go.Proofs.Ytnnhmceaoobihaa.P
open Go.RowKit Go.Proofs.YtnnhmceaoobihaaW.PrintWords Go.Proofs.YtnnhmceaoobihaaW.PrintLast Go.Proofs.YtnnhmceaoobihaaW.PrintMore
attribute [local go_sem] max2_int min2_int max_two min_two max_three min_three max_four min_four   -- for this text's walks alone
set_option linter.unusedVariables false
set_option linter.unusedSimpArgs false



def errW : Option Int → Value
  | none => .nilIface
  | some c => .iface 0 (.int .i64 c)
theorem errW_none : errW none = .nilIface := rfl
theorem errW_some (c : Int) : errW (some c) = .iface 0 (.int .i64 c) := rfl

theorem info26 : (Try.prog.info? 26).map (fun i => (i.zero, i.size, i.bytes)) = some (some (.agg #[(.int .u64 0), (.int .u16 0)]), 2, 16) := by kernel_rfl
theorem info43 : (Try.prog.info? 43).map (fun i => (i.zero, i.size, i.bytes)) = some (some (.agg #[(.int .u64 0), (.int .u16 0), (.int .i64 0)]), 3, 24) := by kernel_rfl
theorem info45 : (Try.prog.info? 45).map (fun i => (i.zero, i.size, i.bytes)) = some (some (.agg #[(.int .i64 0), (.int .u64 0), (.int .u16 0)]), 3, 24) := by kernel_rfl
-- the values' own types
/-! #### struct type 26 -/
structure S26 where
  f0 : Int
  f1 : Int
def z26 : S26 := ⟨(0 : Int), (0 : Int)⟩
def k26 : Kd S26 := Kd.iso (Kd.pair (Kd.int .u64) (Kd.int .u16)) (fun x : S26 => (x.f0, x.f1))
theorem k26_heap : Kd.Heap k26 := Kd.heap_iso _ (Kd.heap_pair (Kd.heap_int .u64) (Kd.heap_int .u16))
theorem k26_open {w : World} {x : S26} {cs : List Value} (h : k26.K w x cs) : cs = [.int .u64 x.f0, .int .u16 x.f1] := by
  obtain ⟨_, _, rfl, rfl, rfl⟩ := h
  exact rfl
theorem k26_openM {w : World} {base : Nat} {ok : Nat → Prop} {x : S26} {cs : List Value} (h : k26.M w base ok x cs) : cs = [.int .u64 x.f0, .int .u16 x.f1] := by
  obtain ⟨_, _, rfl, rfl, rfl⟩ := h
  exact rfl
theorem k26_mk (w : World) (x : S26)  : k26.K w x [.int .u64 x.f0, .int .u16 x.f1] := ⟨[.int .u64 x.f0], [.int .u16 x.f1], rfl, rfl, rfl⟩
theorem k26_mkM (w : World) (base : Nat) (ok : Nat → Prop) (x : S26)  : k26.M w base ok x [.int .u64 x.f0, .int .u16 x.f1] := ⟨[.int .u64 x.f0], [.int .u16 x.f1], rfl, rfl, rfl⟩
theorem k26_mkF (W : World) (ok : Nat → Prop) (x : S26) : Kd.FK k26 W ok x [.int .u64 x.f0, .int .u16 x.f1] := fun W2 _ => k26_mk W2 x
def rd_T26 (xs : List S26) (i : Int) : S26 := xs.getD i.toNat z26
theorem at_T26 {w : World} {A : Option Addr} {n : Nat} {xs : List S26} (h : Kd.C k26 w A n xs) (i : Int) (h0 : 0 ≤ i) (h1 : i < n) : ∃ ad , A = some ad ∧ w.cell? (ad.add (i.toNat * 2)) = some (.int .u64 (rd_T26 xs i).f0) ∧ w.cell? ⟨(ad.add (i.toNat * 2)).block, (ad.add (i.toNat * 2)).off + 1, none⟩ = some (.int .u16 (rd_T26 xs i).f1) := by
  obtain ⟨ad, c, e, _, hK, hc0⟩ := Kd.C_get h z26 i h0 h1
  have hc : ∀ j u, c[j]? = some u → w.cell? (ad.add (i.toNat * 2 + j)) = some u := hc0
  obtain rfl := k26_open hK
  exact ⟨ad, e, hc 0 _ rfl, by rw [← add_field _ _ 1 (by omega)]; exact hc 1 _ rfl⟩

/-! #### struct type 45 -/
structure S45 where
  f0 : Int
  f1 : S26
def z45 : S45 := ⟨(0 : Int), z26⟩
def k45 : Kd S45 := Kd.iso (Kd.pair (Kd.int .i64) k26) (fun x : S45 => (x.f0, x.f1))
theorem k45_heap : Kd.Heap k45 := Kd.heap_iso _ (Kd.heap_pair (Kd.heap_int .i64) k26_heap)
theorem k45_open {w : World} {x : S45} {cs : List Value} (h : k45.K w x cs) : cs = [.int .i64 x.f0, .int .u64 x.f1.f0, .int .u16 x.f1.f1] := by
  obtain ⟨_, _, rfl, rfl, s1⟩ := h
  obtain rfl := k26_open s1
  exact rfl
theorem k45_openM {w : World} {base : Nat} {ok : Nat → Prop} {x : S45} {cs : List Value} (h : k45.M w base ok x cs) : cs = [.int .i64 x.f0, .int .u64 x.f1.f0, .int .u16 x.f1.f1] := by
  obtain ⟨_, _, rfl, rfl, s1⟩ := h
  obtain rfl := k26_openM s1
  exact rfl
theorem k45_mk (w : World) (x : S45)  : k45.K w x [.int .i64 x.f0, .int .u64 x.f1.f0, .int .u16 x.f1.f1] := ⟨[.int .i64 x.f0], [.int .u64 x.f1.f0, .int .u16 x.f1.f1], rfl, rfl, (k26_mk w x.f1 )⟩
theorem k45_mkM (w : World) (base : Nat) (ok : Nat → Prop) (x : S45)  : k45.M w base ok x [.int .i64 x.f0, .int .u64 x.f1.f0, .int .u16 x.f1.f1] := ⟨[.int .i64 x.f0], [.int .u64 x.f1.f0, .int .u16 x.f1.f1], rfl, rfl, (k26_mkM w base ok x.f1 )⟩
theorem k45_mkF (W : World) (ok : Nat → Prop) (x : S45) : Kd.FK k45 W ok x [.int .i64 x.f0, .int .u64 x.f1.f0, .int .u16 x.f1.f1] := fun W2 _ => k45_mk W2 x
def rd_T45 (xs : List S45) (i : Int) : S45 := xs.getD i.toNat z45
theorem at_T45 {w : World} {A : Option Addr} {n : Nat} {xs : List S45} (h : Kd.C k45 w A n xs) (i : Int) (h0 : 0 ≤ i) (h1 : i < n) : ∃ ad , A = some ad ∧ w.cell? (ad.add (i.toNat * 3)) = some (.int .i64 (rd_T45 xs i).f0) ∧ w.cell? ⟨(ad.add (i.toNat * 3)).block, (ad.add (i.toNat * 3)).off + 1, none⟩ = some (.int .u64 (rd_T45 xs i).f1.f0) ∧ w.cell? ⟨(ad.add (i.toNat * 3)).block, (ad.add (i.toNat * 3)).off + 2, none⟩ = some (.int .u16 (rd_T45 xs i).f1.f1) := by
  obtain ⟨ad, c, e, _, hK, hc0⟩ := Kd.C_get h z45 i h0 h1
  have hc : ∀ j u, c[j]? = some u → w.cell? (ad.add (i.toNat * 3 + j)) = some u := hc0
  obtain rfl := k45_open hK
  exact ⟨ad, e, hc 0 _ rfl, by rw [← add_field _ _ 1 (by omega)]; exact hc 1 _ rfl, by rw [← add_field _ _ 2 (by omega)]; exact hc 2 _ rfl⟩

def rd_L5 (xs : List (List S45)) (i : Int) : (List S45) := xs.getD i.toNat ([] : List S45)
theorem at_L5 {w : World} {A : Option Addr} {n : Nat} {xs : List (List S45)} (h : Kd.C (Kd.slice 45 k45) w A n xs) (i : Int) (h0 : 0 ≤ i) (h1 : i < n) : ∃ ad A0 c0, A = some ad ∧ w.cell? (ad.add i.toNat) = some (.slice A0 (rd_L5 xs i).length c0) ∧ (rd_L5 xs i).length ≤ c0 ∧ k45.C w A0 (rd_L5 xs i).length (rd_L5 xs i) := by
  obtain ⟨ad, c, e, _, hK, hc0⟩ := Kd.C_get h ([] : List S45) i h0 h1
  have hc : ∀ j u, c[j]? = some u → w.cell? (ad.add (i.toNat * 1 + j)) = some u := hc0
  obtain ⟨A0, c0, rfl, l0, g0⟩ := hK
  exact ⟨ad, A0, c0, e, by have hq := hc 0 _ rfl; rwa [Nat.mul_one, Nat.add_zero] at hq, l0, g0⟩

/-! #### struct type 43 -/
structure S43 where
  f0 : S26
  f1 : Int
def z43 : S43 := ⟨z26, (0 : Int)⟩
def k43 : Kd S43 := Kd.iso (Kd.pair k26 (Kd.int .i64)) (fun x : S43 => (x.f0, x.f1))
theorem k43_heap : Kd.Heap k43 := Kd.heap_iso _ (Kd.heap_pair k26_heap (Kd.heap_int .i64))
theorem k43_open {w : World} {x : S43} {cs : List Value} (h : k43.K w x cs) : cs = [.int .u64 x.f0.f0, .int .u16 x.f0.f1, .int .i64 x.f1] := by
  obtain ⟨_, _, rfl, s0, rfl⟩ := h
  obtain rfl := k26_open s0
  exact rfl
theorem k43_openM {w : World} {base : Nat} {ok : Nat → Prop} {x : S43} {cs : List Value} (h : k43.M w base ok x cs) : cs = [.int .u64 x.f0.f0, .int .u16 x.f0.f1, .int .i64 x.f1] := by
  obtain ⟨_, _, rfl, s0, rfl⟩ := h
  obtain rfl := k26_openM s0
  exact rfl
theorem k43_mk (w : World) (x : S43)  : k43.K w x [.int .u64 x.f0.f0, .int .u16 x.f0.f1, .int .i64 x.f1] := ⟨[.int .u64 x.f0.f0, .int .u16 x.f0.f1], [.int .i64 x.f1], rfl, (k26_mk w x.f0 ), rfl⟩
theorem k43_mkM (w : World) (base : Nat) (ok : Nat → Prop) (x : S43)  : k43.M w base ok x [.int .u64 x.f0.f0, .int .u16 x.f0.f1, .int .i64 x.f1] := ⟨[.int .u64 x.f0.f0, .int .u16 x.f0.f1], [.int .i64 x.f1], rfl, (k26_mkM w base ok x.f0 ), rfl⟩
theorem k43_mkF (W : World) (ok : Nat → Prop) (x : S43) : Kd.FK k43 W ok x [.int .u64 x.f0.f0, .int .u16 x.f0.f1, .int .i64 x.f1] := fun W2 _ => k43_mk W2 x
def rd_T43 (xs : List S43) (i : Int) : S43 := xs.getD i.toNat z43
theorem at_T43 {w : World} {A : Option Addr} {n : Nat} {xs : List S43} (h : Kd.C k43 w A n xs) (i : Int) (h0 : 0 ≤ i) (h1 : i < n) : ∃ ad , A = some ad ∧ w.cell? (ad.add (i.toNat * 3)) = some (.int .u64 (rd_T43 xs i).f0.f0) ∧ w.cell? ⟨(ad.add (i.toNat * 3)).block, (ad.add (i.toNat * 3)).off + 1, none⟩ = some (.int .u16 (rd_T43 xs i).f0.f1) ∧ w.cell? ⟨(ad.add (i.toNat * 3)).block, (ad.add (i.toNat * 3)).off + 2, none⟩ = some (.int .i64 (rd_T43 xs i).f1) := by
  obtain ⟨ad, c, e, _, hK, hc0⟩ := Kd.C_get h z43 i h0 h1
  have hc : ∀ j u, c[j]? = some u → w.cell? (ad.add (i.toNat * 3 + j)) = some u := hc0
  obtain rfl := k43_open hK
  exact ⟨ad, e, hc 0 _ rfl, by rw [← add_field _ _ 1 (by omega)]; exact hc 1 _ rfl, by rw [← add_field _ _ 2 (by omega)]; exact hc 2 _ rfl⟩

def rd_L7 (xs : List (List S43)) (i : Int) : (List S43) := xs.getD i.toNat ([] : List S43)
theorem at_L7 {w : World} {A : Option Addr} {n : Nat} {xs : List (List S43)} (h : Kd.C (Kd.slice 43 k43) w A n xs) (i : Int) (h0 : 0 ≤ i) (h1 : i < n) : ∃ ad A0 c0, A = some ad ∧ w.cell? (ad.add i.toNat) = some (.slice A0 (rd_L7 xs i).length c0) ∧ (rd_L7 xs i).length ≤ c0 ∧ k43.C w A0 (rd_L7 xs i).length (rd_L7 xs i) := by
  obtain ⟨ad, c, e, _, hK, hc0⟩ := Kd.C_get h ([] : List S43) i h0 h1
  have hc : ∀ j u, c[j]? = some u → w.cell? (ad.add (i.toNat * 1 + j)) = some u := hc0
  obtain ⟨A0, c0, rfl, l0, g0⟩ := hK
  exact ⟨ad, A0, c0, e, by have hq := hc 0 _ rfl; rwa [Nat.mul_one, Nat.add_zero] at hq, l0, g0⟩

def rd_L8 (xs : List (List S26)) (i : Int) : (List S26) := xs.getD i.toNat ([] : List S26)
theorem at_L8 {w : World} {A : Option Addr} {n : Nat} {xs : List (List S26)} (h : Kd.C (Kd.slice 26 k26) w A n xs) (i : Int) (h0 : 0 ≤ i) (h1 : i < n) : ∃ ad A0 c0, A = some ad ∧ w.cell? (ad.add i.toNat) = some (.slice A0 (rd_L8 xs i).length c0) ∧ (rd_L8 xs i).length ≤ c0 ∧ k26.C w A0 (rd_L8 xs i).length (rd_L8 xs i) := by
  obtain ⟨ad, c, e, _, hK, hc0⟩ := Kd.C_get h ([] : List S26) i h0 h1
  have hc : ∀ j u, c[j]? = some u → w.cell? (ad.add (i.toNat * 1 + j)) = some u := hc0
  obtain ⟨A0, c0, rfl, l0, g0⟩ := hK
  exact ⟨ad, A0, c0, e, by have hq := hc 0 _ rfl; rwa [Nat.mul_one, Nat.add_zero] at hq, l0, g0⟩

theorem box2f {w : World} {g t : Nat} {c0 c1 : Value} (h : w.heap[g]? = some (.cells #[c0, c1] t (0, 0))) : w.cell? ⟨g, 0, none⟩ = some c0 ∧ w.cell? ⟨g, 1, none⟩ = some c1 ∧ w.frozen? ⟨g, 0, none⟩ = false ∧ w.frozen? ⟨g, 1, none⟩ = false :=
  ⟨(blk_cell h 0).trans rfl, (blk_cell h 1).trans rfl, blk_frozen h 0, blk_frozen h 1⟩
theorem box3f {w : World} {g t : Nat} {c0 c1 c2 : Value} (h : w.heap[g]? = some (.cells #[c0, c1, c2] t (0, 0))) : w.cell? ⟨g, 0, none⟩ = some c0 ∧ w.cell? ⟨g, 1, none⟩ = some c1 ∧ w.cell? ⟨g, 2, none⟩ = some c2 ∧ w.frozen? ⟨g, 0, none⟩ = false ∧ w.frozen? ⟨g, 1, none⟩ = false ∧ w.frozen? ⟨g, 2, none⟩ = false :=
  ⟨(blk_cell h 0).trans rfl, (blk_cell h 1).trans rfl, (blk_cell h 2).trans rfl, blk_frozen h 0, blk_frozen h 1, blk_frozen h 2⟩
def T' : Bool := true
def F' : Bool := false
theorem la_ {α : Type} (l : List α) (i : Nat) (x : α) : l.toArray.setIfInBounds i x = (l.set i x).toArray := List.setIfInBounds_toArray l i x
theorem lz_ {α : Type} (a : α) (l : List α) (b : α) : (a :: l).set 0 b = b :: l := List.set_cons_zero
theorem ls_ {α : Type} (a : α) (l : List α) (n : Nat) (b : α) : (a :: l).set (n + 1) b = a :: l.set n b := List.set_cons_succ

set_option maxHeartbeats 2000000 in
set_option maxRecDepth 100000 in
theorem idx_45 (p : S45 → Bool) (g : Nat) (lb : Array Value) (eg : ∀ args w, (callFunc g args).run Try.prog w = .ok (.enter g args) w) (A0 : Option Addr) (c0 : Nat) (l0 : List S45) (w : World) (hr0 : Kd.C k45 w A0 l0.length l0)
    (hp : ∀ (W : World) (x : S45), Below w.heap.size w W → Calls Try.prog g (#[.agg #[.int .i64 x.f0, .int .u64 x.f1.f0, .int .u16 x.f1.f1]] ++ lb) W fun e w' => e = .returned (.bool (p x)) ∧ Below W.heap.size W w') :
    Calls Try.prog 20 #[.slice A0 l0.length c0, .func (.func g) #[] lb] w fun e w' => e = .returned (.int .i64 (Go.Proofs.YtnnhmceaoobihaaW.PrintIdx.firstIdx p l0)) ∧ Below w.heap.size w w' := by
  have hu := Try.underlying45
  have HR := Aside0.mk hr0
  have HP := Aside0.mk hp
  have HN : l0.length ≤ 9223372036854775807 := hr0.2.1
  clear hr0 hp
  go_enter Try.func20, Try.ntmps20
  go_wp2
  go_loopg [5, 8] l0.length (fun gg _ s8 wr => ∃ kk : Nat, kk ≤ l0.length ∧ l0.length - kk ≤ gg ∧ s8 = .int .i64 kk ∧ Aside0 (Below w.heap.size w wr) ∧ Aside0 (∀ j, j < kk → p (rd_T45 l0 j) = false))
  case atStart => exact ⟨0, Nat.zero_le _, by omega, rfl, ⟨Below.refl _ w⟩, ⟨fun j hj => absurd hj (Nat.not_lt_zero _)⟩⟩
  case round =>
    obtain ⟨kk, hkk, hg, rfl, HB, HO⟩ := hrel
    by_cases hlt : kk < l0.length
    · have p1 : 0 ≤ ((kk : Nat) : Int) := by omega
      have q1 : ((kk : Nat) : Int) < (l0.length : Int) := by omega
      obtain ⟨ad, e1, hx0, hx1, hx2⟩ := at_T45 HR.out kk p1 q1
      cases e1
      replace hx0 := (HB.out.cell (World.block_lt_of_cell? w _ hx0)).trans hx0
      replace hx1 := (HB.out.cell (World.block_lt_of_cell? w _ hx1)).trans hx1
      replace hx2 := (HB.out.cell (World.block_lt_of_cell? w _ hx2)).trans hx2
      simp only [Int.toNat_natCast] at hx0 hx1 hx2
      have hcall := HP.out wr (rd_T45 l0 kk) HB.out
      obtain ⟨y, hy⟩ : ∃ y, rd_T45 l0 kk = y := ⟨_, rfl⟩
      rw [hy] at hcall hx0 hx1 hx2
      have HY := Aside0.mk hy
      clear hy
      obtain ⟨b, hb0⟩ : ∃ b, p y = b := ⟨_, rfl⟩
      rw [hb0] at hcall
      have HPY := Aside0.mk hb0
      clear hb0
      have HC := Aside0.mk hcall
      clear hcall
      go_wp2_with fail
      refine HC.out.mono ?_
      rintro e w1 ⟨rfl, hb⟩
      have HB2 := Aside0.mk (below_then HB.out HB.out.size hb)
      clear hb HC HP hx0 hx1 hx2 eg
      cases b with
      | true =>
        go_wp2
        go_ret
        refine ⟨?_, HB2.out⟩
        have h := Go.Proofs.YtnnhmceaoobihaaW.PrintIdx.firstIdx_hit p l0 z45 kk hlt (by have h := HPY.out; rw [← HY.out] at h; simpa [rd_T45] using h) (fun j hj => by have := HO.out j hj; simpa [rd_T45] using this)
        rw [h]
        rfl
      | false =>
        go_wp2
        go_roundg (l0.length - (kk + 1))
        case measure => omega
        case rel =>
          refine ⟨kk + 1, by omega, by omega, by go_num, HB2, ⟨fun j hj => ?_⟩⟩
          rcases Nat.lt_or_ge j kk with h | h
          · exact HO.out j h
          · obtain rfl : j = kk := by omega
            rw [HY.out]; exact HPY.out
    · have : kk = l0.length := by omega
      have hn : ¬ ((kk : Nat) : Int) < (l0.length : Int) := by omega
      go_wp2
      go_ret
      refine ⟨?_, HB.out⟩
      rw [Go.Proofs.YtnnhmceaoobihaaW.PrintIdx.firstIdx_miss p l0 z45 (fun j hj => by have := HO.out j (by omega); simpa [rd_T45] using this)]
      rfl
set_option maxHeartbeats 2000000 in
set_option maxRecDepth 100000 in
theorem idx_26 (p : S26 → Bool) (g : Nat) (lb : Array Value) (eg : ∀ args w, (callFunc g args).run Try.prog w = .ok (.enter g args) w) (A0 : Option Addr) (c0 : Nat) (l0 : List S26) (w : World) (hr0 : Kd.C k26 w A0 l0.length l0)
    (hp : ∀ (W : World) (x : S26), Below w.heap.size w W → Calls Try.prog g (#[.agg #[.int .u64 x.f0, .int .u16 x.f1]] ++ lb) W fun e w' => e = .returned (.bool (p x)) ∧ Below W.heap.size W w') :
    Calls Try.prog 27 #[.slice A0 l0.length c0, .func (.func g) #[] lb] w fun e w' => e = .returned (.int .i64 (Go.Proofs.YtnnhmceaoobihaaW.PrintIdx.firstIdx p l0)) ∧ Below w.heap.size w w' := by
  have hu := Try.underlying26
  have HR := Aside0.mk hr0
  have HP := Aside0.mk hp
  have HN : l0.length ≤ 9223372036854775807 := hr0.2.1
  clear hr0 hp
  go_enter Try.func27, Try.ntmps27
  go_wp2
  go_loopg [5, 8] l0.length (fun gg _ s8 wr => ∃ kk : Nat, kk ≤ l0.length ∧ l0.length - kk ≤ gg ∧ s8 = .int .i64 kk ∧ Aside0 (Below w.heap.size w wr) ∧ Aside0 (∀ j, j < kk → p (rd_T26 l0 j) = false))
  case atStart => exact ⟨0, Nat.zero_le _, by omega, rfl, ⟨Below.refl _ w⟩, ⟨fun j hj => absurd hj (Nat.not_lt_zero _)⟩⟩
  case round =>
    obtain ⟨kk, hkk, hg, rfl, HB, HO⟩ := hrel
    by_cases hlt : kk < l0.length
    · have p1 : 0 ≤ ((kk : Nat) : Int) := by omega
      have q1 : ((kk : Nat) : Int) < (l0.length : Int) := by omega
      obtain ⟨ad, e1, hx0, hx1⟩ := at_T26 HR.out kk p1 q1
      cases e1
      replace hx0 := (HB.out.cell (World.block_lt_of_cell? w _ hx0)).trans hx0
      replace hx1 := (HB.out.cell (World.block_lt_of_cell? w _ hx1)).trans hx1
      simp only [Int.toNat_natCast] at hx0 hx1
      have hcall := HP.out wr (rd_T26 l0 kk) HB.out
      obtain ⟨y, hy⟩ : ∃ y, rd_T26 l0 kk = y := ⟨_, rfl⟩
      rw [hy] at hcall hx0 hx1
      have HY := Aside0.mk hy
      clear hy
      obtain ⟨b, hb0⟩ : ∃ b, p y = b := ⟨_, rfl⟩
      rw [hb0] at hcall
      have HPY := Aside0.mk hb0
      clear hb0
      have HC := Aside0.mk hcall
      clear hcall
      go_wp2_with fail
      refine HC.out.mono ?_
      rintro e w1 ⟨rfl, hb⟩
      have HB2 := Aside0.mk (below_then HB.out HB.out.size hb)
      clear hb HC HP hx0 hx1 eg
      cases b with
      | true =>
        go_wp2
        go_ret
        refine ⟨?_, HB2.out⟩
        have h := Go.Proofs.YtnnhmceaoobihaaW.PrintIdx.firstIdx_hit p l0 z26 kk hlt (by have h := HPY.out; rw [← HY.out] at h; simpa [rd_T26] using h) (fun j hj => by have := HO.out j hj; simpa [rd_T26] using this)
        rw [h]
        rfl
      | false =>
        go_wp2
        go_roundg (l0.length - (kk + 1))
        case measure => omega
        case rel =>
          refine ⟨kk + 1, by omega, by omega, by go_num, HB2, ⟨fun j hj => ?_⟩⟩
          rcases Nat.lt_or_ge j kk with h | h
          · exact HO.out j h
          · obtain rfl : j = kk := by omega
            rw [HY.out]; exact HPY.out
    · have : kk = l0.length := by omega
      have hn : ¬ ((kk : Nat) : Int) < (l0.length : Int) := by omega
      go_wp2
      go_ret
      refine ⟨?_, HB.out⟩
      rw [Go.Proofs.YtnnhmceaoobihaaW.PrintIdx.firstIdx_miss p l0 z26 (fun j hj => by have := HO.out j (by omega); simpa [rd_T26] using this)]
      rfl
open Go Go.Proofs Go.Lib Go.Proofs.YtnnhmceaoobihaaW.PrintFlat Go.Proofs.YtnnhmceaoobihaaW.PrintIns
set_option maxHeartbeats 2000000 in
set_option maxRecDepth 100000 in
theorem ins_room (b n c i vb : Nat) (cur vs : Array Value) (w : World) (hi : i < n) (hroom : n + 1 ≤ c) (hc63 : c ≤ 9223372036854775807) (hvb : vb ≠ b)
    (hb : w.heap[b]? = some (.cells cur 45 (0, 0))) (hcs : cur.size = c * 3) (hv : w.heap[vb]? = some (.cells vs 45 (0, 0))) (hvs : vs.size = 3) (h1 : ∀ v ∈ cur.toList.take (n * 3), v.oneCell' = true) (h1v : ∀ v ∈ vs.toList, v.oneCell' = true) :
    Calls Try.prog 23 #[.slice (some ⟨b, 0, none⟩) n c, .int .i64 i, .slice (some ⟨vb, 0, none⟩) 1 1] w fun e w' =>
      e = .returned (.slice (some ⟨b, 0, none⟩) (n + 1) c) ∧ ∃ m, w' = (w.drewN m).setRow b (cur.toList.take (i * 3) ++ vs.toList ++ (cur.toList.drop (i * 3)).take ((n - i) * 3) ++ cur.toList.drop ((n + 1) * 3)).toArray := by
  have hu := Try.underlying22
  have hz2 : ¬ ((i : Int) = (n : Int)) := by omega
  have hov : ∀ o lb cb, (callFunc 38 #[.slice (some ⟨vb, 0, none⟩) 1 1, .slice (some ⟨b, o, none⟩) lb cb]).run Try.prog w = .ok (.value (.bool false)) w := fun o lb cb => by
    rw [run_callFunc_extern Try.func38 (by kernel_rfl) (by kernel_rfl) (by kernel_rfl) (e := Extern.SlicesOverlaps.overlaps #[22, 22] #[4]) (by kernel_rfl),
      Lib.run_overlaps_apart w 22 4 45 hu 3 Try.sizeOf45 ⟨vb, 0, none⟩ ⟨b, o, none⟩ 1 1 lb cb hvb 45 45 vs.size cur.size (by unfold World.shape?; rw [hv]) (by unfold World.shape?; rw [hb]) (by omega) (by unfold World.frozen?; rw [hv]; simp) (by unfold World.frozen?; rw [hv]; simp)]
    rfl
  have hw1 : wrap64 ((i : Int) + 1) = (i : Int) + 1 := by unfold wrap64; omega
  have hw2 : wrap64 ((n : Int) + 1) = (n : Int) + 1 := by unfold wrap64; omega
  have hw3 : IntKind.i64.wrap ((i : Int) + 1) = (i : Int) + 1 := by rw [IntKind.wrap_i64]; omega
  have hb2 : ¬ (c = i + 1) := by omega
  have hb4 : ¬ (c = i) := by omega
  have hb1 : (0 : Int) ≤ (i : Int) + 1 := by omega
  have hb3 : (i : Int) ≤ (n : Int) + 1 := by omega
  have hin : i ≤ n := by omega
  have htn : ((i : Int) + 1).toNat = i + 1 := by omega
  have mixed : Try.prog.follows .mixedOrders = true := by kernel_rfl
  have hsz : (Try.prog.info? 45).map (·.size) = some 3 := by
    obtain ⟨i0, hi0, _, hsz, _⟩ := info_parts info45
    rw [hi0]; simp [hsz]
  have hlen : cur.toList.length = c * 3 := by simpa using hcs
  have hsegl : ((cur.toList.drop (i * 3)).take ((n - i) * 3)).length = (n - i) * 3 := by rw [List.length_take, List.length_drop, hlen]; omega
  obtain ⟨row1, hrow1⟩ : ∃ row1 : Array Value, row1 = (cur.toList.take ((i + 1) * 3) ++ (cur.toList.drop (i * 3)).take ((n - i) * 3) ++ cur.toList.drop ((i + 1) * 3 + (n - i) * 3)).toArray := ⟨_, rfl⟩
  have hr1s : row1.size = c * 3 := by
    rw [hrow1, List.size_toArray, List.length_append, List.length_append, hsegl, List.length_take, List.length_drop, hlen]
    omega
  have hcp1 : ∀ ty dc sc, (Builtin.copy_ #[22, 22] ty #[.slice (some ⟨b, (i + 1) * 3, none⟩) (n - i) dc, .slice (some ⟨b, i * 3, none⟩) (n + 1 - i) sc]).run Try.prog w.drew = .ok (goInt ((n - i : Nat) : Int)) (w.drew.setRow b row1) := fun ty dc sc => by
    have hm : Nat.min (n + 1 - i) (n - i) = n - i := by simp only [Nat.min_def]; split <;> omega
    have h := run_copy_row_k (P := Try.prog) w.drew 22 22 ty 45 3 b ((i + 1) * 3) (n - i) dc ⟨b, i * 3, none⟩ (n + 1 - i) sc cur 45 ((cur.toList.drop (i * 3)).take ((n - i) * 3)) hu hsz hb (by rw [hm, hsegl])
      (fun j v hj => by
        rw [Addr.add_lit]
        show (match w.heap[b]? with | some (.cells c _ _) => _ | _ => _) = _
        rw [hb]
        show cur[i * 3 + j]? = some v
        rw [List.getElem?_take] at hj
        split at hj
        · rw [List.getElem?_drop] at hj
          rw [← Array.getElem?_toList]
          exact hj
        · cases hj) (by rw [hsegl, hcs]; omega) (fun v hv => h1 v (List.mem_of_mem_drop (i := i * 3) (by rw [List.drop_take, show n * 3 - i * 3 = (n - i) * 3 by omega]; exact hv)))
    rw [hm, hsegl, ← hrow1] at h
    exact h
  obtain ⟨row2, hrow2⟩ : ∃ row2 : Array Value, row2 = (row1.toList.take (i * 3) ++ vs.toList ++ row1.toList.drop (i * 3 + vs.toList.length)).toArray := ⟨_, rfl⟩
  have hcp2 : ∀ ty dc, (Builtin.copy_ #[22, 22] ty #[.slice (some ⟨b, i * 3, none⟩) (n + 1 - i) dc, .slice (some ⟨vb, 0, none⟩) 1 1]).run Try.prog (w.drew.setRow b row1) = .ok (goInt 1) ((w.drew.setRow b row1).setRow b row2) := fun ty dc => by
    have hm : Nat.min 1 (n + 1 - i) = 1 := by simp only [Nat.min_def]; split <;> omega
    have hbr : (w.drew.setRow b row1).heap[b]? = some (.cells row1 45 (0, 0)) := setRow_heap w.drew b cur row1 45 (0, 0) hb
    have h := run_copy_row_k (P := Try.prog) (w.drew.setRow b row1) 22 22 ty 45 3 b (i * 3) (n + 1 - i) dc ⟨vb, 0, none⟩ 1 1 row1 45 vs.toList hu hsz hbr (by rw [hm]; simpa using hvs)
      (fun j v hj => by
        rw [Addr.add_lit, Nat.zero_add]
        have hvr : (w.drew.setRow b row1).heap[vb]? = some (.cells vs 45 (0, 0)) := by
          rw [← hv]
          show (w.heap.modify b _)[vb]? = _
          rw [Array.getElem?_modify, if_neg (fun h => hvb h.symm)]
        unfold World.cell?
        rw [hvr]
        rw [Array.getElem?_toList] at hj
        exact hj) (by rw [hr1s]; have : vs.toList.length = 3 := by simpa using hvs
                      omega) h1v
    rw [hm, ← hrow2] at h
    exact h
  have HR1 := Aside0.mk hrow1
  have HR2 := Aside0.mk hrow2
  clear hrow1 hrow2
  go_enter Try.func23, Try.ntmps23
  go_wp2_with (simp only [hov])
  go_region_law_o (refine step_copy_runI rfl _ _ 22 22 rfl _ _ (by simp [Act.eval, Act.put]) (by simp [Act.eval, Act.put]) (hcp1 _ _ _) ?_)
  go_wp2_with (at_builtin; refine wpList_copy_runI _ rfl _ _ 22 22 rfl _ _ rfl rfl (hcp2 _ _) ?_)
  go_ret
  refine ⟨rfl, 1, ?_⟩
  show (w.drew.setRow b row1).setRow b row2 = w.drew.setRow b _
  rw [setRow_setRow, HR2.out]
  congr 2
  have hv3 : vs.toList.length = 3 := by simpa using hvs
  rw [hv3, HR1.out]
  try simp only [List.toList_toArray]
  have t1 : (cur.toList.take ((i + 1) * 3) ++ (cur.toList.drop (i * 3)).take ((n - i) * 3) ++ cur.toList.drop ((i + 1) * 3 + (n - i) * 3)).take (i * 3) = cur.toList.take (i * 3) := by
    rw [List.append_assoc, List.take_append_of_le_length (by rw [List.length_take, hlen]; omega), List.take_take, Nat.min_eq_left (by omega)]
  have t2 : (cur.toList.take ((i + 1) * 3) ++ (cur.toList.drop (i * 3)).take ((n - i) * 3) ++ cur.toList.drop ((i + 1) * 3 + (n - i) * 3)).drop (i * 3 + 3) = (cur.toList.drop (i * 3)).take ((n - i) * 3) ++ cur.toList.drop ((n + 1) * 3) := by
    rw [List.append_assoc, List.drop_append, List.drop_of_length_le (by rw [List.length_take]; omega), List.nil_append, List.length_take, hlen, show i * 3 + 3 - min ((i + 1) * 3) (c * 3) = 0 by omega, List.drop_zero, show (i + 1) * 3 + (n - i) * 3 = (n + 1) * 3 by omega]
  rw [t1, t2]
  simp only [List.append_assoc]
set_option maxHeartbeats 2000000 in
set_option maxRecDepth 100000 in
theorem ins_grow (b n c i vb : Nat) (cur vs : Array Value) (w : World) (hi : i < n) (hnc : n ≤ c) (hroom : c < n + 1) (hbig : (n + 1) * 24 ≤ 140737488355328) (hvb : vb ≠ b)
    (hb : w.heap[b]? = some (.cells cur 45 (0, 0))) (hcs : cur.size = c * 3) (hv : w.heap[vb]? = some (.cells vs 45 (0, 0))) (hvs : vs.size = 3) (h1 : ∀ v ∈ cur.toList.take (n * 3), v.oneCell' = true) (h1v : ∀ v ∈ vs.toList, v.oneCell' = true) :
    Calls Try.prog 23 #[.slice (some ⟨b, 0, none⟩) n c, .int .i64 i, .slice (some ⟨vb, 0, none⟩) 1 1] w fun e w' =>
      ∃ (G : Nat) (row : Array Value), e = .returned (.slice (some ⟨w.heap.size, 0, none⟩) (n + 1) G) ∧ n + 1 ≤ G ∧ G ≤ 9223372036854775807 ∧ row.size = G * 3 ∧ row.toList.take ((n + 1) * 3) = cur.toList.take (i * 3) ++ vs.toList ++ (cur.toList.drop (i * 3)).take ((n - i) * 3) ∧ w'.heap[w.heap.size]? = some (.cells row 45 (0, 0)) ∧ Below w.heap.size w w' := by
  have hu := Try.underlying22
  have hz2 : ¬ ((i : Int) = (n : Int)) := by omega
  have hz3 : (c : Int) < (n : Int) + 1 := by omega
  have hw1 : wrap64 ((i : Int) + 1) = (i : Int) + 1 := by unfold wrap64; omega
  have hw2 : wrap64 ((n : Int) + 1) = (n : Int) + 1 := by unfold wrap64; omega
  have hw3 : IntKind.i64.wrap ((i : Int) + 1) = (i : Int) + 1 := by rw [IntKind.wrap_i64]; omega
  have hw4 : IntKind.i64.wrap ((n : Int) + 1) = (n : Int) + 1 := by rw [IntKind.wrap_i64]; omega
  have hci : ¬ (c = i) := by omega
  have hb1 : (0 : Int) ≤ (i : Int) + 1 := by omega
  have hb3 : (i : Int) ≤ (n : Int) + 1 := by omega
  have hb5 : (i : Int) ≤ (n : Int) := by omega
  have hb6 : (i : Int) + 1 ≤ (n : Int) + 1 := by omega
  have hin : i ≤ n := by omega
  have htn : ((i : Int) + 1).toNat = i + 1 := by omega
  have hlen : cur.toList.length = c * 3 := by simpa using hcs
  have mixed : Try.prog.follows .mixedOrders = true := by kernel_rfl
  obtain ⟨i0, hi0, hz0, hzs, hzb⟩ := info_parts info45
  have hold : (Builtin.firstCells i0.size i (.slice (some ⟨b, 0, none⟩) i c)).run Try.prog w.drew = .ok (cur.toList.take (i * 3)).toArray w.drew := by
    rw [hzs]
    exact run_firstCells_some w.drew 3 i ⟨b, 0, none⟩ i c (cur.toList.take (i * 3)) (by rw [List.length_take]; omega) (fun j v hj => by
      rw [Addr.add_lit, Nat.zero_add]
      show (match w.heap[b]? with | some (.cells c _ _) => _ | _ => _) = _
      rw [hb]
      show cur[j]? = some v
      rw [List.getElem?_take] at hj
      split at hj
      · rw [← Array.getElem?_toList]; exact hj
      · cases hj)
  have hkk : (n : Int) + 1 - (i : Int) = ((n + 1 - i : Nat) : Int) := by omega
  have hik : i + (n + 1 - i) = n + 1 := by omega
  obtain ⟨G, hG⟩ : ∃ G, G = grownCap w (n + 1) c 45 := ⟨_, rfl⟩
  have hrz : ∃ ROW : Array Value, ROW.size = G * 3 ∧ ROW.toList.take (i * 3) = cur.toList.take (i * 3) ∧ ∀ ty, (Builtin.append_ #[22, 3] ty #[.slice (some ⟨b, 0, none⟩) i c, .int .i64 ((n : Int) + 1 - (i : Int))]).run Try.prog w =
      .ok (.slice (some ⟨w.heap.size, 0, none⟩) (n + 1) G) (w.drew.alloc (.cells ROW 45)) := by
    have hGn : n + 1 ≤ G := by rw [hG]; exact grownCap_ge w _ _ _
    refine ⟨(cur.toList.take (i * 3)).toArray ++ Builtin.zeroCells (Value.agg #[.int .i64 0, .int .u64 0, .int .u16 0]).cells (n + 1 - i) ++ Builtin.zeroCells (Value.agg #[.int .i64 0, .int .u64 0, .int .u16 0]).cells (G - (n + 1)), ?_, ?_, fun ty => ?_⟩
    rotate_left 2
    · have h := Lib.run_append_grow_zeros w 22 3 ty 45 i0 _ .i64 .i64 Try.underlying22 Try.underlying3 hi0 hz0 (some ⟨b, 0, none⟩) i c (cur.toList.take (i * 3)) hold (n + 1 - i) (by omega) (by omega) (by omega) (by omega) (by rw [hzb]; omega) (by rw [hzb, hik]; exact growslice_fits hroom hbig)
      rw [hik, ← hG] at h
      rw [hkk]
      exact h
    · simp [Builtin.zeroCells, Value.cells, hlen]
      omega
    · rw [Array.append_assoc, Array.toList_append, List.take_append_of_le_length (by simp [hcs]; omega), List.take_of_length_le (by simp; omega)]
  obtain ⟨ROW, hRs, hRt, hrz⟩ := hrz
  have hGn : n + 1 ≤ G := by rw [hG]; exact grownCap_ge w _ _ _
  have hG63 : G ≤ 9223372036854775807 := by
    have := grownCap_le_maxLen w (n + 1) c 45 (by unfold maxLen; omega)
    rw [← hG] at this
    unfold maxLen at this
    omega
  have hGi : ¬ (G = i) := by omega
  have hGim : ¬ (G = i + 1) := by omega
  have hsz : (Try.prog.info? 45).map (·.size) = some 3 := by rw [hi0]; simp [hzs]
  have hbw : b < w.heap.size := (Array.getElem?_eq_some_iff.1 hb).1
  have hvw : vb < w.heap.size := (Array.getElem?_eq_some_iff.1 hv).1
  have hbN : b ≠ w.heap.size := by omega
  have hvN : vb ≠ w.heap.size := by omega
  have hv3 : vs.toList.length = 3 := by simpa using hvs
  have hsegl : ((cur.toList.drop (i * 3)).take ((n - i) * 3)).length = (n - i) * 3 := by rw [List.length_take, List.length_drop, hlen]; omega
  obtain ⟨row1, hrow1⟩ : ∃ row1 : Array Value, row1 = (ROW.toList.take (i * 3) ++ vs.toList ++ ROW.toList.drop (i * 3 + vs.toList.length)).toArray := ⟨_, rfl⟩
  have hr1s : row1.size = G * 3 := by
    rw [hrow1, List.size_toArray, List.length_append, List.length_append, hv3, List.length_take, List.length_drop]
    simp only [Array.length_toList, hRs]
    omega
  obtain ⟨row2, hrow2⟩ : ∃ row2 : Array Value, row2 = (row1.toList.take ((i + 1) * 3) ++ (cur.toList.drop (i * 3)).take ((n - i) * 3) ++ row1.toList.drop ((i + 1) * 3 + ((cur.toList.drop (i * 3)).take ((n - i) * 3)).length)).toArray := ⟨_, rfl⟩
  have hr2s : row2.size = G * 3 := by
    rw [hrow2, List.size_toArray, List.length_append, List.length_append, hsegl, List.length_take, List.length_drop]
    simp only [Array.length_toList, hr1s]
    omega
  obtain ⟨N, hN⟩ : ∃ N, N = w.heap.size := ⟨_, rfl⟩
  have hcpA : ∀ (W : World), W.heap = (w.alloc (.cells ROW 45)).heap → ∀ ty dc, (Builtin.copy_ #[22, 22] ty #[.slice (some ⟨N, i * 3, none⟩) (n + 1 - i) dc, .slice (some ⟨vb, 0, none⟩) 1 1]).run Try.prog W = .ok (goInt 1) (W.setRow N row1) := fun W hW ty dc => by
    have hm : Nat.min 1 (n + 1 - i) = 1 := by simp only [Nat.min_def]; split <;> omega
    have hNr : W.heap[N]? = some (.cells ROW 45 (0, 0)) := by rw [hW, hN]; exact heap_alloc_new w _
    have h := run_copy_row_k (P := Try.prog) W 22 22 ty 45 3 N (i * 3) (n + 1 - i) dc ⟨vb, 0, none⟩ 1 1 ROW 45 vs.toList hu hsz hNr (by rw [hm]; simpa using hvs)
      (fun j v hj => by
        rw [Addr.add_lit, Nat.zero_add]
        unfold World.cell?
        rw [hW, Below.heap_alloc w _ vb hvw, hv]
        rw [Array.getElem?_toList] at hj
        exact hj) (by rw [hRs, hv3]; omega) h1v
    rw [hm, ← hrow1] at h
    exact h
  have hcpB : ∀ (W : World), W.heap = ((w.alloc (.cells ROW 45)).setRow N row1).heap → ∀ ty dc sc, (Builtin.copy_ #[22, 22] ty #[.slice (some ⟨N, (i + 1) * 3, none⟩) (n + 1 - (i + 1)) dc, .slice (some ⟨b, i * 3, none⟩) (n - i) sc]).run Try.prog W = .ok (goInt ((n - i : Nat) : Int)) (W.setRow N row2) := fun W hW ty dc sc => by
    have hm : Nat.min (n - i) (n + 1 - (i + 1)) = n - i := by simp only [Nat.min_def]; split <;> omega
    have hNr : W.heap[N]? = some (.cells row1 45 (0, 0)) := by rw [hW]; exact setRow_heap (w.alloc (.cells ROW 45)) N ROW row1 45 (0, 0) (by rw [hN]; exact heap_alloc_new w _)
    have h := run_copy_row_k (P := Try.prog) W 22 22 ty 45 3 N ((i + 1) * 3) (n + 1 - (i + 1)) dc ⟨b, i * 3, none⟩ (n - i) sc row1 45 ((cur.toList.drop (i * 3)).take ((n - i) * 3)) hu hsz hNr (by rw [hm, hsegl])
      (fun j v hj => by
        rw [Addr.add_lit]
        unfold World.cell?
        rw [hW, setRow_other _ N b row1 (by rw [hN]; exact hbN), Below.heap_alloc w _ b hbw, hb]
        show cur[i * 3 + j]? = some v
        rw [List.getElem?_take] at hj
        split at hj
        · rw [List.getElem?_drop] at hj
          rw [← Array.getElem?_toList]
          exact hj
        · cases hj) (by rw [hsegl, hr1s]; omega) (fun v hv => h1 v (List.mem_of_mem_drop (i := i * 3) (by rw [List.drop_take, show n * 3 - i * 3 = (n - i) * 3 by omega]; exact hv)))
    rw [hm, ← hrow2] at h
    exact h
  have hgoal : row2.toList.take ((n + 1) * 3) = cur.toList.take (i * 3) ++ vs.toList ++ (cur.toList.drop (i * 3)).take ((n - i) * 3) := by
    rw [hrow2]
    try simp only [List.toList_toArray]
    have e1 : row1.toList.take ((i + 1) * 3) = cur.toList.take (i * 3) ++ vs.toList := by
      rw [hrow1]
      try simp only [List.toList_toArray]
      have hl : (ROW.toList.take (i * 3) ++ vs.toList).length = (i + 1) * 3 := by
        rw [List.length_append, hv3, List.length_take, Array.length_toList, hRs]; omega
      rw [List.take_append_of_le_length (by omega), List.take_of_length_le (by omega), hRt]
    rw [e1]
    have hl2 : (cur.toList.take (i * 3) ++ vs.toList ++ (cur.toList.drop (i * 3)).take ((n - i) * 3)).length = (n + 1) * 3 := by
      rw [List.length_append, List.length_append, hv3, hsegl, List.length_take, hlen]; omega
    rw [List.take_append_of_le_length (by omega), List.take_of_length_le (by omega)]
  rw [← hN] at hrz ⊢
  have HX := Aside0.mk (And.intro hr2s hgoal)
  have HN := Aside0.mk hN
  have hBe : ∀ (W : World), Below N w W → ∀ r, Below N w (W.setRow N r) := fun W h r => ⟨h.os, h.tape, h.output, by show w.heap.size ≤ (W.heap.modify N _).size; rw [Array.size_modify]; exact h.size, fun k hk => by rw [setRow_other W N k r (by omega)]; exact h.block k hk⟩
  have HBe := Aside0.mk hBe
  clear hBe hgoal hr2s hr1s hrow1 hrow2 hRs hRt hold hik hkk hG hN hi0 hz0 hzs hzb hsegl hv3 hlen
  go_enter Try.func23, Try.ntmps23
  go_wp2_with (first
    | (at_builtin; refine Lib.wpList_append_run _ rfl _ _ _ _ rfl _ _ rfl rfl _ _ (hrz _) ?_)
    | (at_builtin; refine wpList_copy_runI _ rfl _ _ 22 22 rfl _ _ rfl rfl (hcpA _ (by rfl) _ _) ?_)
    | (at_builtin; refine wpList_copy_runI _ rfl _ _ 22 22 rfl _ _ rfl rfl (hcpB _ (by rfl) _ _ _) ?_))
  rw [hcpA (w.alloc (Obj.cells ROW 45)).drew rfl]
  simp only [Result.andThen_ok]
  go_wp2
  go_region_law_o (refine step_copy_runI rfl _ _ 22 22 rfl (.slice (some ⟨N, (i + 1) * 3, none⟩) (n + 1 - (i + 1)) (G - (i + 1))) (.slice (some ⟨b, i * 3, none⟩) (n - i) (c - i)) (by simp [Act.eval, Act.put]) (by simp [Act.eval, Act.put]) (hcpB _ (by rfl) 3 (G - (i + 1)) (c - i)) ?_)
  go_wp2
  go_ret
  refine ⟨G, row2, rfl, hGn, hG63, HX.out.1, HX.out.2, ?_, ?_⟩
  · exact setRow_heap _ N row1 row2 45 (0, 0) (setRow_heap (w.alloc (.cells ROW 45)) N ROW row1 45 (0, 0) (by rw [HN.out]; exact heap_alloc_new w _))
  · have hB0 : Below N w (w.alloc (.cells ROW 45)) := by rw [HN.out]; exact below_alloc (Below.refl _ w) _
    have hB1 := HBe.out _ hB0.drew row1
    exact HBe.out _ hB1.drew row2

def enc45 (x : S45) : List Value := [.int .i64 x.f0, .int .u64 x.f1.f0, .int .u16 x.f1.f1]
theorem enc45_one (xs : List S45) : ∀ v ∈ xs.flatMap enc45, v.oneCell' = true := by
  intro v hv
  obtain ⟨x, _, hx⟩ := List.mem_flatMap.1 hv
  unfold enc45 at hx
  simp at hx
  rcases hx with rfl | rfl | rfl <;> rfl
set_option maxHeartbeats 1000000 in
theorem ins_R (base : Nat) (ok : Nat → Prop) (v : Value) (xs : List S45) (i : Nat) (x : S45) (vb : Nat) (w : World) (hi : i ≤ xs.length) (h : Kd.R k45 45 w base ok v xs) (hne : ∀ b, v.ownBlock = some b → vb ≠ b)
    (hv : w.heap[vb]? = some (.cells #[.int .i64 x.f0, .int .u64 x.f1.f0, .int .u16 x.f1.f1] 45 (0, 0))) (hsz : (xs.length + 1) * 24 ≤ 140737488355328) (hok : ∀ k, w.heap.size ≤ k → ok k) (hbs : base ≤ w.heap.size) :
    Calls Try.prog 23 #[v, .int .i64 i, .slice (some ⟨vb, 0, none⟩) 1 1] w fun e w' => ∃ v', e = .returned v' ∧ Kd.R k45 45 w' base ok v' (xs.take i ++ x :: xs.drop i) ∧ Below base w w' := by
  have hof := owned_flat k45 45 enc45 (fun _ => rfl) (fun h => k45_openM h) h
  by_cases hin : i < xs.length
  · rcases hof with ⟨rfl, rfl⟩ | ⟨b, cap, cur, rfl, hb, hokb, hh, hc1, hc2, hc3, hc4⟩
    · simp at hin
    have hvb : vb ≠ b := hne b rfl
    have hk3 : k45.sz = 3 := rfl
    rw [hk3] at hc3 hc4
    have hone : ∀ v ∈ cur.toList.take (xs.length * 3), v.oneCell' = true := by rw [hc4]; exact enc45_one xs
    have h1v : ∀ v ∈ (#[.int .i64 x.f0, .int .u64 x.f1.f0, .int .u16 x.f1.f1] : Array Value).toList, v.oneCell' = true := by
      intro v hv
      simp at hv
      rcases hv with rfl | rfl | rfl <;> rfl
    have hcm : cap ≤ 9223372036854775807 := hc2
    have e1 : cur.toList.take (i * 3) = (xs.take i).flatMap enc45 := by
      rw [← flat_take enc45 3 (fun _ => rfl), ← hc4, List.take_take, Nat.min_eq_left (by omega)]
    have e2 : (cur.toList.drop (i * 3)).take ((xs.length - i) * 3) = (xs.drop i).flatMap enc45 := by
      rw [← flat_drop enc45 3 (fun _ => rfl), ← hc4, List.drop_take, show xs.length * 3 - i * 3 = (xs.length - i) * 3 by omega]
    have e3 : cur.toList.take (i * 3) ++ (#[.int .i64 x.f0, .int .u64 x.f1.f0, .int .u16 x.f1.f1] : Array Value).toList ++ (cur.toList.drop (i * 3)).take ((xs.length - i) * 3) = (xs.take i ++ x :: xs.drop i).flatMap enc45 := by
      rw [e1, e2, List.flatMap_append, List.flatMap_cons, List.append_assoc]
      rfl
    have hln : (xs.take i ++ x :: xs.drop i).length = xs.length + 1 := by simp; omega
    have hll : (cur.toList.take (i * 3) ++ (#[.int .i64 x.f0, .int .u64 x.f1.f0, .int .u16 x.f1.f1] : Array Value).toList ++ (cur.toList.drop (i * 3)).take ((xs.length - i) * 3)).length = (xs.length + 1) * 3 := by
      rw [e3, flat_len enc45 3 (fun _ => rfl), hln]
    by_cases hroom : xs.length + 1 ≤ cap
    · refine (ins_room b xs.length cap i vb cur _ w hin hroom hcm hvb hh hc3 hv rfl hone h1v).mono ?_
      rintro e w' ⟨rfl, m, rfl⟩
      refine ⟨_, rfl, ?_, ?_⟩
      · refine flat_owned k45 45 enc45 (fun _ => rfl) (fun w b ok x => k45_mkM w b ok x) _ b cap (xs.length + 1) _ hln.symm hb hokb (setRow_heap (w.drewN m) b cur _ 45 (0, 0) hh) (by rw [hln]; exact hroom) hc2 ?_ ?_
        · have hcl : cur.toList.length = cap * 3 := by simpa using hc3
          rw [hk3, List.size_toArray, List.length_append, hll, List.length_drop, hcl]; omega
        · rw [hk3, hln, List.toList_toArray, List.take_append_of_le_length (by rw [hll]; exact Nat.le_refl _), List.take_of_length_le (by rw [hll]; exact Nat.le_refl _), e3]
      · have hB := pw_below_drewN (Below.refl base w) m
        exact ⟨hB.os, hB.tape, hB.output, by show w.heap.size ≤ ((w.drewN m).heap.modify b _).size; rw [Array.size_modify]; exact hB.size, fun k hk => by rw [setRow_other (w.drewN m) b k _ (by omega)]; exact hB.block k hk⟩
    · refine (ins_grow b xs.length cap i vb cur _ w hin hc1 (by omega) hsz hvb hh hc3 hv rfl hone h1v).mono ?_
      rintro e w' ⟨G, row, rfl, g1, g2, g3, g4, g5, g6⟩
      refine ⟨_, rfl, ?_, g6.mono hbs⟩
      exact flat_owned k45 45 enc45 (fun _ => rfl) (fun w b ok x => k45_mkM w b ok x) _ w.heap.size G (xs.length + 1) row hln.symm hbs (hok _ (Nat.le_refl _)) g5 (by rw [hln]; exact g1) g2 (by rw [hk3]; exact g3) (by rw [hk3, hln, g4, e3])
  · obtain rfl : i = xs.length := by omega
    have hR : ReadsRow (k45.K w) 3 w (some ⟨vb, 0, none⟩) 1 [x] := by
      refine ⟨rfl, Nat.le_of_ble_eq_true rfl, fun _ => ⟨_, rfl, fun j p hj => ⟨enc45 x, rfl, ?_, fun i u hu => ?_⟩⟩⟩
      · rcases j with _ | j
        · obtain rfl : x = p := by simpa using hj
          exact k45_mk w x
        · simp at hj
      · rcases j with _ | j
        · rw [Addr.add_lit]
          unfold World.cell?
          simp only [Nat.zero_mul, Nat.zero_add]
          rw [hv]
          unfold enc45 at hu
          simpa using hu
        · simp at hj
    rw [List.take_length, List.drop_length]
    have HR := Aside0.mk hR
    have HO := Aside0.mk h
    have HS := Aside0.mk hsz
    have HK := Aside0.mk hok
    have HBS := Aside0.mk hbs
    rcases hof with ⟨rfl, rfl⟩ | ⟨b, cap, cur, rfl, hb, hokb, hh, hc1, hc2, hc3, hc4⟩
    · have hu := Try.underlying22
      have mixed : Try.prog.follows .mixedOrders = true := by kernel_rfl
      have hn0 : ((0 : Nat) : Int) = 0 := rfl
      clear hR h hsz hok hbs hv hne hi hin
      go_enter Try.func23, Try.ntmps23
      go_wp2_with (at_builtin; go_loud (refine Kd.R_append_rows k45 (Rr := k45.K w) base rfl _ _ 22 45 _ 24 rfl Try.underlying22 info45 rfl (by decide) (by decide) _ [] [x] _ _ _ ok (fun _ => False) rfl rfl HO.out HR.out (fun _ _ h => h) (fun _ h => h.elim) HK.out (Below.refl _ _) HBS.out HS.out ?_; intro v1 w1 hown hB hg hat))
      go_ret
      exact ⟨v1, rfl, hown, hB⟩
    · clear hh hc2 hc3 hc4 hokb hb
      obtain ⟨n, hn⟩ : ∃ n, n = xs.length := ⟨_, rfl⟩
      rw [← hn] at HO HS hc1 ⊢
      have HN := Aside0.mk hn
      clear hn
      have hn0 : (0 : Int) ≤ (n : Int) := by omega
      by_cases hcn : cap = n
      · subst hcn
        have hu := Try.underlying22
        have mixed : Try.prog.follows .mixedOrders = true := by kernel_rfl
        clear hR h hsz hok hbs hv hne hi hin
        go_enter Try.func23, Try.ntmps23
        go_wp2_with (at_builtin; go_loud (refine Kd.R_append_rows k45 (Rr := k45.K w) base rfl _ _ 22 45 _ 24 rfl Try.underlying22 info45 rfl (by decide) (by decide) _ xs [x] _ _ _ ok (fun _ => False) rfl rfl HO.out HR.out (fun _ _ h => h) (fun _ h => h.elim) HK.out (Below.refl _ _) HBS.out (by rw [← HN.out]; exact HS.out) ?_; intro v1 w1 hown hB hg hat))
        go_ret
        exact ⟨v1, rfl, hown, hB⟩
      · have hu := Try.underlying22
        have mixed : Try.prog.follows .mixedOrders = true := by kernel_rfl
        clear hR h hsz hok hbs hv hne hi hin
        go_enter Try.func23, Try.ntmps23
        go_wp2_with (at_builtin; go_loud (refine Kd.R_append_rows k45 (Rr := k45.K w) base rfl _ _ 22 45 _ 24 rfl Try.underlying22 info45 rfl (by decide) (by decide) _ xs [x] _ _ _ ok (fun _ => False) rfl rfl HO.out HR.out (fun _ _ h => h) (fun _ h => h.elim) HK.out (Below.refl _ _) HBS.out (by rw [← HN.out]; exact HS.out) ?_; intro v1 w1 hown hB hg hat))
        go_ret
        exact ⟨v1, rfl, hown, hB⟩

theorem run_clear_row (P : Program) (w : World) (t e ty : TypeId) (z : Value) (ht : P.underlying t = some (.slice e)) (hv : ∀ w, (zeroValue e).run P w = .ok z w) (h1 : ∀ v ∈ z.cells.toList, v.oneCell' = true) (g o n c : Nat) (hn : 0 < n) (cur : Array Value) (et : TypeId)
    (hg : w.heap[g]? = some (.cells cur et (0, 0))) (hfit : o + n * z.cells.size ≤ cur.size) :
    (Builtin.clear_ #[t] ty #[.slice (some ⟨g, o, none⟩) n c]).run P w = .ok (.tuple #[]) (w.setRow g (cur.toList.take o ++ (Builtin.zeroCells z.cells n).toList ++ cur.toList.drop (o + (Builtin.zeroCells z.cells n).toList.length)).toArray) := by
  have hl : (Builtin.zeroCells z.cells n).toList.length = n * z.cells.size := by simp [Builtin.zeroCells]
  have ho : ∀ v ∈ (Builtin.zeroCells z.cells n).toList, v.oneCell' = true := by
    intro v hv
    simp only [Builtin.zeroCells, Array.toList_map, List.mem_map] at hv
    obtain ⟨i, hi, rfl⟩ := hv
    have hi2 : i < n * z.cells.size := by simpa using hi
    have hs : 0 < z.cells.size := by
      rcases Nat.eq_zero_or_pos z.cells.size with h | h
      · rw [h] at hi2; omega
      · exact h
    rw [getElem!_pos z.cells (i % z.cells.size) (Nat.mod_lt _ hs)]
    exact h1 _ (by simp)
  have hst := run_storeCells_at P g o et (Builtin.zeroCells z.cells n).toList 0 cur w hg (by rw [hl]; simpa using hfit) ho
  obtain ⟨m, rfl⟩ : ∃ m, n = m + 1 := ⟨n - 1, by omega⟩
  simp only [Nat.add_zero] at hst
  simp [Builtin.clear_, run_underlying ht, hv, hst]
def ZV45 : Value := .agg #[.int .i64 0, .int .u64 0, .int .u16 0]
theorem firstIdx_spec {α : Type} (p : α → Bool) (l : List α) : (Go.Proofs.YtnnhmceaoobihaaW.PrintIdx.firstIdx p l = -1 ∧ ∀ x ∈ l, p x = false) ∨ ∃ k, ∃ h : k < l.length, Go.Proofs.YtnnhmceaoobihaaW.PrintIdx.firstIdx p l = (k : Int) ∧ p l[k] = true ∧ ∀ x ∈ l.take k, p x = false := by
  unfold Go.Proofs.YtnnhmceaoobihaaW.PrintIdx.firstIdx
  cases h : l.findIdx? p with
  | none => exact .inl ⟨rfl, by simpa using h⟩
  | some k =>
    obtain ⟨hk, hp, ho⟩ := List.findIdx?_eq_some_iff_getElem.1 h
    refine .inr ⟨k, hk, rfl, hp, fun x hx => ?_⟩
    obtain ⟨j, hj, rfl⟩ := List.getElem_of_mem hx
    rw [List.length_take] at hj
    rw [List.getElem_take]
    have := ho j (by omega)
    simpa using this
set_option maxHeartbeats 2000000 in
set_option maxRecDepth 100000 in
theorem del_R (p : S45 → Bool) (g : Nat) (lb : Array Value) (eg : ∀ args w, (callFunc g args).run Try.prog w = .ok (.enter g args) w) (base : Nat) (ok : Nat → Prop) (v : Value) (xs : List S45) (w : World) (h : Kd.R k45 45 w base ok v xs) (hbs : base ≤ w.heap.size)
    (hp : ∀ (W : World) (x : S45), Below base w W → Calls Try.prog g (#[.agg #[.int .i64 x.f0, .int .u64 x.f1.f0, .int .u16 x.f1.f1]] ++ lb) W fun e w' => e = .returned (.bool (p x)) ∧ Below W.heap.size W w') :
    Calls Try.prog 24 #[v, .func (.func g) #[] lb] w fun e w' => ∃ v', e = .returned v' ∧ Kd.R k45 45 w' base ok v' (xs.filter fun x => !p x) ∧ Below base w w' := by
  have hof := owned_flat k45 45 enc45 (fun _ => rfl) (fun h => k45_openM h) h
  have hvl : ∃ A c, v = .slice A xs.length c ∧ xs.length ≤ c := by
    rcases hof with ⟨rfl, rfl⟩ | ⟨b, cap, cur, rfl, hb, hokb, hh, hc1, hc2, hc3, hc4⟩
    · exact ⟨_, _, rfl, Nat.le_refl _⟩
    · exact ⟨_, _, rfl, hc1⟩
  obtain ⟨A, c, rfl, hlc⟩ := hvl
  have hu := Try.underlying22
  have hidx := idx_45 p g lb eg A c xs w (Kd.R_reads' h).2.2 (fun W x hb => hp W x (hb.mono hbs))
  rcases firstIdx_spec p xs with ⟨e1, hall⟩ | ⟨k0, hk0, e1, hpk, hall⟩
  · rw [e1] at hidx
    have hfil : xs.filter (fun x => !p x) = xs := List.filter_eq_self.2 (fun x hx => by rw [hall x hx]; rfl)
    rw [hfil]
    have HI := Aside0.mk hidx
    have HO := Aside0.mk h
    have HB := Aside0.mk hbs
    clear hidx h hp hall hof hbs hfil
    go_enter Try.func24, Try.ntmps24
    go_wp2_with fail
    refine HI.out.mono ?_
    rintro e w1 ⟨rfl, hb⟩
    have hfin : ∃ v', Ending.returned (.slice A xs.length c) = .returned v' ∧ Kd.R k45 45 w1 base ok v' xs ∧ Below base w w1 := ⟨_, rfl, Kd.R_below HO.out hb, hb.mono HB.out⟩
    have HF := Aside0.mk hfin
    clear hfin hb HI HO
    go_wp2
    go_ret
    exact HF.out
  · rcases hof with ⟨_, rfl⟩ | ⟨b, cap, cur, hv, hb, hokb, hh, hc1, hc2, hc3, hc4⟩
    · simp at hk0
    injection hv with hv1 hv2 hv3
    subst hv1
    subst hv3
    have hk3 : k45.sz = 3 := rfl
    rw [hk3] at hc3 hc4
    rw [e1] at hidx
    have HI := Aside0.mk hidx
    have HP := Aside0.mk hp
    have HBS := Aside0.mk hbs
    have HK := Aside0.mk (And.intro hk0 (And.intro hpk hall))
    have HC := Aside0.mk (And.intro hc2 (And.intro hc3 hc4))
    have HH := Aside0.mk hh
    have HOK := Aside0.mk (And.intro hb hokb)
    have hn63 : xs.length ≤ 9223372036854775807 := Nat.le_trans hc1 hc2
    have hm1 : ¬ ((k0 : Int) = -1) := by omega
    have hw0 : wrap64 ((k0 : Int) + 1) = (k0 : Int) + 1 := by unfold wrap64; omega
    clear hidx h hp hpk hall hc2 hc3 hc4 hh hokb hb e1 hbs
    go_enter Try.func24, Try.ntmps24
    go_wp2_with fail
    refine HI.out.mono ?_
    rintro e w1 ⟨rfl, hb1⟩
    have HB1 := Aside0.mk hb1
    clear hb1 HI
    go_wp2
    go_loopg [5, 6, 7] xs.length (fun gg s5 s6 _ wr => ∃ (i j : Nat) (ROW : Array Value), s5 = .int .i64 i ∧ s6 = .int .i64 j ∧ i < j ∧ j ≤ xs.length ∧ xs.length - j ≤ gg ∧
      Aside0 (wr.heap[b]? = some (.cells ROW 45 (0, 0))) ∧ Aside0 (ROW.size = c * 3) ∧ Aside0 (ROW.toList.take (i * 3) = ((xs.take j).filter fun x => !p x).flatMap enc45) ∧ Aside0 (i = ((xs.take j).filter fun x => !p x).length) ∧ Aside0 ((ROW.toList.drop (j * 3)).take ((xs.length - j) * 3) = (xs.drop j).flatMap enc45) ∧ Aside0 (Below base w wr))
    case atStart =>
      have hk := HK.out.1
      have e0 : (xs.take (k0 + 1)).filter (fun x => !p x) = xs.take k0 := by
        rw [List.take_succ_eq_append_getElem hk, List.filter_append, List.filter_eq_self.2 (fun x hx => by rw [HK.out.2.2 x hx]; rfl)]
        simp [HK.out.2.1]
      refine ⟨k0, k0 + 1, cur, rfl, by push_cast; rfl, by omega, hk, by omega, ⟨?_⟩, ⟨HC.out.2.1⟩, ⟨?_⟩, ⟨?_⟩, ⟨?_⟩, ⟨?_⟩⟩
      · rw [HB1.out.block b (Array.getElem?_eq_some_iff.1 HH.out).1]; exact HH.out
      · rw [e0, ← flat_take enc45 3 (fun _ => rfl), ← HC.out.2.2, List.take_take, Nat.min_eq_left (by omega)]
      · rw [e0, List.length_take, Nat.min_eq_left (by omega)]
      · rw [← flat_drop enc45 3 (fun _ => rfl), ← HC.out.2.2, List.drop_take, show xs.length * 3 - (k0 + 1) * 3 = (xs.length - (k0 + 1)) * 3 by omega]
      · exact HB1.out.mono HBS.out
    case round =>
      obtain ⟨i, j, ROW, rfl, rfl, hij, hjn, hgg, H1, H2, H3, H4, H5, H6⟩ := hrel
      have hn1 : xs.length ≤ c := hlc
      by_cases hlt : j < xs.length
      · obtain ⟨x, hx⟩ : ∃ x, xs[j]? = some x := ⟨_, List.getElem?_eq_getElem hlt⟩
        have hcell : ∀ t u, t < 3 → (enc45 x)[t]? = some u → wr.cell? ⟨b, j * 3 + t, none⟩ = some u := by
          intro t u ht hu
          have h0 := flat_get enc45 3 (fun _ => rfl) (xs.drop j) 0 x (by rw [List.getElem?_drop]; exact hx) t ht
          rw [← H5.out, hu, Nat.zero_mul, Nat.zero_add, List.getElem?_take] at h0
          split at h0
          · rw [List.getElem?_drop] at h0
            unfold World.cell?
            rw [H1.out]
            show ROW[j * 3 + t]? = some u
            rw [← Array.getElem?_toList]
            exact h0
          · cases h0
        have d0 : wr.cell? ⟨b, j * 3, none⟩ = some (.int .i64 x.f0) := hcell 0 _ (by omega) rfl
        have d1 : wr.cell? ⟨b, j * 3 + 1, none⟩ = some (.int .u64 x.f1.f0) := hcell 1 _ (by omega) rfl
        have d2 : wr.cell? ⟨b, j * 3 + 2, none⟩ = some (.int .u16 x.f1.f1) := hcell 2 _ (by omega) rfl
        have HX := Aside0.mk hx
        have z0 : (0 : Int) ≤ (j : Int) := by omega
        have hjl : (j : Int) < (xs.length : Int) := by omega
        clear hcell hx
        go_wp2_with fail
        have hbr : base ≤ wr.heap.size := Nat.le_trans HBS.out H6.out.size
        refine (HP.out _ x (H6.out.alloc hbr _)).mono ?_
        rintro e w2 ⟨rfl, hb2⟩
        have hsz2 : wr.heap.size < (wr.alloc (Obj.cells #[Value.int IntKind.i64 x.f0, Value.int IntKind.u64 x.f1.f0, Value.int IntKind.u16 x.f1.f1] 45)).heap.size := by show wr.heap.size < (wr.heap.push _).size; rw [Array.size_push]; omega
        have f0 := (hb2.cell (p := ⟨wr.heap.size, 0, none⟩) hsz2).trans (by simp : _ = some (Value.int IntKind.i64 x.f0))
        have f1 := (hb2.cell (p := ⟨wr.heap.size, 1, none⟩) hsz2).trans (by simp : _ = some (Value.int IntKind.u64 x.f1.f0))
        have f2 := (hb2.cell (p := ⟨wr.heap.size, 2, none⟩) hsz2).trans (by simp : _ = some (Value.int IntKind.u16 x.f1.f1))
        have hbl := (Array.getElem?_eq_some_iff.1 H1.out).1
        have HB2 := Aside0.mk ((H6.out.alloc hbr _).trans (hb2.mono (Nat.le_trans hbr (Nat.le_of_lt hsz2))))
        have hh2 : w2.heap[b]? = some (.cells ROW 45 (0, 0)) := by
          rw [hb2.block b (Nat.lt_trans hbl hsz2), Below.heap_alloc wr _ b hbl]; exact H1.out
        have HH2 := Aside0.mk hh2
        have et : xs.take (j + 1) = xs.take j ++ [x] := by
          have h := HX.out
          rw [List.take_add_one, h]; rfl
        have HET := Aside0.mk et
        have h5' : (ROW.toList.drop ((j + 1) * 3)).take ((xs.length - (j + 1)) * 3) = (xs.drop (j + 1)).flatMap enc45 := by
          have h := congrArg (List.drop (1 * 3)) H5.out
          rw [flat_drop enc45 3 (fun _ => rfl), List.drop_drop, List.drop_take, List.drop_drop] at h
          rw [show j * 3 + 1 * 3 = (j + 1) * 3 by omega, show (xs.length - j) * 3 - 1 * 3 = (xs.length - (j + 1)) * 3 by omega] at h
          exact h
        have H5' := Aside0.mk h5'
        obtain ⟨q, hq⟩ : ∃ q, p x = q := ⟨_, rfl⟩
        rw [hq]
        have HPX := Aside0.mk hq
        clear hq h5' et hh2 hb2 hsz2 d0 d1 d2 hbr
        cases q with
        | true =>
          clear f0 f1 f2
          go_wp2
          go_roundg (xs.length - (j + 1))
          case measure => omega
          case rel =>
            refine ⟨i, j + 1, ROW, rfl, by go_num, by omega, hlt, by omega, ⟨HH2.out⟩, H2, ⟨?_⟩, ⟨?_⟩, H5', ⟨HB2.out⟩⟩
            · rw [H3.out, HET.out, List.filter_append]; simp [HPX.out]
            · rw [HET.out, List.filter_append]; simp [HPX.out]; exact H4.out
        | false =>
          have y0 : w2.frozen? ⟨b, i * 3, none⟩ = false := by unfold World.frozen?; rw [HH2.out]; simp
          have y1 : w2.frozen? ⟨b, i * 3 + 1, none⟩ = false := by unfold World.frozen?; rw [HH2.out]; simp
          have y2 : w2.frozen? ⟨b, i * 3 + 2, none⟩ = false := by unfold World.frozen?; rw [HH2.out]; simp
          have hic : i * 3 + 3 ≤ ROW.size := by rw [H2.out]; omega
          have y3 : ∃ v, w2.cell? ⟨b, i * 3, none⟩ = some v := by
            unfold World.cell?; rw [HH2.out]; exact ⟨_, Array.getElem?_eq_getElem (by show i * 3 < ROW.size; omega)⟩
          have y4 : ∃ v, w2.cell? ⟨b, i * 3 + 1, none⟩ = some v := by
            unfold World.cell?; rw [HH2.out]; exact ⟨_, Array.getElem?_eq_getElem (by show i * 3 + 1 < ROW.size; omega)⟩
          have y5 : ∃ v, w2.cell? ⟨b, i * 3 + 2, none⟩ = some v := by
            unfold World.cell?; rw [HH2.out]; exact ⟨_, Array.getElem?_eq_getElem (by show i * 3 + 2 < ROW.size; omega)⟩
          obtain ⟨u3, y3⟩ := y3
          obtain ⟨u4, y4⟩ := y4
          obtain ⟨u5, y5⟩ := y5
          have zi : (0 : Int) ≤ (i : Int) := by omega
          have hil : (i : Int) < (xs.length : Int) := by omega
          have HIC := Aside0.mk hic
          clear hic hbl
          have HBL2 := Aside0.mk HB2.out
          obtain ⟨V, hV⟩ : ∃ V, V = wr.heap.size := ⟨_, rfl⟩
          rw [← hV] at f0 f1 f2 ⊢
          clear hV
          go_wp2
          go_roundg (xs.length - (j + 1))
          case measure => omega
          case rel =>
            obtain ⟨ROW', r1, r2, r3⟩ := setCells_row (enc45 x) (i * 3) w2 ROW HH2.out HIC.out
            have hl3 : (enc45 x).length = 3 := rfl
            rw [hl3] at r3
            have hi3 : (ROW.toList.take (i * 3)).length = i * 3 := by rw [List.length_take, Array.length_toList]; have := HIC.out; omega
            refine ⟨i + 1, j + 1, ROW', by go_num, by go_num, by omega, hlt, by omega, ⟨r1⟩, ⟨r2.trans H2.out⟩, ⟨?_⟩, ⟨?_⟩, ⟨?_⟩, ⟨?_⟩⟩
            · rw [HET.out, List.filter_append, show [x].filter (fun x => !p x) = [x] by simp [HPX.out], List.flatMap_append, ← H3.out, r3, List.take_append_of_le_length (by rw [List.length_append, hi3, hl3]; omega), List.take_of_length_le (by rw [List.length_append, hi3, hl3]; omega)]
              simp
            · rw [HET.out, List.filter_append, show [x].filter (fun x => !p x) = [x] by simp [HPX.out], List.length_append, ← H4.out]; rfl
            · have e5 : ROW'.toList.drop ((j + 1) * 3) = ROW.toList.drop ((j + 1) * 3) := by
                rw [r3, List.drop_append, List.drop_of_length_le (by rw [List.length_append, hi3, hl3]; omega), List.nil_append, List.drop_drop]
                congr 1
                rw [List.length_append, hi3, hl3]; omega
              rw [e5]; exact H5'.out
            · have hB := HB2.out
              have hs := setCells_same b (enc45 x) (i * 3) w2
              exact ⟨hs.1.trans hB.os, hs.2.1.trans hB.tape, hs.2.2.1.trans hB.output, by have := hs.2.2.2; show w.heap.size ≤ (w2.setCells b (i * 3) (enc45 x)).heap.size; rw [this]; exact hB.size, fun k hk => (setCells_far (enc45 x) (i * 3) k (by have := HOK.out.1; omega)).trans (hB.block k hk)⟩
      · obtain rfl : j = xs.length := by omega
        have hzz : ZV45.cells.size = 3 := rfl
        have hcl : ∀ ty, (Builtin.clear_ #[22] ty #[.slice (some ⟨b, i * 3, none⟩) (xs.length - i) (c - i)]).run Try.prog wr = .ok (.tuple #[]) (wr.setRow b (ROW.toList.take (i * 3) ++ (Builtin.zeroCells ZV45.cells (xs.length - i)).toList ++ ROW.toList.drop (i * 3 + (Builtin.zeroCells ZV45.cells (xs.length - i)).toList.length)).toArray) :=
          fun ty => run_clear_row Try.prog wr 22 45 ty ZV45 hu (fun w => Try.zeroValue45 w) (by decide) b (i * 3) _ _ (by omega) ROW 45 H1.out (by rw [hzz, H2.out]; omega)
        obtain ⟨R2, hR2⟩ : ∃ R2, R2 = (ROW.toList.take (i * 3) ++ (Builtin.zeroCells ZV45.cells (xs.length - i)).toList ++ ROW.toList.drop (i * 3 + (Builtin.zeroCells ZV45.cells (xs.length - i)).toList.length)).toArray := ⟨_, rfl⟩
        rw [← hR2] at hcl
        have HR2 := Aside0.mk hR2
        have hnl : ¬ (xs.length : Int) < (xs.length : Int) := by omega
        have zi : (0 : Int) ≤ (i : Int) := by omega
        have hil : (i : Int) ≤ (xs.length : Int) := by omega
        have hic : ¬ (c = i) := by omega
        clear hR2
        go_wp2
        go_ret
        have h3 := H3.out
        have h4 := H4.out
        rw [List.take_length] at h3 h4
        have hrl : ROW.toList.length = c * 3 := by rw [Array.length_toList]; exact H2.out
        have hzl : (Builtin.zeroCells ZV45.cells (xs.length - i)).toList.length = (xs.length - i) * 3 := by simp [Builtin.zeroCells, hzz]
        have hr2s : R2.size = c * 3 := by
          rw [HR2.out, List.size_toArray, List.length_append, List.length_append, hzl, List.length_take, List.length_drop, hrl]; omega
        refine ⟨_, rfl, ?_, ?_⟩
        · refine flat_owned k45 45 enc45 (fun _ => rfl) (fun w b ok x => k45_mkM w b ok x) _ b c i R2 h4 HOK.out.1 HOK.out.2 (setRow_heap wr b ROW R2 45 (0, 0) H1.out) (by omega) HC.out.1 (by rw [hk3]; exact hr2s) ?_
          rw [hk3, ← h4, ← h3, HR2.out]
          simp only [List.append_assoc]
          rw [List.take_append_of_le_length (by rw [List.length_take, hrl]; omega), List.take_of_length_le (by rw [List.length_take]; omega)]
        · have hB := H6.out
          exact ⟨hB.os, hB.tape, hB.output, by show w.heap.size ≤ (wr.heap.modify b _).size; rw [Array.size_modify]; exact hB.size, fun k hk => by rw [setRow_other wr b k _ (by have := HOK.out.1; omega)]; exact hB.block k hk⟩

set_option maxHeartbeats 4000000 in
set_option maxRecDepth 100000 in
theorem some_calls (p : S43 → Bool) (g : Nat) (lb : Array Value) (eg : ∀ args w, (callFunc g args).run Try.prog w = .ok (.enter g args) w) (A0 : Option Addr) (c0 : Nat) (l0 : List S43) (w : World) (hr0 : Kd.C k43 w A0 l0.length l0) (hlim : l0.length < 8796093022208)
    (hp : ∀ (W : World) (x : S43), Below w.heap.size w W → Calls Try.prog g (#[.agg #[.int .u64 x.f0.f0, .int .u16 x.f0.f1, .int .i64 x.f1]] ++ lb) W fun e w' => e = .returned (.bool (p x)) ∧ Below W.heap.size W w') :
    Calls Try.prog 40 #[.slice A0 l0.length c0, .func (.func g) #[] lb] w fun e w' => ∃ v0_ : Value, e = .returned v0_ ∧ Kd.R k26 26 w' w.heap.size (fun _ => True) v0_ ((l0.filter p).map fun x => x.f0) ∧ Below w.heap.size w w' := by
  have hu := Try.underlying43
  have hu2 := Try.underlying26
  have HR0 := Aside0.mk hr0
  have HP := Aside0.mk hp
  have HLIM := Aside0.mk hlim
  clear hr0 hp hlim
  have HB := Aside0.mk (Below.refl w.heap.size w)
  go_enter Try.func40, Try.ntmps40
  go_wp2
  go_loopg [5, 10] l0.length (fun gg v5 v10 w' => ∃ (kk : Nat), kk ≤ l0.length ∧ l0.length - kk ≤ gg ∧ v10 = .int .i64 kk ∧ Aside0 (Kd.R k26 26 w' w.heap.size (fun _ => True) v5 (((l0.take kk).filter p).map fun x => x.f0)) ∧ Aside0 (Below w.heap.size w w'))
  case atStart => exact ⟨0, Nat.zero_le _, by omega, rfl, ⟨Kd.R_nil _ _ _ _ _⟩, HB⟩
  case round =>
    clear HB
    obtain ⟨kk, hkk, hg0, rfl, HO, HB⟩ := hrel
    have HN : l0.length < 8796093022208 := HLIM.out
    by_cases hlt : kk < l0.length
    · have p1 : 0 ≤ ((kk : Nat) : Int) := by omega
      have q1 : ((kk : Nat) : Int) < (l0.length : Int) := by omega
      obtain ⟨ad, e1, hx0, hx1, hx2⟩ := at_T43 HR0.out kk p1 q1
      cases e1
      replace hx0 := (HB.out.cell (World.block_lt_of_cell? w _ hx0)).trans hx0
      replace hx1 := (HB.out.cell (World.block_lt_of_cell? w _ hx1)).trans hx1
      replace hx2 := (HB.out.cell (World.block_lt_of_cell? w _ hx2)).trans hx2
      simp only [Int.toNat_natCast] at hx0 hx1 hx2
      obtain ⟨y, hy⟩ : ∃ y, rd_T43 l0 kk = y := ⟨_, rfl⟩
      rw [hy] at hx0 hx1 hx2
      have HY := Aside0.mk hy
      clear hy
      go_wp2_with (first | ((with_reducible refine gate_dst (N := 7) rfl ?_); refine box_event ?hg (N := 7) ?hd (cs := #[.int .u64 0, .int .u16 0, .int .i64 0]) (t := 43) ?hr ?_; (case hd => rfl); (case hg => rfl); (case hr => first | (go_simp; done) | (go_simp; rfl)); intro gb hg w2 hbox hb; have n0_ := Aside0.mk (below_then HB.out HB.out.size hb); have n1_ := Aside0.mk (Kd.R_below HO.out hb); have BK := Aside0.mk hbox; have GE := Aside0.mk ((by rw [hg]; exact (below_size HB.out)) : w.heap.size ≤ gb); have NE := Aside0.mk (show ∀ k_, k_ < wr.heap.size → k_ ≠ gb by intro k_ hk_; rw [hg]; omega); have hz0 : w2.cell? ⟨gb, 0, none⟩ = some (.int .u64 0) := (blk_cell BK.out 0).trans rfl; have hz1 : w2.cell? ⟨gb, 1, none⟩ = some (.int .u16 0) := (blk_cell BK.out 1).trans rfl; have hz2 : w2.cell? ⟨gb, 2, none⟩ = some (.int .i64 0) := (blk_cell BK.out 2).trans rfl; have hf0 := blk_frozen BK.out 0; have hf1 := blk_frozen BK.out 1; have hf2 := blk_frozen BK.out 2; clear HB HO; have HB := n0_; have HO := n1_; clear n0_ n1_ hb hbox hg))
      have HB3 : Aside0 (Below w.heap.size w (((w2.setCell ⟨gb, 0, none⟩ (.int .u64 y.f0.f0)).setCell ⟨gb, 1, none⟩ (.int .u16 y.f0.f1)).setCell ⟨gb, 2, none⟩ (.int .i64 y.f1))) := ⟨by
        refine below_set ?_ GE.out; refine below_set ?_ GE.out; refine below_set ?_ GE.out; exact HB.out⟩
      have HO3 : Aside0 (Kd.R k26 26 (((w2.setCell ⟨gb, 0, none⟩ (.int .u64 y.f0.f0)).setCell ⟨gb, 1, none⟩ (.int .u16 y.f0.f1)).setCell ⟨gb, 2, none⟩ (.int .i64 y.f1)) w.heap.size (fun _ => True) u5 (((l0.take kk).filter p).map fun x => x.f0)) := ⟨Kd.R_mono (Kd.R_far (p := ⟨gb, 2, none⟩) (Kd.R_far (p := ⟨gb, 1, none⟩) (Kd.R_far (p := ⟨gb, 0, none⟩) (Kd.R_types HO.out BK.out (by decide)) (fun _ hk => hk.2) _) (fun _ hk => hk.2) _) (fun _ hk => hk.2) _) (fun _ h_ => h_.1)⟩
      have BK3 : Aside0 ((((w2.setCell ⟨gb, 0, none⟩ (.int .u64 y.f0.f0)).setCell ⟨gb, 1, none⟩ (.int .u16 y.f0.f1)).setCell ⟨gb, 2, none⟩ (.int .i64 y.f1)).heap[gb]? = some (.cells #[.int .u64 y.f0.f0, .int .u16 y.f0.f1, .int .i64 y.f1] 43 (0, 0))) := ⟨by
        refine blk_put (cs := #[.int .u64 y.f0.f0, .int .u16 y.f0.f1, .int .i64 0]) ?_ 2 _ rfl
        refine blk_put (cs := #[.int .u64 y.f0.f0, .int .u16 0, .int .i64 0]) ?_ 1 _ rfl
        refine blk_put (cs := #[.int .u64 0, .int .u16 0, .int .i64 0]) ?_ 0 _ rfl
        exact BK.out⟩
      obtain ⟨b, hb0⟩ : ∃ b, p y = b := ⟨_, rfl⟩
      have HPY := Aside0.mk hb0
      have hcall := HP.out _ y HB3.out
      rw [hb0] at hcall
      clear hb0 hz0 hz1 hz2 hf0 hf1 hf2 hx0 hx1 hx2
      refine hcall.mono ?_
      clear hcall
      rintro e w3 ⟨rfl, hb⟩
      have HB4 := Aside0.mk (below_then HB3.out HB3.out.size hb)
      have HO4 := Aside0.mk (Kd.R_below HO3.out hb)
      have BK4 := Aside0.mk (blk_below BK3.out hb)
      have hs : (l0.take (kk + 1)).filter p = (l0.take kk).filter p ++ (if b = true then [y] else []) := by
        rw [List.take_succ_eq_append_getElem hlt, List.filter_append]
        have hy2 : l0[kk] = y := by
          have h := HY.out
          unfold rd_T43 at h
          rw [Int.toNat_natCast, Go.Proofs.YtnnhmceaoobihaaW.PrintIdx.getD_at hlt] at h
          exact h
        rw [hy2]
        have h := HPY.out
        cases b with
        | true => simp [h]
        | false => simp [h]
      have HS := Aside0.mk hs
      have hlen : ((l0.take kk).filter p).length ≤ kk := Nat.le_trans (List.length_filter_le _ _) (List.length_take_le _ _)
      have HLEN := Aside0.mk hlen
      clear hb HB HO BK HB3 HO3 BK3 hs hlen
      cases b with
      | true =>
        have HT : Aside0 ((l0.take (kk + 1)).filter p = (l0.take kk).filter p ++ [y]) := ⟨HS.out⟩
        clear HS
        have hz0 : w3.cell? ⟨gb, 0, none⟩ = some (.int .u64 y.f0.f0) := (blk_cell BK4.out 0).trans rfl
        have hz1 : w3.cell? ⟨gb, 1, none⟩ = some (.int .u16 y.f0.f1) := (blk_cell BK4.out 1).trans rfl
        go_wp2_with (first | ((with_reducible refine gate_builtin (b := .append) (xs := #[.tmp 17, .tmp 20]) rfl ?_); at_builtin; refine Kd.R_append k26 (w0 := w) w.heap.size rfl (.tmp 17) (.tmp 20) 36 26 (.agg #[(.int .u64 0), (.int .u16 0)]) 16 rfl Try.underlying36 info26 rfl (by decide) (by omega) u5 (((l0.take kk).filter p).map fun x => x.f0) y.f0 [.int .u64 y.f0.f0, .int .u16 y.f0.f1] (fun _ => True) (fun _ => False) rfl rfl ?aP (fun _ hk => hk.elim) ?aF ?aO ?aB ?aS ?aL ?_; (case aP => exact k26_mkM _ _ _ y.f0); (case aB => exact HB4.out); (case aF => exact (fun _ _ => trivial)); (case aO => exact (by (with_reducible repeat (first | apply Kd.R_alloc | apply Kd.R_drewN | apply Kd.R_drew)); exact HO4.out)); (case aS => exact (below_size HB4.out)); (case aL => have := HLEN.out; have := HLIM.out; rw [List.length_map]; omega); intro v174 w6 ho hb hg hat; have HB5 := Aside0.mk hb; have HO5 := Aside0.mk ho; clear ho hb hg hat))
        go_roundg (l0.length - (kk + 1))
        case measure => omega
        case rel => exact ⟨kk + 1, by omega, by omega, by go_num, ⟨by rw [HT.out, List.map_append]; exact HO5.out⟩, HB5⟩
      | false =>
        have HT : Aside0 ((l0.take (kk + 1)).filter p = (l0.take kk).filter p) := ⟨HS.out.trans (List.append_nil _)⟩
        clear HS
        go_wp2
        go_roundg (l0.length - (kk + 1))
        case measure => omega
        case rel => exact ⟨kk + 1, by omega, by omega, by go_num, ⟨by rw [HT.out]; exact HO4.out⟩, HB4⟩
    · have : kk = l0.length := by omega
      subst this
      have hn : ¬ ((l0.length : Nat) : Int) < (l0.length : Int) := by omega
      rw [List.take_length] at HO
      go_wp2
      go_ret
      exact ⟨_, rfl, HO.out, HB.out⟩
end Go.Proofs.Ytnnhmceaoobihaa.P
