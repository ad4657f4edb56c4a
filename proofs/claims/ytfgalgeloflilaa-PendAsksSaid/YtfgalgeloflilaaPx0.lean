-- Printed by fprint.py (a program of this session's, over the kit's print), for this claim.
import Derived.Test.YtfgalgeloflilaaProg
import Derived.Test.YtfgalgeloflilaaWIdx
import Derived.Below
import Derived.Deep.Draws
import Derived.Deep.AppendLies
import Derived.Maps.AppendAt
import Derived.OwnWalk
import Derived.Laws.BytesArg
import Derived.Laws.MakeOwn
import Derived.Laws.OwnMore
import Derived.Deep.OwnRows
import Derived.Tactics
import Derived.Lib.ConvBytes
import Derived.Laws.Slices
import Derived.WalkKit
import Derived.KernelRfl
import Derived.RowKit3
import Derived.Deep.LoopGhost
import Derived.Deep.QuietTactic
import Derived.BigQuiet
import Derived.WideLaws
import Derived.Deep.DeepCutAuto
import Derived.Deep.CutBlock
import Derived.Deep.RegionHeld3
import Derived.Laws.Rows
import Derived.Lib.AppendStr
import Derived.ArgAppend
import Derived.Laws.IdiomCopy
import Derived.OrdersHeld
import Derived.Laws.BitsLemmas
import Derived.RowKit
import Derived.WalkSpells
import Derived.WalkLawsBesides
import Derived.Test.YtfgalgeloflilaaWWords
import Derived.Test.YtfgalgeloflilaaWLast
import Derived.Test.YtfgalgeloflilaaWTab
import Derived.Test.YtfgalgeloflilaaWFour
import Derived.Test.YtfgalgeloflilaaWQPut
import Derived.Test.YtfgalgeloflilaaWApart
import Derived.Test.YtfgalgeloflilaaWArr
import Derived.Test.YtfgalgeloflilaaWZeros
import Derived.Test.YtfgalgeloflilaaWFoot
import Derived.Test.YtfgalgeloflilaaWKept
import Derived.Test.YtfgalgeloflilaaWShare
import Derived.Test.YtfgalgeloflilaaWN
import Derived.Test.YtfgalgeloflilaaWFootNe
import Derived.Test.YtfgalgeloflilaaWAt
import Derived.Test.YtfgalgeloflilaaWEqStruct
import Derived.Test.YtfgalgeloflilaaWRepsOne
import Derived.Test.YtfgalgeloflilaaWInv
import Derived.Test.YtfgalgeloflilaaWInvWords
import Derived.Test.YtfgalgeloflilaaWGuard
import Derived.Test.YtfgalgeloflilaaWNEv
import Derived.Test.YtfgalgeloflilaaWMore
namespace Go.Proofs.Ytfgalgeloflilaa.P
open Go.RowKit Go.Proofs.YtfgalgeloflilaaW.PrintWords Go.Proofs.YtfgalgeloflilaaW.PrintLast Go.Proofs.YtfgalgeloflilaaW.PrintMore
attribute [local go_sem] max2_int min2_int max_two min_two max_three min_three max_four min_four   -- for this text's walks alone
set_option linter.unusedVariables false
set_option linter.unusedSimpArgs false



def errW : Option Int → Value
  | none => .nilIface
  | some c => .iface 0 (.int .i64 c)
theorem errW_none : errW none = .nilIface := rfl
theorem errW_some (c : Int) : errW (some c) = .iface 0 (.int .i64 c) := rfl

theorem info25 : (Try.prog.info? 25).map (fun i => (i.zero, i.size, i.bytes)) = some (some (.agg #[(.int .u64 0), (.int .u16 0)]), 2, 16) := by kernel_rfl
theorem info34 : (Try.prog.info? 34).map (fun i => (i.zero, i.size, i.bytes)) = some (some (.agg #[(.int .u64 0), (.int .u16 0), (.int .i64 0), (.bool false), (.slice none 0 0), (.slice none 0 0), (.slice none 0 0), (.slice none 0 0), (.slice none 0 0), (.slice none 0 0), (.slice none 0 0), (.int .u32 0), (.int .i64 0), (.int .i64 0)]), 14, 224) := by kernel_rfl
theorem info37 : (Try.prog.info? 37).map (fun i => (i.zero, i.size, i.bytes)) = some (some (.agg #[(.int .i64 0), (.int .u32 0), (.int .u8 0), (.bool false), (.int .u64 0), (.string ⟨#[]⟩), (.string ⟨#[]⟩), (.int .u64 0), (.int .u16 0), (.slice none 0 0), (.slice none 0 0)]), 11, 120) := by kernel_rfl
theorem info48 : (Try.prog.info? 48).map (fun i => (i.zero, i.size, i.bytes)) = some (some (.agg #[(.string ⟨#[]⟩), (.string ⟨#[]⟩)]), 2, 32) := by kernel_rfl
theorem info51 : (Try.prog.info? 51).map (fun i => (i.zero, i.size, i.bytes)) = some (some (.agg #[(.int .u32 0), (.int .i64 0), (.int .i64 0), (.int .i64 0), (.int .u64 0), (.int .u16 0), (.int .i64 0)]), 7, 56) := by kernel_rfl
theorem info67 : (Try.prog.info? 67).map (fun i => (i.zero, i.size, i.bytes)) = some (some (.agg #[(.int .i64 0), (.int .i64 0), (.int .i64 0), (.string ⟨#[]⟩), (.string ⟨#[]⟩), (.int .u64 0), (.int .u64 0), (.int .u16 0), (.int .u64 0), (.int .u16 0), (.bool false), (.int .i64 0), (.int .i64 0), (.int .i64 0)]), 14, 128) := by kernel_rfl
theorem info70 : (Try.prog.info? 70).map (fun i => (i.zero, i.size, i.bytes)) = some (some (.agg #[(.int .i64 0), (.int .i64 0), (.string ⟨#[]⟩), (.string ⟨#[]⟩), (.bool false), (.int .i64 0)]), 6, 64) := by kernel_rfl
theorem info73 : (Try.prog.info? 73).map (fun i => (i.zero, i.size, i.bytes)) = some (some (.agg #[(.int .u64 0), (.int .u16 0), (.int .i64 0)]), 3, 24) := by kernel_rfl
theorem info76 : (Try.prog.info? 76).map (fun i => (i.zero, i.size, i.bytes)) = some (some (.agg #[(.int .i64 0), (.int .u64 0), (.int .u16 0)]), 3, 24) := by kernel_rfl
-- the values' own types
/-! #### struct type 48 -/
structure S48 where
  f0 : ByteArray
  f1 : ByteArray
def z48 : S48 := ⟨(⟨#[]⟩ : ByteArray), (⟨#[]⟩ : ByteArray)⟩
def k48 : Kd S48 := Kd.iso (Kd.pair Kd.string Kd.string) (fun x : S48 => (x.f0, x.f1))
theorem k48_open {w : World} {x : S48} {cs : List Value} (h : k48.K w x cs) : cs = [.string x.f0, .string x.f1] := by
  obtain ⟨_, _, rfl, rfl, rfl⟩ := h
  exact rfl
theorem k48_openM {w : World} {base : Nat} {ok : Nat → Prop} {x : S48} {cs : List Value} (h : k48.M w base ok x cs) : cs = [.string x.f0, .string x.f1] := by
  obtain ⟨_, _, rfl, rfl, rfl⟩ := h
  exact rfl
theorem k48_mk (w : World) (x : S48)  : k48.K w x [.string x.f0, .string x.f1] := ⟨[.string x.f0], [.string x.f1], rfl, rfl, rfl⟩
theorem k48_mkM (w : World) (base : Nat) (ok : Nat → Prop) (x : S48)  : k48.M w base ok x [.string x.f0, .string x.f1] := ⟨[.string x.f0], [.string x.f1], rfl, rfl, rfl⟩
theorem k48_mkF (W : World) (ok : Nat → Prop) (x : S48) : Kd.FK k48 W ok x [.string x.f0, .string x.f1] := fun W2 _ => k48_mk W2 x
def rd_T48 (xs : List S48) (i : Int) : S48 := xs.getD i.toNat z48
theorem at_T48 {w : World} {A : Option Addr} {n : Nat} {xs : List S48} (h : Kd.C k48 w A n xs) (i : Int) (h0 : 0 ≤ i) (h1 : i < n) : ∃ ad , A = some ad ∧ w.cell? (ad.add (i.toNat * 2)) = some (.string (rd_T48 xs i).f0) ∧ w.cell? ⟨(ad.add (i.toNat * 2)).block, (ad.add (i.toNat * 2)).off + 1, none⟩ = some (.string (rd_T48 xs i).f1) := by
  obtain ⟨ad, c, e, _, hK, hc0⟩ := Kd.C_get h z48 i h0 h1
  have hc : ∀ j u, c[j]? = some u → w.cell? (ad.add (i.toNat * 2 + j)) = some u := hc0
  obtain rfl := k48_open hK
  exact ⟨ad, e, hc 0 _ rfl, by rw [← add_field _ _ 1 (by omega)]; exact hc 1 _ rfl⟩

/-! #### struct type 25 -/
structure S25 where
  f0 : Int
  f1 : Int
def z25 : S25 := ⟨(0 : Int), (0 : Int)⟩
def k25 : Kd S25 := Kd.iso (Kd.pair (Kd.int .u64) (Kd.int .u16)) (fun x : S25 => (x.f0, x.f1))
theorem k25_open {w : World} {x : S25} {cs : List Value} (h : k25.K w x cs) : cs = [.int .u64 x.f0, .int .u16 x.f1] := by
  obtain ⟨_, _, rfl, rfl, rfl⟩ := h
  exact rfl
theorem k25_openM {w : World} {base : Nat} {ok : Nat → Prop} {x : S25} {cs : List Value} (h : k25.M w base ok x cs) : cs = [.int .u64 x.f0, .int .u16 x.f1] := by
  obtain ⟨_, _, rfl, rfl, rfl⟩ := h
  exact rfl
theorem k25_mk (w : World) (x : S25)  : k25.K w x [.int .u64 x.f0, .int .u16 x.f1] := ⟨[.int .u64 x.f0], [.int .u16 x.f1], rfl, rfl, rfl⟩
theorem k25_mkM (w : World) (base : Nat) (ok : Nat → Prop) (x : S25)  : k25.M w base ok x [.int .u64 x.f0, .int .u16 x.f1] := ⟨[.int .u64 x.f0], [.int .u16 x.f1], rfl, rfl, rfl⟩
theorem k25_mkF (W : World) (ok : Nat → Prop) (x : S25) : Kd.FK k25 W ok x [.int .u64 x.f0, .int .u16 x.f1] := fun W2 _ => k25_mk W2 x
def rd_T25 (xs : List S25) (i : Int) : S25 := xs.getD i.toNat z25
theorem at_T25 {w : World} {A : Option Addr} {n : Nat} {xs : List S25} (h : Kd.C k25 w A n xs) (i : Int) (h0 : 0 ≤ i) (h1 : i < n) : ∃ ad , A = some ad ∧ w.cell? (ad.add (i.toNat * 2)) = some (.int .u64 (rd_T25 xs i).f0) ∧ w.cell? ⟨(ad.add (i.toNat * 2)).block, (ad.add (i.toNat * 2)).off + 1, none⟩ = some (.int .u16 (rd_T25 xs i).f1) := by
  obtain ⟨ad, c, e, _, hK, hc0⟩ := Kd.C_get h z25 i h0 h1
  have hc : ∀ j u, c[j]? = some u → w.cell? (ad.add (i.toNat * 2 + j)) = some u := hc0
  obtain rfl := k25_open hK
  exact ⟨ad, e, hc 0 _ rfl, by rw [← add_field _ _ 1 (by omega)]; exact hc 1 _ rfl⟩

/-! #### struct type 67 -/
structure S67 where
  f0 : Int
  f1 : Int
  f2 : Int
  f3 : ByteArray
  f4 : ByteArray
  f5 : Int
  f6 : S25
  f7 : S25
  f8 : Bool
  f9 : Int
  f10 : Int
  f11 : Int
def z67 : S67 := ⟨(0 : Int), (0 : Int), (0 : Int), (⟨#[]⟩ : ByteArray), (⟨#[]⟩ : ByteArray), (0 : Int), z25, z25, false, (0 : Int), (0 : Int), (0 : Int)⟩
def k67 : Kd S67 := Kd.iso (Kd.pair (Kd.int .i64) (Kd.pair (Kd.int .i64) (Kd.pair (Kd.int .i64) (Kd.pair Kd.string (Kd.pair Kd.string (Kd.pair (Kd.int .u64) (Kd.pair k25 (Kd.pair k25 (Kd.pair Kd.bool (Kd.pair (Kd.int .i64) (Kd.pair (Kd.int .i64) (Kd.int .i64)))))))))))) (fun x : S67 => (x.f0, x.f1, x.f2, x.f3, x.f4, x.f5, x.f6, x.f7, x.f8, x.f9, x.f10, x.f11))
theorem k67_open {w : World} {x : S67} {cs : List Value} (h : k67.K w x cs) : cs = [.int .i64 x.f0, .int .i64 x.f1, .int .i64 x.f2, .string x.f3, .string x.f4, .int .u64 x.f5, .int .u64 x.f6.f0, .int .u16 x.f6.f1, .int .u64 x.f7.f0, .int .u16 x.f7.f1, .bool x.f8, .int .i64 x.f9, .int .i64 x.f10, .int .i64 x.f11] := by
  obtain ⟨_, _, rfl, rfl, ⟨_, _, rfl, rfl, ⟨_, _, rfl, rfl, ⟨_, _, rfl, rfl, ⟨_, _, rfl, rfl, ⟨_, _, rfl, rfl, ⟨_, _, rfl, s6, ⟨_, _, rfl, s8, ⟨_, _, rfl, rfl, ⟨_, _, rfl, rfl, ⟨_, _, rfl, rfl, rfl⟩⟩⟩⟩⟩⟩⟩⟩⟩⟩⟩ := h
  obtain rfl := k25_open s6
  obtain rfl := k25_open s8
  exact rfl
theorem k67_openM {w : World} {base : Nat} {ok : Nat → Prop} {x : S67} {cs : List Value} (h : k67.M w base ok x cs) : cs = [.int .i64 x.f0, .int .i64 x.f1, .int .i64 x.f2, .string x.f3, .string x.f4, .int .u64 x.f5, .int .u64 x.f6.f0, .int .u16 x.f6.f1, .int .u64 x.f7.f0, .int .u16 x.f7.f1, .bool x.f8, .int .i64 x.f9, .int .i64 x.f10, .int .i64 x.f11] := by
  obtain ⟨_, _, rfl, rfl, ⟨_, _, rfl, rfl, ⟨_, _, rfl, rfl, ⟨_, _, rfl, rfl, ⟨_, _, rfl, rfl, ⟨_, _, rfl, rfl, ⟨_, _, rfl, s6, ⟨_, _, rfl, s8, ⟨_, _, rfl, rfl, ⟨_, _, rfl, rfl, ⟨_, _, rfl, rfl, rfl⟩⟩⟩⟩⟩⟩⟩⟩⟩⟩⟩ := h
  obtain rfl := k25_openM s6
  obtain rfl := k25_openM s8
  exact rfl
theorem k67_mk (w : World) (x : S67)  : k67.K w x [.int .i64 x.f0, .int .i64 x.f1, .int .i64 x.f2, .string x.f3, .string x.f4, .int .u64 x.f5, .int .u64 x.f6.f0, .int .u16 x.f6.f1, .int .u64 x.f7.f0, .int .u16 x.f7.f1, .bool x.f8, .int .i64 x.f9, .int .i64 x.f10, .int .i64 x.f11] := ⟨[.int .i64 x.f0], [.int .i64 x.f1, .int .i64 x.f2, .string x.f3, .string x.f4, .int .u64 x.f5, .int .u64 x.f6.f0, .int .u16 x.f6.f1, .int .u64 x.f7.f0, .int .u16 x.f7.f1, .bool x.f8, .int .i64 x.f9, .int .i64 x.f10, .int .i64 x.f11], rfl, rfl, ⟨[.int .i64 x.f1], [.int .i64 x.f2, .string x.f3, .string x.f4, .int .u64 x.f5, .int .u64 x.f6.f0, .int .u16 x.f6.f1, .int .u64 x.f7.f0, .int .u16 x.f7.f1, .bool x.f8, .int .i64 x.f9, .int .i64 x.f10, .int .i64 x.f11], rfl, rfl, ⟨[.int .i64 x.f2], [.string x.f3, .string x.f4, .int .u64 x.f5, .int .u64 x.f6.f0, .int .u16 x.f6.f1, .int .u64 x.f7.f0, .int .u16 x.f7.f1, .bool x.f8, .int .i64 x.f9, .int .i64 x.f10, .int .i64 x.f11], rfl, rfl, ⟨[.string x.f3], [.string x.f4, .int .u64 x.f5, .int .u64 x.f6.f0, .int .u16 x.f6.f1, .int .u64 x.f7.f0, .int .u16 x.f7.f1, .bool x.f8, .int .i64 x.f9, .int .i64 x.f10, .int .i64 x.f11], rfl, rfl, ⟨[.string x.f4], [.int .u64 x.f5, .int .u64 x.f6.f0, .int .u16 x.f6.f1, .int .u64 x.f7.f0, .int .u16 x.f7.f1, .bool x.f8, .int .i64 x.f9, .int .i64 x.f10, .int .i64 x.f11], rfl, rfl, ⟨[.int .u64 x.f5], [.int .u64 x.f6.f0, .int .u16 x.f6.f1, .int .u64 x.f7.f0, .int .u16 x.f7.f1, .bool x.f8, .int .i64 x.f9, .int .i64 x.f10, .int .i64 x.f11], rfl, rfl, ⟨[.int .u64 x.f6.f0, .int .u16 x.f6.f1], [.int .u64 x.f7.f0, .int .u16 x.f7.f1, .bool x.f8, .int .i64 x.f9, .int .i64 x.f10, .int .i64 x.f11], rfl, (k25_mk w x.f6 ), ⟨[.int .u64 x.f7.f0, .int .u16 x.f7.f1], [.bool x.f8, .int .i64 x.f9, .int .i64 x.f10, .int .i64 x.f11], rfl, (k25_mk w x.f7 ), ⟨[.bool x.f8], [.int .i64 x.f9, .int .i64 x.f10, .int .i64 x.f11], rfl, rfl, ⟨[.int .i64 x.f9], [.int .i64 x.f10, .int .i64 x.f11], rfl, rfl, ⟨[.int .i64 x.f10], [.int .i64 x.f11], rfl, rfl, rfl⟩⟩⟩⟩⟩⟩⟩⟩⟩⟩⟩
theorem k67_mkM (w : World) (base : Nat) (ok : Nat → Prop) (x : S67)  : k67.M w base ok x [.int .i64 x.f0, .int .i64 x.f1, .int .i64 x.f2, .string x.f3, .string x.f4, .int .u64 x.f5, .int .u64 x.f6.f0, .int .u16 x.f6.f1, .int .u64 x.f7.f0, .int .u16 x.f7.f1, .bool x.f8, .int .i64 x.f9, .int .i64 x.f10, .int .i64 x.f11] := ⟨[.int .i64 x.f0], [.int .i64 x.f1, .int .i64 x.f2, .string x.f3, .string x.f4, .int .u64 x.f5, .int .u64 x.f6.f0, .int .u16 x.f6.f1, .int .u64 x.f7.f0, .int .u16 x.f7.f1, .bool x.f8, .int .i64 x.f9, .int .i64 x.f10, .int .i64 x.f11], rfl, rfl, ⟨[.int .i64 x.f1], [.int .i64 x.f2, .string x.f3, .string x.f4, .int .u64 x.f5, .int .u64 x.f6.f0, .int .u16 x.f6.f1, .int .u64 x.f7.f0, .int .u16 x.f7.f1, .bool x.f8, .int .i64 x.f9, .int .i64 x.f10, .int .i64 x.f11], rfl, rfl, ⟨[.int .i64 x.f2], [.string x.f3, .string x.f4, .int .u64 x.f5, .int .u64 x.f6.f0, .int .u16 x.f6.f1, .int .u64 x.f7.f0, .int .u16 x.f7.f1, .bool x.f8, .int .i64 x.f9, .int .i64 x.f10, .int .i64 x.f11], rfl, rfl, ⟨[.string x.f3], [.string x.f4, .int .u64 x.f5, .int .u64 x.f6.f0, .int .u16 x.f6.f1, .int .u64 x.f7.f0, .int .u16 x.f7.f1, .bool x.f8, .int .i64 x.f9, .int .i64 x.f10, .int .i64 x.f11], rfl, rfl, ⟨[.string x.f4], [.int .u64 x.f5, .int .u64 x.f6.f0, .int .u16 x.f6.f1, .int .u64 x.f7.f0, .int .u16 x.f7.f1, .bool x.f8, .int .i64 x.f9, .int .i64 x.f10, .int .i64 x.f11], rfl, rfl, ⟨[.int .u64 x.f5], [.int .u64 x.f6.f0, .int .u16 x.f6.f1, .int .u64 x.f7.f0, .int .u16 x.f7.f1, .bool x.f8, .int .i64 x.f9, .int .i64 x.f10, .int .i64 x.f11], rfl, rfl, ⟨[.int .u64 x.f6.f0, .int .u16 x.f6.f1], [.int .u64 x.f7.f0, .int .u16 x.f7.f1, .bool x.f8, .int .i64 x.f9, .int .i64 x.f10, .int .i64 x.f11], rfl, (k25_mkM w base ok x.f6 ), ⟨[.int .u64 x.f7.f0, .int .u16 x.f7.f1], [.bool x.f8, .int .i64 x.f9, .int .i64 x.f10, .int .i64 x.f11], rfl, (k25_mkM w base ok x.f7 ), ⟨[.bool x.f8], [.int .i64 x.f9, .int .i64 x.f10, .int .i64 x.f11], rfl, rfl, ⟨[.int .i64 x.f9], [.int .i64 x.f10, .int .i64 x.f11], rfl, rfl, ⟨[.int .i64 x.f10], [.int .i64 x.f11], rfl, rfl, rfl⟩⟩⟩⟩⟩⟩⟩⟩⟩⟩⟩
theorem k67_mkF (W : World) (ok : Nat → Prop) (x : S67) : Kd.FK k67 W ok x [.int .i64 x.f0, .int .i64 x.f1, .int .i64 x.f2, .string x.f3, .string x.f4, .int .u64 x.f5, .int .u64 x.f6.f0, .int .u16 x.f6.f1, .int .u64 x.f7.f0, .int .u16 x.f7.f1, .bool x.f8, .int .i64 x.f9, .int .i64 x.f10, .int .i64 x.f11] := fun W2 _ => k67_mk W2 x
def rd_T67 (xs : List S67) (i : Int) : S67 := xs.getD i.toNat z67
theorem at_T67 {w : World} {A : Option Addr} {n : Nat} {xs : List S67} (h : Kd.C k67 w A n xs) (i : Int) (h0 : 0 ≤ i) (h1 : i < n) : ∃ ad , A = some ad ∧ w.cell? (ad.add (i.toNat * 14)) = some (.int .i64 (rd_T67 xs i).f0) ∧ w.cell? ⟨(ad.add (i.toNat * 14)).block, (ad.add (i.toNat * 14)).off + 1, none⟩ = some (.int .i64 (rd_T67 xs i).f1) ∧ w.cell? ⟨(ad.add (i.toNat * 14)).block, (ad.add (i.toNat * 14)).off + 2, none⟩ = some (.int .i64 (rd_T67 xs i).f2) ∧ w.cell? ⟨(ad.add (i.toNat * 14)).block, (ad.add (i.toNat * 14)).off + 3, none⟩ = some (.string (rd_T67 xs i).f3) ∧ w.cell? ⟨(ad.add (i.toNat * 14)).block, (ad.add (i.toNat * 14)).off + 4, none⟩ = some (.string (rd_T67 xs i).f4) ∧ w.cell? ⟨(ad.add (i.toNat * 14)).block, (ad.add (i.toNat * 14)).off + 5, none⟩ = some (.int .u64 (rd_T67 xs i).f5) ∧ w.cell? ⟨(ad.add (i.toNat * 14)).block, (ad.add (i.toNat * 14)).off + 6, none⟩ = some (.int .u64 (rd_T67 xs i).f6.f0) ∧ w.cell? ⟨(ad.add (i.toNat * 14)).block, (ad.add (i.toNat * 14)).off + 7, none⟩ = some (.int .u16 (rd_T67 xs i).f6.f1) ∧ w.cell? ⟨(ad.add (i.toNat * 14)).block, (ad.add (i.toNat * 14)).off + 8, none⟩ = some (.int .u64 (rd_T67 xs i).f7.f0) ∧ w.cell? ⟨(ad.add (i.toNat * 14)).block, (ad.add (i.toNat * 14)).off + 9, none⟩ = some (.int .u16 (rd_T67 xs i).f7.f1) ∧ w.cell? ⟨(ad.add (i.toNat * 14)).block, (ad.add (i.toNat * 14)).off + 10, none⟩ = some (.bool (rd_T67 xs i).f8) ∧ w.cell? ⟨(ad.add (i.toNat * 14)).block, (ad.add (i.toNat * 14)).off + 11, none⟩ = some (.int .i64 (rd_T67 xs i).f9) ∧ w.cell? ⟨(ad.add (i.toNat * 14)).block, (ad.add (i.toNat * 14)).off + 12, none⟩ = some (.int .i64 (rd_T67 xs i).f10) ∧ w.cell? ⟨(ad.add (i.toNat * 14)).block, (ad.add (i.toNat * 14)).off + 13, none⟩ = some (.int .i64 (rd_T67 xs i).f11) := by
  obtain ⟨ad, c, e, _, hK, hc0⟩ := Kd.C_get h z67 i h0 h1
  have hc : ∀ j u, c[j]? = some u → w.cell? (ad.add (i.toNat * 14 + j)) = some u := hc0
  obtain rfl := k67_open hK
  exact ⟨ad, e, hc 0 _ rfl, by rw [← add_field _ _ 1 (by omega)]; exact hc 1 _ rfl, by rw [← add_field _ _ 2 (by omega)]; exact hc 2 _ rfl, by rw [← add_field _ _ 3 (by omega)]; exact hc 3 _ rfl, by rw [← add_field _ _ 4 (by omega)]; exact hc 4 _ rfl, by rw [← add_field _ _ 5 (by omega)]; exact hc 5 _ rfl, by rw [← add_field _ _ 6 (by omega)]; exact hc 6 _ rfl, by rw [← add_field _ _ 7 (by omega)]; exact hc 7 _ rfl, by rw [← add_field _ _ 8 (by omega)]; exact hc 8 _ rfl, by rw [← add_field _ _ 9 (by omega)]; exact hc 9 _ rfl, by rw [← add_field _ _ 10 (by omega)]; exact hc 10 _ rfl, by rw [← add_field _ _ 11 (by omega)]; exact hc 11 _ rfl, by rw [← add_field _ _ 12 (by omega)]; exact hc 12 _ rfl, by rw [← add_field _ _ 13 (by omega)]; exact hc 13 _ rfl⟩

/-! #### struct type 70 -/
structure S70 where
  f0 : Int
  f1 : Int
  f2 : ByteArray
  f3 : ByteArray
  f4 : Bool
  f5 : Int
def z70 : S70 := ⟨(0 : Int), (0 : Int), (⟨#[]⟩ : ByteArray), (⟨#[]⟩ : ByteArray), false, (0 : Int)⟩
def k70 : Kd S70 := Kd.iso (Kd.pair (Kd.int .i64) (Kd.pair (Kd.int .i64) (Kd.pair Kd.string (Kd.pair Kd.string (Kd.pair Kd.bool (Kd.int .i64)))))) (fun x : S70 => (x.f0, x.f1, x.f2, x.f3, x.f4, x.f5))
theorem k70_open {w : World} {x : S70} {cs : List Value} (h : k70.K w x cs) : cs = [.int .i64 x.f0, .int .i64 x.f1, .string x.f2, .string x.f3, .bool x.f4, .int .i64 x.f5] := by
  obtain ⟨_, _, rfl, rfl, ⟨_, _, rfl, rfl, ⟨_, _, rfl, rfl, ⟨_, _, rfl, rfl, ⟨_, _, rfl, rfl, rfl⟩⟩⟩⟩⟩ := h
  exact rfl
theorem k70_openM {w : World} {base : Nat} {ok : Nat → Prop} {x : S70} {cs : List Value} (h : k70.M w base ok x cs) : cs = [.int .i64 x.f0, .int .i64 x.f1, .string x.f2, .string x.f3, .bool x.f4, .int .i64 x.f5] := by
  obtain ⟨_, _, rfl, rfl, ⟨_, _, rfl, rfl, ⟨_, _, rfl, rfl, ⟨_, _, rfl, rfl, ⟨_, _, rfl, rfl, rfl⟩⟩⟩⟩⟩ := h
  exact rfl
theorem k70_mk (w : World) (x : S70)  : k70.K w x [.int .i64 x.f0, .int .i64 x.f1, .string x.f2, .string x.f3, .bool x.f4, .int .i64 x.f5] := ⟨[.int .i64 x.f0], [.int .i64 x.f1, .string x.f2, .string x.f3, .bool x.f4, .int .i64 x.f5], rfl, rfl, ⟨[.int .i64 x.f1], [.string x.f2, .string x.f3, .bool x.f4, .int .i64 x.f5], rfl, rfl, ⟨[.string x.f2], [.string x.f3, .bool x.f4, .int .i64 x.f5], rfl, rfl, ⟨[.string x.f3], [.bool x.f4, .int .i64 x.f5], rfl, rfl, ⟨[.bool x.f4], [.int .i64 x.f5], rfl, rfl, rfl⟩⟩⟩⟩⟩
theorem k70_mkM (w : World) (base : Nat) (ok : Nat → Prop) (x : S70)  : k70.M w base ok x [.int .i64 x.f0, .int .i64 x.f1, .string x.f2, .string x.f3, .bool x.f4, .int .i64 x.f5] := ⟨[.int .i64 x.f0], [.int .i64 x.f1, .string x.f2, .string x.f3, .bool x.f4, .int .i64 x.f5], rfl, rfl, ⟨[.int .i64 x.f1], [.string x.f2, .string x.f3, .bool x.f4, .int .i64 x.f5], rfl, rfl, ⟨[.string x.f2], [.string x.f3, .bool x.f4, .int .i64 x.f5], rfl, rfl, ⟨[.string x.f3], [.bool x.f4, .int .i64 x.f5], rfl, rfl, ⟨[.bool x.f4], [.int .i64 x.f5], rfl, rfl, rfl⟩⟩⟩⟩⟩
theorem k70_mkF (W : World) (ok : Nat → Prop) (x : S70) : Kd.FK k70 W ok x [.int .i64 x.f0, .int .i64 x.f1, .string x.f2, .string x.f3, .bool x.f4, .int .i64 x.f5] := fun W2 _ => k70_mk W2 x
def rd_T70 (xs : List S70) (i : Int) : S70 := xs.getD i.toNat z70
theorem at_T70 {w : World} {A : Option Addr} {n : Nat} {xs : List S70} (h : Kd.C k70 w A n xs) (i : Int) (h0 : 0 ≤ i) (h1 : i < n) : ∃ ad , A = some ad ∧ w.cell? (ad.add (i.toNat * 6)) = some (.int .i64 (rd_T70 xs i).f0) ∧ w.cell? ⟨(ad.add (i.toNat * 6)).block, (ad.add (i.toNat * 6)).off + 1, none⟩ = some (.int .i64 (rd_T70 xs i).f1) ∧ w.cell? ⟨(ad.add (i.toNat * 6)).block, (ad.add (i.toNat * 6)).off + 2, none⟩ = some (.string (rd_T70 xs i).f2) ∧ w.cell? ⟨(ad.add (i.toNat * 6)).block, (ad.add (i.toNat * 6)).off + 3, none⟩ = some (.string (rd_T70 xs i).f3) ∧ w.cell? ⟨(ad.add (i.toNat * 6)).block, (ad.add (i.toNat * 6)).off + 4, none⟩ = some (.bool (rd_T70 xs i).f4) ∧ w.cell? ⟨(ad.add (i.toNat * 6)).block, (ad.add (i.toNat * 6)).off + 5, none⟩ = some (.int .i64 (rd_T70 xs i).f5) := by
  obtain ⟨ad, c, e, _, hK, hc0⟩ := Kd.C_get h z70 i h0 h1
  have hc : ∀ j u, c[j]? = some u → w.cell? (ad.add (i.toNat * 6 + j)) = some u := hc0
  obtain rfl := k70_open hK
  exact ⟨ad, e, hc 0 _ rfl, by rw [← add_field _ _ 1 (by omega)]; exact hc 1 _ rfl, by rw [← add_field _ _ 2 (by omega)]; exact hc 2 _ rfl, by rw [← add_field _ _ 3 (by omega)]; exact hc 3 _ rfl, by rw [← add_field _ _ 4 (by omega)]; exact hc 4 _ rfl, by rw [← add_field _ _ 5 (by omega)]; exact hc 5 _ rfl⟩

/-! #### struct type 73 -/
structure S73 where
  f0 : S25
  f1 : Int
def z73 : S73 := ⟨z25, (0 : Int)⟩
def k73 : Kd S73 := Kd.iso (Kd.pair k25 (Kd.int .i64)) (fun x : S73 => (x.f0, x.f1))
theorem k73_open {w : World} {x : S73} {cs : List Value} (h : k73.K w x cs) : cs = [.int .u64 x.f0.f0, .int .u16 x.f0.f1, .int .i64 x.f1] := by
  obtain ⟨_, _, rfl, s0, rfl⟩ := h
  obtain rfl := k25_open s0
  exact rfl
theorem k73_openM {w : World} {base : Nat} {ok : Nat → Prop} {x : S73} {cs : List Value} (h : k73.M w base ok x cs) : cs = [.int .u64 x.f0.f0, .int .u16 x.f0.f1, .int .i64 x.f1] := by
  obtain ⟨_, _, rfl, s0, rfl⟩ := h
  obtain rfl := k25_openM s0
  exact rfl
theorem k73_mk (w : World) (x : S73)  : k73.K w x [.int .u64 x.f0.f0, .int .u16 x.f0.f1, .int .i64 x.f1] := ⟨[.int .u64 x.f0.f0, .int .u16 x.f0.f1], [.int .i64 x.f1], rfl, (k25_mk w x.f0 ), rfl⟩
theorem k73_mkM (w : World) (base : Nat) (ok : Nat → Prop) (x : S73)  : k73.M w base ok x [.int .u64 x.f0.f0, .int .u16 x.f0.f1, .int .i64 x.f1] := ⟨[.int .u64 x.f0.f0, .int .u16 x.f0.f1], [.int .i64 x.f1], rfl, (k25_mkM w base ok x.f0 ), rfl⟩
theorem k73_mkF (W : World) (ok : Nat → Prop) (x : S73) : Kd.FK k73 W ok x [.int .u64 x.f0.f0, .int .u16 x.f0.f1, .int .i64 x.f1] := fun W2 _ => k73_mk W2 x
def rd_T73 (xs : List S73) (i : Int) : S73 := xs.getD i.toNat z73
theorem at_T73 {w : World} {A : Option Addr} {n : Nat} {xs : List S73} (h : Kd.C k73 w A n xs) (i : Int) (h0 : 0 ≤ i) (h1 : i < n) : ∃ ad , A = some ad ∧ w.cell? (ad.add (i.toNat * 3)) = some (.int .u64 (rd_T73 xs i).f0.f0) ∧ w.cell? ⟨(ad.add (i.toNat * 3)).block, (ad.add (i.toNat * 3)).off + 1, none⟩ = some (.int .u16 (rd_T73 xs i).f0.f1) ∧ w.cell? ⟨(ad.add (i.toNat * 3)).block, (ad.add (i.toNat * 3)).off + 2, none⟩ = some (.int .i64 (rd_T73 xs i).f1) := by
  obtain ⟨ad, c, e, _, hK, hc0⟩ := Kd.C_get h z73 i h0 h1
  have hc : ∀ j u, c[j]? = some u → w.cell? (ad.add (i.toNat * 3 + j)) = some u := hc0
  obtain rfl := k73_open hK
  exact ⟨ad, e, hc 0 _ rfl, by rw [← add_field _ _ 1 (by omega)]; exact hc 1 _ rfl, by rw [← add_field _ _ 2 (by omega)]; exact hc 2 _ rfl⟩

/-! #### struct type 76 -/
structure S76 where
  f0 : Int
  f1 : S25
def z76 : S76 := ⟨(0 : Int), z25⟩
def k76 : Kd S76 := Kd.iso (Kd.pair (Kd.int .i64) k25) (fun x : S76 => (x.f0, x.f1))
theorem k76_open {w : World} {x : S76} {cs : List Value} (h : k76.K w x cs) : cs = [.int .i64 x.f0, .int .u64 x.f1.f0, .int .u16 x.f1.f1] := by
  obtain ⟨_, _, rfl, rfl, s1⟩ := h
  obtain rfl := k25_open s1
  exact rfl
theorem k76_openM {w : World} {base : Nat} {ok : Nat → Prop} {x : S76} {cs : List Value} (h : k76.M w base ok x cs) : cs = [.int .i64 x.f0, .int .u64 x.f1.f0, .int .u16 x.f1.f1] := by
  obtain ⟨_, _, rfl, rfl, s1⟩ := h
  obtain rfl := k25_openM s1
  exact rfl
theorem k76_mk (w : World) (x : S76)  : k76.K w x [.int .i64 x.f0, .int .u64 x.f1.f0, .int .u16 x.f1.f1] := ⟨[.int .i64 x.f0], [.int .u64 x.f1.f0, .int .u16 x.f1.f1], rfl, rfl, (k25_mk w x.f1 )⟩
theorem k76_mkM (w : World) (base : Nat) (ok : Nat → Prop) (x : S76)  : k76.M w base ok x [.int .i64 x.f0, .int .u64 x.f1.f0, .int .u16 x.f1.f1] := ⟨[.int .i64 x.f0], [.int .u64 x.f1.f0, .int .u16 x.f1.f1], rfl, rfl, (k25_mkM w base ok x.f1 )⟩
theorem k76_mkF (W : World) (ok : Nat → Prop) (x : S76) : Kd.FK k76 W ok x [.int .i64 x.f0, .int .u64 x.f1.f0, .int .u16 x.f1.f1] := fun W2 _ => k76_mk W2 x
def rd_T76 (xs : List S76) (i : Int) : S76 := xs.getD i.toNat z76
theorem at_T76 {w : World} {A : Option Addr} {n : Nat} {xs : List S76} (h : Kd.C k76 w A n xs) (i : Int) (h0 : 0 ≤ i) (h1 : i < n) : ∃ ad , A = some ad ∧ w.cell? (ad.add (i.toNat * 3)) = some (.int .i64 (rd_T76 xs i).f0) ∧ w.cell? ⟨(ad.add (i.toNat * 3)).block, (ad.add (i.toNat * 3)).off + 1, none⟩ = some (.int .u64 (rd_T76 xs i).f1.f0) ∧ w.cell? ⟨(ad.add (i.toNat * 3)).block, (ad.add (i.toNat * 3)).off + 2, none⟩ = some (.int .u16 (rd_T76 xs i).f1.f1) := by
  obtain ⟨ad, c, e, _, hK, hc0⟩ := Kd.C_get h z76 i h0 h1
  have hc : ∀ j u, c[j]? = some u → w.cell? (ad.add (i.toNat * 3 + j)) = some u := hc0
  obtain rfl := k76_open hK
  exact ⟨ad, e, hc 0 _ rfl, by rw [← add_field _ _ 1 (by omega)]; exact hc 1 _ rfl, by rw [← add_field _ _ 2 (by omega)]; exact hc 2 _ rfl⟩

/-! #### struct type 51 -/
structure S51 where
  f0 : Int
  f1 : Int
  f2 : Int
  f3 : Int
  f4 : S25
  f5 : Int
def z51 : S51 := ⟨(0 : Int), (0 : Int), (0 : Int), (0 : Int), z25, (0 : Int)⟩
def k51 : Kd S51 := Kd.iso (Kd.pair (Kd.int .u32) (Kd.pair (Kd.int .i64) (Kd.pair (Kd.int .i64) (Kd.pair (Kd.int .i64) (Kd.pair k25 (Kd.int .i64)))))) (fun x : S51 => (x.f0, x.f1, x.f2, x.f3, x.f4, x.f5))
theorem k51_open {w : World} {x : S51} {cs : List Value} (h : k51.K w x cs) : cs = [.int .u32 x.f0, .int .i64 x.f1, .int .i64 x.f2, .int .i64 x.f3, .int .u64 x.f4.f0, .int .u16 x.f4.f1, .int .i64 x.f5] := by
  obtain ⟨_, _, rfl, rfl, ⟨_, _, rfl, rfl, ⟨_, _, rfl, rfl, ⟨_, _, rfl, rfl, ⟨_, _, rfl, s4, rfl⟩⟩⟩⟩⟩ := h
  obtain rfl := k25_open s4
  exact rfl
theorem k51_openM {w : World} {base : Nat} {ok : Nat → Prop} {x : S51} {cs : List Value} (h : k51.M w base ok x cs) : cs = [.int .u32 x.f0, .int .i64 x.f1, .int .i64 x.f2, .int .i64 x.f3, .int .u64 x.f4.f0, .int .u16 x.f4.f1, .int .i64 x.f5] := by
  obtain ⟨_, _, rfl, rfl, ⟨_, _, rfl, rfl, ⟨_, _, rfl, rfl, ⟨_, _, rfl, rfl, ⟨_, _, rfl, s4, rfl⟩⟩⟩⟩⟩ := h
  obtain rfl := k25_openM s4
  exact rfl
theorem k51_mk (w : World) (x : S51)  : k51.K w x [.int .u32 x.f0, .int .i64 x.f1, .int .i64 x.f2, .int .i64 x.f3, .int .u64 x.f4.f0, .int .u16 x.f4.f1, .int .i64 x.f5] := ⟨[.int .u32 x.f0], [.int .i64 x.f1, .int .i64 x.f2, .int .i64 x.f3, .int .u64 x.f4.f0, .int .u16 x.f4.f1, .int .i64 x.f5], rfl, rfl, ⟨[.int .i64 x.f1], [.int .i64 x.f2, .int .i64 x.f3, .int .u64 x.f4.f0, .int .u16 x.f4.f1, .int .i64 x.f5], rfl, rfl, ⟨[.int .i64 x.f2], [.int .i64 x.f3, .int .u64 x.f4.f0, .int .u16 x.f4.f1, .int .i64 x.f5], rfl, rfl, ⟨[.int .i64 x.f3], [.int .u64 x.f4.f0, .int .u16 x.f4.f1, .int .i64 x.f5], rfl, rfl, ⟨[.int .u64 x.f4.f0, .int .u16 x.f4.f1], [.int .i64 x.f5], rfl, (k25_mk w x.f4 ), rfl⟩⟩⟩⟩⟩
theorem k51_mkM (w : World) (base : Nat) (ok : Nat → Prop) (x : S51)  : k51.M w base ok x [.int .u32 x.f0, .int .i64 x.f1, .int .i64 x.f2, .int .i64 x.f3, .int .u64 x.f4.f0, .int .u16 x.f4.f1, .int .i64 x.f5] := ⟨[.int .u32 x.f0], [.int .i64 x.f1, .int .i64 x.f2, .int .i64 x.f3, .int .u64 x.f4.f0, .int .u16 x.f4.f1, .int .i64 x.f5], rfl, rfl, ⟨[.int .i64 x.f1], [.int .i64 x.f2, .int .i64 x.f3, .int .u64 x.f4.f0, .int .u16 x.f4.f1, .int .i64 x.f5], rfl, rfl, ⟨[.int .i64 x.f2], [.int .i64 x.f3, .int .u64 x.f4.f0, .int .u16 x.f4.f1, .int .i64 x.f5], rfl, rfl, ⟨[.int .i64 x.f3], [.int .u64 x.f4.f0, .int .u16 x.f4.f1, .int .i64 x.f5], rfl, rfl, ⟨[.int .u64 x.f4.f0, .int .u16 x.f4.f1], [.int .i64 x.f5], rfl, (k25_mkM w base ok x.f4 ), rfl⟩⟩⟩⟩⟩
theorem k51_mkF (W : World) (ok : Nat → Prop) (x : S51) : Kd.FK k51 W ok x [.int .u32 x.f0, .int .i64 x.f1, .int .i64 x.f2, .int .i64 x.f3, .int .u64 x.f4.f0, .int .u16 x.f4.f1, .int .i64 x.f5] := fun W2 _ => k51_mk W2 x
def rd_T51 (xs : List S51) (i : Int) : S51 := xs.getD i.toNat z51
theorem at_T51 {w : World} {A : Option Addr} {n : Nat} {xs : List S51} (h : Kd.C k51 w A n xs) (i : Int) (h0 : 0 ≤ i) (h1 : i < n) : ∃ ad , A = some ad ∧ w.cell? (ad.add (i.toNat * 7)) = some (.int .u32 (rd_T51 xs i).f0) ∧ w.cell? ⟨(ad.add (i.toNat * 7)).block, (ad.add (i.toNat * 7)).off + 1, none⟩ = some (.int .i64 (rd_T51 xs i).f1) ∧ w.cell? ⟨(ad.add (i.toNat * 7)).block, (ad.add (i.toNat * 7)).off + 2, none⟩ = some (.int .i64 (rd_T51 xs i).f2) ∧ w.cell? ⟨(ad.add (i.toNat * 7)).block, (ad.add (i.toNat * 7)).off + 3, none⟩ = some (.int .i64 (rd_T51 xs i).f3) ∧ w.cell? ⟨(ad.add (i.toNat * 7)).block, (ad.add (i.toNat * 7)).off + 4, none⟩ = some (.int .u64 (rd_T51 xs i).f4.f0) ∧ w.cell? ⟨(ad.add (i.toNat * 7)).block, (ad.add (i.toNat * 7)).off + 5, none⟩ = some (.int .u16 (rd_T51 xs i).f4.f1) ∧ w.cell? ⟨(ad.add (i.toNat * 7)).block, (ad.add (i.toNat * 7)).off + 6, none⟩ = some (.int .i64 (rd_T51 xs i).f5) := by
  obtain ⟨ad, c, e, _, hK, hc0⟩ := Kd.C_get h z51 i h0 h1
  have hc : ∀ j u, c[j]? = some u → w.cell? (ad.add (i.toNat * 7 + j)) = some u := hc0
  obtain rfl := k51_open hK
  exact ⟨ad, e, hc 0 _ rfl, by rw [← add_field _ _ 1 (by omega)]; exact hc 1 _ rfl, by rw [← add_field _ _ 2 (by omega)]; exact hc 2 _ rfl, by rw [← add_field _ _ 3 (by omega)]; exact hc 3 _ rfl, by rw [← add_field _ _ 4 (by omega)]; exact hc 4 _ rfl, by rw [← add_field _ _ 5 (by omega)]; exact hc 5 _ rfl, by rw [← add_field _ _ 6 (by omega)]; exact hc 6 _ rfl⟩

def rd_L13 (xs : List (List S73)) (i : Int) : (List S73) := xs.getD i.toNat ([] : List S73)
theorem at_L13 {w : World} {A : Option Addr} {n : Nat} {xs : List (List S73)} (h : Kd.C (Kd.slice 73 k73) w A n xs) (i : Int) (h0 : 0 ≤ i) (h1 : i < n) : ∃ ad A0 c0, A = some ad ∧ w.cell? (ad.add i.toNat) = some (.slice A0 (rd_L13 xs i).length c0) ∧ (rd_L13 xs i).length ≤ c0 ∧ k73.C w A0 (rd_L13 xs i).length (rd_L13 xs i) := by
  obtain ⟨ad, c, e, _, hK, hc0⟩ := Kd.C_get h ([] : List S73) i h0 h1
  have hc : ∀ j u, c[j]? = some u → w.cell? (ad.add (i.toNat * 1 + j)) = some u := hc0
  obtain ⟨A0, c0, rfl, l0, g0⟩ := hK
  exact ⟨ad, A0, c0, e, by have hq := hc 0 _ rfl; rwa [Nat.mul_one, Nat.add_zero] at hq, l0, g0⟩

def rd_L14 (xs : List (List S76)) (i : Int) : (List S76) := xs.getD i.toNat ([] : List S76)
theorem at_L14 {w : World} {A : Option Addr} {n : Nat} {xs : List (List S76)} (h : Kd.C (Kd.slice 76 k76) w A n xs) (i : Int) (h0 : 0 ≤ i) (h1 : i < n) : ∃ ad A0 c0, A = some ad ∧ w.cell? (ad.add i.toNat) = some (.slice A0 (rd_L14 xs i).length c0) ∧ (rd_L14 xs i).length ≤ c0 ∧ k76.C w A0 (rd_L14 xs i).length (rd_L14 xs i) := by
  obtain ⟨ad, c, e, _, hK, hc0⟩ := Kd.C_get h ([] : List S76) i h0 h1
  have hc : ∀ j u, c[j]? = some u → w.cell? (ad.add (i.toNat * 1 + j)) = some u := hc0
  obtain ⟨A0, c0, rfl, l0, g0⟩ := hK
  exact ⟨ad, A0, c0, e, by have hq := hc 0 _ rfl; rwa [Nat.mul_one, Nat.add_zero] at hq, l0, g0⟩

def rd_L15 (xs : List (List S48)) (i : Int) : (List S48) := xs.getD i.toNat ([] : List S48)
theorem at_L15 {w : World} {A : Option Addr} {n : Nat} {xs : List (List S48)} (h : Kd.C (Kd.slice 48 k48) w A n xs) (i : Int) (h0 : 0 ≤ i) (h1 : i < n) : ∃ ad A0 c0, A = some ad ∧ w.cell? (ad.add i.toNat) = some (.slice A0 (rd_L15 xs i).length c0) ∧ (rd_L15 xs i).length ≤ c0 ∧ k48.C w A0 (rd_L15 xs i).length (rd_L15 xs i) := by
  obtain ⟨ad, c, e, _, hK, hc0⟩ := Kd.C_get h ([] : List S48) i h0 h1
  have hc : ∀ j u, c[j]? = some u → w.cell? (ad.add (i.toNat * 1 + j)) = some u := hc0
  obtain ⟨A0, c0, rfl, l0, g0⟩ := hK
  exact ⟨ad, A0, c0, e, by have hq := hc 0 _ rfl; rwa [Nat.mul_one, Nat.add_zero] at hq, l0, g0⟩

def rd_L16 (xs : List (List S51)) (i : Int) : (List S51) := xs.getD i.toNat ([] : List S51)
theorem at_L16 {w : World} {A : Option Addr} {n : Nat} {xs : List (List S51)} (h : Kd.C (Kd.slice 51 k51) w A n xs) (i : Int) (h0 : 0 ≤ i) (h1 : i < n) : ∃ ad A0 c0, A = some ad ∧ w.cell? (ad.add i.toNat) = some (.slice A0 (rd_L16 xs i).length c0) ∧ (rd_L16 xs i).length ≤ c0 ∧ k51.C w A0 (rd_L16 xs i).length (rd_L16 xs i) := by
  obtain ⟨ad, c, e, _, hK, hc0⟩ := Kd.C_get h ([] : List S51) i h0 h1
  have hc : ∀ j u, c[j]? = some u → w.cell? (ad.add (i.toNat * 1 + j)) = some u := hc0
  obtain ⟨A0, c0, rfl, l0, g0⟩ := hK
  exact ⟨ad, A0, c0, e, by have hq := hc 0 _ rfl; rwa [Nat.mul_one, Nat.add_zero] at hq, l0, g0⟩

def rd_L17 (xs : List (List S67)) (i : Int) : (List S67) := xs.getD i.toNat ([] : List S67)
theorem at_L17 {w : World} {A : Option Addr} {n : Nat} {xs : List (List S67)} (h : Kd.C (Kd.slice 67 k67) w A n xs) (i : Int) (h0 : 0 ≤ i) (h1 : i < n) : ∃ ad A0 c0, A = some ad ∧ w.cell? (ad.add i.toNat) = some (.slice A0 (rd_L17 xs i).length c0) ∧ (rd_L17 xs i).length ≤ c0 ∧ k67.C w A0 (rd_L17 xs i).length (rd_L17 xs i) := by
  obtain ⟨ad, c, e, _, hK, hc0⟩ := Kd.C_get h ([] : List S67) i h0 h1
  have hc : ∀ j u, c[j]? = some u → w.cell? (ad.add (i.toNat * 1 + j)) = some u := hc0
  obtain ⟨A0, c0, rfl, l0, g0⟩ := hK
  exact ⟨ad, A0, c0, e, by have hq := hc 0 _ rfl; rwa [Nat.mul_one, Nat.add_zero] at hq, l0, g0⟩

def rd_L18 (xs : List (List S70)) (i : Int) : (List S70) := xs.getD i.toNat ([] : List S70)
theorem at_L18 {w : World} {A : Option Addr} {n : Nat} {xs : List (List S70)} (h : Kd.C (Kd.slice 70 k70) w A n xs) (i : Int) (h0 : 0 ≤ i) (h1 : i < n) : ∃ ad A0 c0, A = some ad ∧ w.cell? (ad.add i.toNat) = some (.slice A0 (rd_L18 xs i).length c0) ∧ (rd_L18 xs i).length ≤ c0 ∧ k70.C w A0 (rd_L18 xs i).length (rd_L18 xs i) := by
  obtain ⟨ad, c, e, _, hK, hc0⟩ := Kd.C_get h ([] : List S70) i h0 h1
  have hc : ∀ j u, c[j]? = some u → w.cell? (ad.add (i.toNat * 1 + j)) = some u := hc0
  obtain ⟨A0, c0, rfl, l0, g0⟩ := hK
  exact ⟨ad, A0, c0, e, by have hq := hc 0 _ rfl; rwa [Nat.mul_one, Nat.add_zero] at hq, l0, g0⟩

def rd_L20 (xs : List (List S25)) (i : Int) : (List S25) := xs.getD i.toNat ([] : List S25)
theorem at_L20 {w : World} {A : Option Addr} {n : Nat} {xs : List (List S25)} (h : Kd.C (Kd.slice 25 k25) w A n xs) (i : Int) (h0 : 0 ≤ i) (h1 : i < n) : ∃ ad A0 c0, A = some ad ∧ w.cell? (ad.add i.toNat) = some (.slice A0 (rd_L20 xs i).length c0) ∧ (rd_L20 xs i).length ≤ c0 ∧ k25.C w A0 (rd_L20 xs i).length (rd_L20 xs i) := by
  obtain ⟨ad, c, e, _, hK, hc0⟩ := Kd.C_get h ([] : List S25) i h0 h1
  have hc : ∀ j u, c[j]? = some u → w.cell? (ad.add (i.toNat * 1 + j)) = some u := hc0
  obtain ⟨A0, c0, rfl, l0, g0⟩ := hK
  exact ⟨ad, A0, c0, e, by have hq := hc 0 _ rfl; rwa [Nat.mul_one, Nat.add_zero] at hq, l0, g0⟩

/-! #### struct type 37 -/
structure S37 where
  f0 : Int
  f1 : Int
  f2 : Int
  f3 : Bool
  f4 : Int
  f5 : ByteArray
  f6 : ByteArray
  f7 : S25
  f8 : (List S25)
  f9 : (List S48)
def z37 : S37 := ⟨(0 : Int), (0 : Int), (0 : Int), false, (0 : Int), (⟨#[]⟩ : ByteArray), (⟨#[]⟩ : ByteArray), z25, ([] : List S25), ([] : List S48)⟩
def k37 : Kd S37 := Kd.iso (Kd.pair (Kd.int .i64) (Kd.pair (Kd.int .u32) (Kd.pair (Kd.int .u8) (Kd.pair Kd.bool (Kd.pair (Kd.int .u64) (Kd.pair Kd.string (Kd.pair Kd.string (Kd.pair k25 (Kd.pair (Kd.slice 25 k25) (Kd.slice 48 k48)))))))))) (fun x : S37 => (x.f0, x.f1, x.f2, x.f3, x.f4, x.f5, x.f6, x.f7, x.f8, x.f9))
theorem k37_open {w : World} {x : S37} {cs : List Value} (h : k37.K w x cs) : ∃ A9 c9 A10 c10, cs = [.int .i64 x.f0, .int .u32 x.f1, .int .u8 x.f2, .bool x.f3, .int .u64 x.f4, .string x.f5, .string x.f6, .int .u64 x.f7.f0, .int .u16 x.f7.f1, .slice A9 x.f8.length c9, .slice A10 x.f9.length c10] ∧ x.f8.length ≤ c9 ∧ k25.C w A9 x.f8.length x.f8 ∧ x.f9.length ≤ c10 ∧ k48.C w A10 x.f9.length x.f9 := by
  obtain ⟨_, _, rfl, rfl, ⟨_, _, rfl, rfl, ⟨_, _, rfl, rfl, ⟨_, _, rfl, rfl, ⟨_, _, rfl, rfl, ⟨_, _, rfl, rfl, ⟨_, _, rfl, rfl, ⟨_, _, rfl, s7, ⟨_, _, rfl, ⟨A9, c9, rfl, l9, g9⟩, ⟨A10, c10, rfl, l10, g10⟩⟩⟩⟩⟩⟩⟩⟩⟩⟩ := h
  obtain rfl := k25_open s7
  exact ⟨A9, c9, A10, c10, rfl, l9, g9, l10, g10⟩
theorem k37_openM {w : World} {base : Nat} {ok : Nat → Prop} {x : S37} {cs : List Value} (h : k37.M w base ok x cs) : ∃ v9 v10, cs = [.int .i64 x.f0, .int .u32 x.f1, .int .u8 x.f2, .bool x.f3, .int .u64 x.f4, .string x.f5, .string x.f6, .int .u64 x.f7.f0, .int .u16 x.f7.f1, v9, v10] ∧ k25.R 25 w base ok v9 x.f8 ∧ k48.R 48 w base ok v10 x.f9 := by
  obtain ⟨_, _, rfl, rfl, ⟨_, _, rfl, rfl, ⟨_, _, rfl, rfl, ⟨_, _, rfl, rfl, ⟨_, _, rfl, rfl, ⟨_, _, rfl, rfl, ⟨_, _, rfl, rfl, ⟨_, _, rfl, s7, ⟨_, _, rfl, ⟨v9, rfl, g9⟩, ⟨v10, rfl, g10⟩⟩⟩⟩⟩⟩⟩⟩⟩⟩ := h
  obtain rfl := k25_openM s7
  exact ⟨v9, v10, rfl, g9, g10⟩
theorem k37_mk (w : World) (x : S37) {A9 : Option Addr} {c9 : Nat} (l9 : x.f8.length ≤ c9) (g9 : k25.C w A9 x.f8.length x.f8) {A10 : Option Addr} {c10 : Nat} (l10 : x.f9.length ≤ c10) (g10 : k48.C w A10 x.f9.length x.f9) : k37.K w x [.int .i64 x.f0, .int .u32 x.f1, .int .u8 x.f2, .bool x.f3, .int .u64 x.f4, .string x.f5, .string x.f6, .int .u64 x.f7.f0, .int .u16 x.f7.f1, .slice A9 x.f8.length c9, .slice A10 x.f9.length c10] := ⟨[.int .i64 x.f0], [.int .u32 x.f1, .int .u8 x.f2, .bool x.f3, .int .u64 x.f4, .string x.f5, .string x.f6, .int .u64 x.f7.f0, .int .u16 x.f7.f1, .slice A9 x.f8.length c9, .slice A10 x.f9.length c10], rfl, rfl, ⟨[.int .u32 x.f1], [.int .u8 x.f2, .bool x.f3, .int .u64 x.f4, .string x.f5, .string x.f6, .int .u64 x.f7.f0, .int .u16 x.f7.f1, .slice A9 x.f8.length c9, .slice A10 x.f9.length c10], rfl, rfl, ⟨[.int .u8 x.f2], [.bool x.f3, .int .u64 x.f4, .string x.f5, .string x.f6, .int .u64 x.f7.f0, .int .u16 x.f7.f1, .slice A9 x.f8.length c9, .slice A10 x.f9.length c10], rfl, rfl, ⟨[.bool x.f3], [.int .u64 x.f4, .string x.f5, .string x.f6, .int .u64 x.f7.f0, .int .u16 x.f7.f1, .slice A9 x.f8.length c9, .slice A10 x.f9.length c10], rfl, rfl, ⟨[.int .u64 x.f4], [.string x.f5, .string x.f6, .int .u64 x.f7.f0, .int .u16 x.f7.f1, .slice A9 x.f8.length c9, .slice A10 x.f9.length c10], rfl, rfl, ⟨[.string x.f5], [.string x.f6, .int .u64 x.f7.f0, .int .u16 x.f7.f1, .slice A9 x.f8.length c9, .slice A10 x.f9.length c10], rfl, rfl, ⟨[.string x.f6], [.int .u64 x.f7.f0, .int .u16 x.f7.f1, .slice A9 x.f8.length c9, .slice A10 x.f9.length c10], rfl, rfl, ⟨[.int .u64 x.f7.f0, .int .u16 x.f7.f1], [.slice A9 x.f8.length c9, .slice A10 x.f9.length c10], rfl, (k25_mk w x.f7 ), ⟨[.slice A9 x.f8.length c9], [.slice A10 x.f9.length c10], rfl, ⟨A9, c9, rfl, l9, g9⟩, ⟨A10, c10, rfl, l10, g10⟩⟩⟩⟩⟩⟩⟩⟩⟩⟩
theorem k37_mkM (w : World) (base : Nat) (ok : Nat → Prop) (x : S37) {v9 : Value} (g9 : k25.R 25 w base ok v9 x.f8) {v10 : Value} (g10 : k48.R 48 w base ok v10 x.f9) : k37.M w base ok x [.int .i64 x.f0, .int .u32 x.f1, .int .u8 x.f2, .bool x.f3, .int .u64 x.f4, .string x.f5, .string x.f6, .int .u64 x.f7.f0, .int .u16 x.f7.f1, v9, v10] := ⟨[.int .i64 x.f0], [.int .u32 x.f1, .int .u8 x.f2, .bool x.f3, .int .u64 x.f4, .string x.f5, .string x.f6, .int .u64 x.f7.f0, .int .u16 x.f7.f1, v9, v10], rfl, rfl, ⟨[.int .u32 x.f1], [.int .u8 x.f2, .bool x.f3, .int .u64 x.f4, .string x.f5, .string x.f6, .int .u64 x.f7.f0, .int .u16 x.f7.f1, v9, v10], rfl, rfl, ⟨[.int .u8 x.f2], [.bool x.f3, .int .u64 x.f4, .string x.f5, .string x.f6, .int .u64 x.f7.f0, .int .u16 x.f7.f1, v9, v10], rfl, rfl, ⟨[.bool x.f3], [.int .u64 x.f4, .string x.f5, .string x.f6, .int .u64 x.f7.f0, .int .u16 x.f7.f1, v9, v10], rfl, rfl, ⟨[.int .u64 x.f4], [.string x.f5, .string x.f6, .int .u64 x.f7.f0, .int .u16 x.f7.f1, v9, v10], rfl, rfl, ⟨[.string x.f5], [.string x.f6, .int .u64 x.f7.f0, .int .u16 x.f7.f1, v9, v10], rfl, rfl, ⟨[.string x.f6], [.int .u64 x.f7.f0, .int .u16 x.f7.f1, v9, v10], rfl, rfl, ⟨[.int .u64 x.f7.f0, .int .u16 x.f7.f1], [v9, v10], rfl, (k25_mkM w base ok x.f7 ), ⟨[v9], [v10], rfl, ⟨v9, rfl, g9⟩, ⟨v10, rfl, g10⟩⟩⟩⟩⟩⟩⟩⟩⟩⟩
theorem k37_openF {W : World} {ok : Nat → Prop} {x : S37} {cs : List Value} (h : Kd.FK k37 W ok x cs) : ∃ A9 c9 A10 c10, cs = [.int .i64 x.f0, .int .u32 x.f1, .int .u8 x.f2, .bool x.f3, .int .u64 x.f4, .string x.f5, .string x.f6, .int .u64 x.f7.f0, .int .u16 x.f7.f1, .slice A9 x.f8.length c9, .slice A10 x.f9.length c10] ∧ x.f8.length ≤ c9 ∧ Kd.F k25 W ok A9 x.f8.length x.f8 ∧ x.f9.length ≤ c10 ∧ Kd.F k48 W ok A10 x.f9.length x.f9 := by
  obtain ⟨A9, c9, A10, c10, rfl, l9, _, l10, _⟩ := k37_open (Kd.FK_now h)
  exact ⟨A9, c9, A10, c10, rfl, l9, (fun W' hW => by obtain ⟨A9_, c9_, A10_, c10_, he, l9_, g9_, l10_, g10_⟩ := k37_open (h W' hW); injection (Option.some.inj (show some (Value.slice A9 x.f8.length c9) = some (Value.slice A9_ x.f8.length c9_) from congrArg (fun l => l[9]?) he)) with ha_ _ _; rw [ha_]; exact g9_), l10, (fun W' hW => by obtain ⟨A9_, c9_, A10_, c10_, he, l9_, g9_, l10_, g10_⟩ := k37_open (h W' hW); injection (Option.some.inj (show some (Value.slice A10 x.f9.length c10) = some (Value.slice A10_ x.f9.length c10_) from congrArg (fun l => l[10]?) he)) with ha_ _ _; rw [ha_]; exact g10_)⟩
theorem k37_mkF (W : World) (ok : Nat → Prop) (x : S37) {A9 : Option Addr} {c9 : Nat} (l9 : x.f8.length ≤ c9) (g9 : Kd.F k25 W ok A9 x.f8.length x.f8) {A10 : Option Addr} {c10 : Nat} (l10 : x.f9.length ≤ c10) (g10 : Kd.F k48 W ok A10 x.f9.length x.f9) : Kd.FK k37 W ok x [.int .i64 x.f0, .int .u32 x.f1, .int .u8 x.f2, .bool x.f3, .int .u64 x.f4, .string x.f5, .string x.f6, .int .u64 x.f7.f0, .int .u16 x.f7.f1, .slice A9 x.f8.length c9, .slice A10 x.f9.length c10] := fun W2 hW => k37_mk W2 x l9 (g9 W2 hW) l10 (g10 W2 hW)
def rd_T37 (xs : List S37) (i : Int) : S37 := xs.getD i.toNat z37
theorem at_T37 {w : World} {A : Option Addr} {n : Nat} {xs : List S37} (h : Kd.C k37 w A n xs) (i : Int) (h0 : 0 ≤ i) (h1 : i < n) : ∃ ad A9 c9 A10 c10, A = some ad ∧ w.cell? (ad.add (i.toNat * 11)) = some (.int .i64 (rd_T37 xs i).f0) ∧ w.cell? ⟨(ad.add (i.toNat * 11)).block, (ad.add (i.toNat * 11)).off + 1, none⟩ = some (.int .u32 (rd_T37 xs i).f1) ∧ w.cell? ⟨(ad.add (i.toNat * 11)).block, (ad.add (i.toNat * 11)).off + 2, none⟩ = some (.int .u8 (rd_T37 xs i).f2) ∧ w.cell? ⟨(ad.add (i.toNat * 11)).block, (ad.add (i.toNat * 11)).off + 3, none⟩ = some (.bool (rd_T37 xs i).f3) ∧ w.cell? ⟨(ad.add (i.toNat * 11)).block, (ad.add (i.toNat * 11)).off + 4, none⟩ = some (.int .u64 (rd_T37 xs i).f4) ∧ w.cell? ⟨(ad.add (i.toNat * 11)).block, (ad.add (i.toNat * 11)).off + 5, none⟩ = some (.string (rd_T37 xs i).f5) ∧ w.cell? ⟨(ad.add (i.toNat * 11)).block, (ad.add (i.toNat * 11)).off + 6, none⟩ = some (.string (rd_T37 xs i).f6) ∧ w.cell? ⟨(ad.add (i.toNat * 11)).block, (ad.add (i.toNat * 11)).off + 7, none⟩ = some (.int .u64 (rd_T37 xs i).f7.f0) ∧ w.cell? ⟨(ad.add (i.toNat * 11)).block, (ad.add (i.toNat * 11)).off + 8, none⟩ = some (.int .u16 (rd_T37 xs i).f7.f1) ∧ w.cell? ⟨(ad.add (i.toNat * 11)).block, (ad.add (i.toNat * 11)).off + 9, none⟩ = some (.slice A9 (rd_T37 xs i).f8.length c9) ∧ w.cell? ⟨(ad.add (i.toNat * 11)).block, (ad.add (i.toNat * 11)).off + 10, none⟩ = some (.slice A10 (rd_T37 xs i).f9.length c10) ∧ (rd_T37 xs i).f8.length ≤ c9 ∧ k25.C w A9 (rd_T37 xs i).f8.length (rd_T37 xs i).f8 ∧ (rd_T37 xs i).f9.length ≤ c10 ∧ k48.C w A10 (rd_T37 xs i).f9.length (rd_T37 xs i).f9 := by
  obtain ⟨ad, c, e, _, hK, hc0⟩ := Kd.C_get h z37 i h0 h1
  have hc : ∀ j u, c[j]? = some u → w.cell? (ad.add (i.toNat * 11 + j)) = some u := hc0
  obtain ⟨A9, c9, A10, c10, rfl, l9, g9, l10, g10⟩ := k37_open hK
  exact ⟨ad, A9, c9, A10, c10, e, hc 0 _ rfl, by rw [← add_field _ _ 1 (by omega)]; exact hc 1 _ rfl, by rw [← add_field _ _ 2 (by omega)]; exact hc 2 _ rfl, by rw [← add_field _ _ 3 (by omega)]; exact hc 3 _ rfl, by rw [← add_field _ _ 4 (by omega)]; exact hc 4 _ rfl, by rw [← add_field _ _ 5 (by omega)]; exact hc 5 _ rfl, by rw [← add_field _ _ 6 (by omega)]; exact hc 6 _ rfl, by rw [← add_field _ _ 7 (by omega)]; exact hc 7 _ rfl, by rw [← add_field _ _ 8 (by omega)]; exact hc 8 _ rfl, by rw [← add_field _ _ 9 (by omega)]; exact hc 9 _ rfl, by rw [← add_field _ _ 10 (by omega)]; exact hc 10 _ rfl, l9, g9, l10, g10⟩

/-! #### struct type 63 -/
structure S63 where
  f0 : S25
  f1 : S37
def z63 : S63 := ⟨z25, z37⟩
def k63 : Kd S63 := Kd.iso (Kd.pair k25 k37) (fun x : S63 => (x.f0, x.f1))
theorem k63_open {w : World} {x : S63} {cs : List Value} (h : k63.K w x cs) : ∃ A11 c11 A12 c12, cs = [.int .u64 x.f0.f0, .int .u16 x.f0.f1, .int .i64 x.f1.f0, .int .u32 x.f1.f1, .int .u8 x.f1.f2, .bool x.f1.f3, .int .u64 x.f1.f4, .string x.f1.f5, .string x.f1.f6, .int .u64 x.f1.f7.f0, .int .u16 x.f1.f7.f1, .slice A11 x.f1.f8.length c11, .slice A12 x.f1.f9.length c12] ∧ x.f1.f8.length ≤ c11 ∧ k25.C w A11 x.f1.f8.length x.f1.f8 ∧ x.f1.f9.length ≤ c12 ∧ k48.C w A12 x.f1.f9.length x.f1.f9 := by
  obtain ⟨_, _, rfl, s0, s2⟩ := h
  obtain rfl := k25_open s0
  obtain ⟨A11, c11, A12, c12, rfl, l11, g11, l12, g12⟩ := k37_open s2
  exact ⟨A11, c11, A12, c12, rfl, l11, g11, l12, g12⟩
theorem k63_openM {w : World} {base : Nat} {ok : Nat → Prop} {x : S63} {cs : List Value} (h : k63.M w base ok x cs) : ∃ v11 v12, cs = [.int .u64 x.f0.f0, .int .u16 x.f0.f1, .int .i64 x.f1.f0, .int .u32 x.f1.f1, .int .u8 x.f1.f2, .bool x.f1.f3, .int .u64 x.f1.f4, .string x.f1.f5, .string x.f1.f6, .int .u64 x.f1.f7.f0, .int .u16 x.f1.f7.f1, v11, v12] ∧ k25.R 25 w base ok v11 x.f1.f8 ∧ k48.R 48 w base ok v12 x.f1.f9 := by
  obtain ⟨_, _, rfl, s0, s2⟩ := h
  obtain rfl := k25_openM s0
  obtain ⟨v11, v12, rfl, g11, g12⟩ := k37_openM s2
  exact ⟨v11, v12, rfl, g11, g12⟩
theorem k63_mk (w : World) (x : S63) {A11 : Option Addr} {c11 : Nat} (l11 : x.f1.f8.length ≤ c11) (g11 : k25.C w A11 x.f1.f8.length x.f1.f8) {A12 : Option Addr} {c12 : Nat} (l12 : x.f1.f9.length ≤ c12) (g12 : k48.C w A12 x.f1.f9.length x.f1.f9) : k63.K w x [.int .u64 x.f0.f0, .int .u16 x.f0.f1, .int .i64 x.f1.f0, .int .u32 x.f1.f1, .int .u8 x.f1.f2, .bool x.f1.f3, .int .u64 x.f1.f4, .string x.f1.f5, .string x.f1.f6, .int .u64 x.f1.f7.f0, .int .u16 x.f1.f7.f1, .slice A11 x.f1.f8.length c11, .slice A12 x.f1.f9.length c12] := ⟨[.int .u64 x.f0.f0, .int .u16 x.f0.f1], [.int .i64 x.f1.f0, .int .u32 x.f1.f1, .int .u8 x.f1.f2, .bool x.f1.f3, .int .u64 x.f1.f4, .string x.f1.f5, .string x.f1.f6, .int .u64 x.f1.f7.f0, .int .u16 x.f1.f7.f1, .slice A11 x.f1.f8.length c11, .slice A12 x.f1.f9.length c12], rfl, (k25_mk w x.f0 ), (k37_mk w x.f1 l11 g11 l12 g12)⟩
theorem k63_mkM (w : World) (base : Nat) (ok : Nat → Prop) (x : S63) {v11 : Value} (g11 : k25.R 25 w base ok v11 x.f1.f8) {v12 : Value} (g12 : k48.R 48 w base ok v12 x.f1.f9) : k63.M w base ok x [.int .u64 x.f0.f0, .int .u16 x.f0.f1, .int .i64 x.f1.f0, .int .u32 x.f1.f1, .int .u8 x.f1.f2, .bool x.f1.f3, .int .u64 x.f1.f4, .string x.f1.f5, .string x.f1.f6, .int .u64 x.f1.f7.f0, .int .u16 x.f1.f7.f1, v11, v12] := ⟨[.int .u64 x.f0.f0, .int .u16 x.f0.f1], [.int .i64 x.f1.f0, .int .u32 x.f1.f1, .int .u8 x.f1.f2, .bool x.f1.f3, .int .u64 x.f1.f4, .string x.f1.f5, .string x.f1.f6, .int .u64 x.f1.f7.f0, .int .u16 x.f1.f7.f1, v11, v12], rfl, (k25_mkM w base ok x.f0 ), (k37_mkM w base ok x.f1 g11 g12)⟩
theorem k63_openF {W : World} {ok : Nat → Prop} {x : S63} {cs : List Value} (h : Kd.FK k63 W ok x cs) : ∃ A11 c11 A12 c12, cs = [.int .u64 x.f0.f0, .int .u16 x.f0.f1, .int .i64 x.f1.f0, .int .u32 x.f1.f1, .int .u8 x.f1.f2, .bool x.f1.f3, .int .u64 x.f1.f4, .string x.f1.f5, .string x.f1.f6, .int .u64 x.f1.f7.f0, .int .u16 x.f1.f7.f1, .slice A11 x.f1.f8.length c11, .slice A12 x.f1.f9.length c12] ∧ x.f1.f8.length ≤ c11 ∧ Kd.F k25 W ok A11 x.f1.f8.length x.f1.f8 ∧ x.f1.f9.length ≤ c12 ∧ Kd.F k48 W ok A12 x.f1.f9.length x.f1.f9 := by
  obtain ⟨A11, c11, A12, c12, rfl, l11, _, l12, _⟩ := k63_open (Kd.FK_now h)
  exact ⟨A11, c11, A12, c12, rfl, l11, (fun W' hW => by obtain ⟨A11_, c11_, A12_, c12_, he, l11_, g11_, l12_, g12_⟩ := k63_open (h W' hW); injection (Option.some.inj (show some (Value.slice A11 x.f1.f8.length c11) = some (Value.slice A11_ x.f1.f8.length c11_) from congrArg (fun l => l[11]?) he)) with ha_ _ _; rw [ha_]; exact g11_), l12, (fun W' hW => by obtain ⟨A11_, c11_, A12_, c12_, he, l11_, g11_, l12_, g12_⟩ := k63_open (h W' hW); injection (Option.some.inj (show some (Value.slice A12 x.f1.f9.length c12) = some (Value.slice A12_ x.f1.f9.length c12_) from congrArg (fun l => l[12]?) he)) with ha_ _ _; rw [ha_]; exact g12_)⟩
theorem k63_mkF (W : World) (ok : Nat → Prop) (x : S63) {A11 : Option Addr} {c11 : Nat} (l11 : x.f1.f8.length ≤ c11) (g11 : Kd.F k25 W ok A11 x.f1.f8.length x.f1.f8) {A12 : Option Addr} {c12 : Nat} (l12 : x.f1.f9.length ≤ c12) (g12 : Kd.F k48 W ok A12 x.f1.f9.length x.f1.f9) : Kd.FK k63 W ok x [.int .u64 x.f0.f0, .int .u16 x.f0.f1, .int .i64 x.f1.f0, .int .u32 x.f1.f1, .int .u8 x.f1.f2, .bool x.f1.f3, .int .u64 x.f1.f4, .string x.f1.f5, .string x.f1.f6, .int .u64 x.f1.f7.f0, .int .u16 x.f1.f7.f1, .slice A11 x.f1.f8.length c11, .slice A12 x.f1.f9.length c12] := fun W2 hW => k63_mk W2 x l11 (g11 W2 hW) l12 (g12 W2 hW)
def rd_T63 (xs : List S63) (i : Int) : S63 := xs.getD i.toNat z63
theorem at_T63 {w : World} {A : Option Addr} {n : Nat} {xs : List S63} (h : Kd.C k63 w A n xs) (i : Int) (h0 : 0 ≤ i) (h1 : i < n) : ∃ ad A11 c11 A12 c12, A = some ad ∧ w.cell? (ad.add (i.toNat * 13)) = some (.int .u64 (rd_T63 xs i).f0.f0) ∧ w.cell? ⟨(ad.add (i.toNat * 13)).block, (ad.add (i.toNat * 13)).off + 1, none⟩ = some (.int .u16 (rd_T63 xs i).f0.f1) ∧ w.cell? ⟨(ad.add (i.toNat * 13)).block, (ad.add (i.toNat * 13)).off + 2, none⟩ = some (.int .i64 (rd_T63 xs i).f1.f0) ∧ w.cell? ⟨(ad.add (i.toNat * 13)).block, (ad.add (i.toNat * 13)).off + 3, none⟩ = some (.int .u32 (rd_T63 xs i).f1.f1) ∧ w.cell? ⟨(ad.add (i.toNat * 13)).block, (ad.add (i.toNat * 13)).off + 4, none⟩ = some (.int .u8 (rd_T63 xs i).f1.f2) ∧ w.cell? ⟨(ad.add (i.toNat * 13)).block, (ad.add (i.toNat * 13)).off + 5, none⟩ = some (.bool (rd_T63 xs i).f1.f3) ∧ w.cell? ⟨(ad.add (i.toNat * 13)).block, (ad.add (i.toNat * 13)).off + 6, none⟩ = some (.int .u64 (rd_T63 xs i).f1.f4) ∧ w.cell? ⟨(ad.add (i.toNat * 13)).block, (ad.add (i.toNat * 13)).off + 7, none⟩ = some (.string (rd_T63 xs i).f1.f5) ∧ w.cell? ⟨(ad.add (i.toNat * 13)).block, (ad.add (i.toNat * 13)).off + 8, none⟩ = some (.string (rd_T63 xs i).f1.f6) ∧ w.cell? ⟨(ad.add (i.toNat * 13)).block, (ad.add (i.toNat * 13)).off + 9, none⟩ = some (.int .u64 (rd_T63 xs i).f1.f7.f0) ∧ w.cell? ⟨(ad.add (i.toNat * 13)).block, (ad.add (i.toNat * 13)).off + 10, none⟩ = some (.int .u16 (rd_T63 xs i).f1.f7.f1) ∧ w.cell? ⟨(ad.add (i.toNat * 13)).block, (ad.add (i.toNat * 13)).off + 11, none⟩ = some (.slice A11 (rd_T63 xs i).f1.f8.length c11) ∧ w.cell? ⟨(ad.add (i.toNat * 13)).block, (ad.add (i.toNat * 13)).off + 12, none⟩ = some (.slice A12 (rd_T63 xs i).f1.f9.length c12) ∧ (rd_T63 xs i).f1.f8.length ≤ c11 ∧ k25.C w A11 (rd_T63 xs i).f1.f8.length (rd_T63 xs i).f1.f8 ∧ (rd_T63 xs i).f1.f9.length ≤ c12 ∧ k48.C w A12 (rd_T63 xs i).f1.f9.length (rd_T63 xs i).f1.f9 := by
  obtain ⟨ad, c, e, _, hK, hc0⟩ := Kd.C_get h z63 i h0 h1
  have hc : ∀ j u, c[j]? = some u → w.cell? (ad.add (i.toNat * 13 + j)) = some u := hc0
  obtain ⟨A11, c11, A12, c12, rfl, l11, g11, l12, g12⟩ := k63_open hK
  exact ⟨ad, A11, c11, A12, c12, e, hc 0 _ rfl, by rw [← add_field _ _ 1 (by omega)]; exact hc 1 _ rfl, by rw [← add_field _ _ 2 (by omega)]; exact hc 2 _ rfl, by rw [← add_field _ _ 3 (by omega)]; exact hc 3 _ rfl, by rw [← add_field _ _ 4 (by omega)]; exact hc 4 _ rfl, by rw [← add_field _ _ 5 (by omega)]; exact hc 5 _ rfl, by rw [← add_field _ _ 6 (by omega)]; exact hc 6 _ rfl, by rw [← add_field _ _ 7 (by omega)]; exact hc 7 _ rfl, by rw [← add_field _ _ 8 (by omega)]; exact hc 8 _ rfl, by rw [← add_field _ _ 9 (by omega)]; exact hc 9 _ rfl, by rw [← add_field _ _ 10 (by omega)]; exact hc 10 _ rfl, by rw [← add_field _ _ 11 (by omega)]; exact hc 11 _ rfl, by rw [← add_field _ _ 12 (by omega)]; exact hc 12 _ rfl, l11, g11, l12, g12⟩

/-! #### struct type 34 -/
structure S34 where
  f0 : S25
  f1 : Int
  f2 : Bool
  f3 : (List S73)
  f4 : (List S73)
  f5 : (List S76)
  f6 : (List S48)
  f7 : (List S51)
  f8 : (List S67)
  f9 : (List S70)
  f10 : Int
  f11 : Int
  f12 : Int
def z34 : S34 := ⟨z25, (0 : Int), false, ([] : List S73), ([] : List S73), ([] : List S76), ([] : List S48), ([] : List S51), ([] : List S67), ([] : List S70), (0 : Int), (0 : Int), (0 : Int)⟩
def k34 : Kd S34 := Kd.iso (Kd.pair k25 (Kd.pair (Kd.int .i64) (Kd.pair Kd.bool (Kd.pair (Kd.slice 73 k73) (Kd.pair (Kd.slice 73 k73) (Kd.pair (Kd.slice 76 k76) (Kd.pair (Kd.slice 48 k48) (Kd.pair (Kd.slice 51 k51) (Kd.pair (Kd.slice 67 k67) (Kd.pair (Kd.slice 70 k70) (Kd.pair (Kd.int .u32) (Kd.pair (Kd.int .i64) (Kd.int .i64))))))))))))) (fun x : S34 => (x.f0, x.f1, x.f2, x.f3, x.f4, x.f5, x.f6, x.f7, x.f8, x.f9, x.f10, x.f11, x.f12))
theorem k34_open {w : World} {x : S34} {cs : List Value} (h : k34.K w x cs) : ∃ A4 c4 A5 c5 A6 c6 A7 c7 A8 c8 A9 c9 A10 c10, cs = [.int .u64 x.f0.f0, .int .u16 x.f0.f1, .int .i64 x.f1, .bool x.f2, .slice A4 x.f3.length c4, .slice A5 x.f4.length c5, .slice A6 x.f5.length c6, .slice A7 x.f6.length c7, .slice A8 x.f7.length c8, .slice A9 x.f8.length c9, .slice A10 x.f9.length c10, .int .u32 x.f10, .int .i64 x.f11, .int .i64 x.f12] ∧ x.f3.length ≤ c4 ∧ k73.C w A4 x.f3.length x.f3 ∧ x.f4.length ≤ c5 ∧ k73.C w A5 x.f4.length x.f4 ∧ x.f5.length ≤ c6 ∧ k76.C w A6 x.f5.length x.f5 ∧ x.f6.length ≤ c7 ∧ k48.C w A7 x.f6.length x.f6 ∧ x.f7.length ≤ c8 ∧ k51.C w A8 x.f7.length x.f7 ∧ x.f8.length ≤ c9 ∧ k67.C w A9 x.f8.length x.f8 ∧ x.f9.length ≤ c10 ∧ k70.C w A10 x.f9.length x.f9 := by
  obtain ⟨_, _, rfl, s0, ⟨_, _, rfl, rfl, ⟨_, _, rfl, rfl, ⟨_, _, rfl, ⟨A4, c4, rfl, l4, g4⟩, ⟨_, _, rfl, ⟨A5, c5, rfl, l5, g5⟩, ⟨_, _, rfl, ⟨A6, c6, rfl, l6, g6⟩, ⟨_, _, rfl, ⟨A7, c7, rfl, l7, g7⟩, ⟨_, _, rfl, ⟨A8, c8, rfl, l8, g8⟩, ⟨_, _, rfl, ⟨A9, c9, rfl, l9, g9⟩, ⟨_, _, rfl, ⟨A10, c10, rfl, l10, g10⟩, ⟨_, _, rfl, rfl, ⟨_, _, rfl, rfl, rfl⟩⟩⟩⟩⟩⟩⟩⟩⟩⟩⟩⟩ := h
  obtain rfl := k25_open s0
  exact ⟨A4, c4, A5, c5, A6, c6, A7, c7, A8, c8, A9, c9, A10, c10, rfl, l4, g4, l5, g5, l6, g6, l7, g7, l8, g8, l9, g9, l10, g10⟩
theorem k34_openM {w : World} {base : Nat} {ok : Nat → Prop} {x : S34} {cs : List Value} (h : k34.M w base ok x cs) : ∃ v4 v5 v6 v7 v8 v9 v10, cs = [.int .u64 x.f0.f0, .int .u16 x.f0.f1, .int .i64 x.f1, .bool x.f2, v4, v5, v6, v7, v8, v9, v10, .int .u32 x.f10, .int .i64 x.f11, .int .i64 x.f12] ∧ k73.R 73 w base ok v4 x.f3 ∧ k73.R 73 w base ok v5 x.f4 ∧ k76.R 76 w base ok v6 x.f5 ∧ k48.R 48 w base ok v7 x.f6 ∧ k51.R 51 w base ok v8 x.f7 ∧ k67.R 67 w base ok v9 x.f8 ∧ k70.R 70 w base ok v10 x.f9 := by
  obtain ⟨_, _, rfl, s0, ⟨_, _, rfl, rfl, ⟨_, _, rfl, rfl, ⟨_, _, rfl, ⟨v4, rfl, g4⟩, ⟨_, _, rfl, ⟨v5, rfl, g5⟩, ⟨_, _, rfl, ⟨v6, rfl, g6⟩, ⟨_, _, rfl, ⟨v7, rfl, g7⟩, ⟨_, _, rfl, ⟨v8, rfl, g8⟩, ⟨_, _, rfl, ⟨v9, rfl, g9⟩, ⟨_, _, rfl, ⟨v10, rfl, g10⟩, ⟨_, _, rfl, rfl, ⟨_, _, rfl, rfl, rfl⟩⟩⟩⟩⟩⟩⟩⟩⟩⟩⟩⟩ := h
  obtain rfl := k25_openM s0
  exact ⟨v4, v5, v6, v7, v8, v9, v10, rfl, g4, g5, g6, g7, g8, g9, g10⟩
theorem k34_mk (w : World) (x : S34) {A4 : Option Addr} {c4 : Nat} (l4 : x.f3.length ≤ c4) (g4 : k73.C w A4 x.f3.length x.f3) {A5 : Option Addr} {c5 : Nat} (l5 : x.f4.length ≤ c5) (g5 : k73.C w A5 x.f4.length x.f4) {A6 : Option Addr} {c6 : Nat} (l6 : x.f5.length ≤ c6) (g6 : k76.C w A6 x.f5.length x.f5) {A7 : Option Addr} {c7 : Nat} (l7 : x.f6.length ≤ c7) (g7 : k48.C w A7 x.f6.length x.f6) {A8 : Option Addr} {c8 : Nat} (l8 : x.f7.length ≤ c8) (g8 : k51.C w A8 x.f7.length x.f7) {A9 : Option Addr} {c9 : Nat} (l9 : x.f8.length ≤ c9) (g9 : k67.C w A9 x.f8.length x.f8) {A10 : Option Addr} {c10 : Nat} (l10 : x.f9.length ≤ c10) (g10 : k70.C w A10 x.f9.length x.f9) : k34.K w x [.int .u64 x.f0.f0, .int .u16 x.f0.f1, .int .i64 x.f1, .bool x.f2, .slice A4 x.f3.length c4, .slice A5 x.f4.length c5, .slice A6 x.f5.length c6, .slice A7 x.f6.length c7, .slice A8 x.f7.length c8, .slice A9 x.f8.length c9, .slice A10 x.f9.length c10, .int .u32 x.f10, .int .i64 x.f11, .int .i64 x.f12] := ⟨[.int .u64 x.f0.f0, .int .u16 x.f0.f1], [.int .i64 x.f1, .bool x.f2, .slice A4 x.f3.length c4, .slice A5 x.f4.length c5, .slice A6 x.f5.length c6, .slice A7 x.f6.length c7, .slice A8 x.f7.length c8, .slice A9 x.f8.length c9, .slice A10 x.f9.length c10, .int .u32 x.f10, .int .i64 x.f11, .int .i64 x.f12], rfl, (k25_mk w x.f0 ), ⟨[.int .i64 x.f1], [.bool x.f2, .slice A4 x.f3.length c4, .slice A5 x.f4.length c5, .slice A6 x.f5.length c6, .slice A7 x.f6.length c7, .slice A8 x.f7.length c8, .slice A9 x.f8.length c9, .slice A10 x.f9.length c10, .int .u32 x.f10, .int .i64 x.f11, .int .i64 x.f12], rfl, rfl, ⟨[.bool x.f2], [.slice A4 x.f3.length c4, .slice A5 x.f4.length c5, .slice A6 x.f5.length c6, .slice A7 x.f6.length c7, .slice A8 x.f7.length c8, .slice A9 x.f8.length c9, .slice A10 x.f9.length c10, .int .u32 x.f10, .int .i64 x.f11, .int .i64 x.f12], rfl, rfl, ⟨[.slice A4 x.f3.length c4], [.slice A5 x.f4.length c5, .slice A6 x.f5.length c6, .slice A7 x.f6.length c7, .slice A8 x.f7.length c8, .slice A9 x.f8.length c9, .slice A10 x.f9.length c10, .int .u32 x.f10, .int .i64 x.f11, .int .i64 x.f12], rfl, ⟨A4, c4, rfl, l4, g4⟩, ⟨[.slice A5 x.f4.length c5], [.slice A6 x.f5.length c6, .slice A7 x.f6.length c7, .slice A8 x.f7.length c8, .slice A9 x.f8.length c9, .slice A10 x.f9.length c10, .int .u32 x.f10, .int .i64 x.f11, .int .i64 x.f12], rfl, ⟨A5, c5, rfl, l5, g5⟩, ⟨[.slice A6 x.f5.length c6], [.slice A7 x.f6.length c7, .slice A8 x.f7.length c8, .slice A9 x.f8.length c9, .slice A10 x.f9.length c10, .int .u32 x.f10, .int .i64 x.f11, .int .i64 x.f12], rfl, ⟨A6, c6, rfl, l6, g6⟩, ⟨[.slice A7 x.f6.length c7], [.slice A8 x.f7.length c8, .slice A9 x.f8.length c9, .slice A10 x.f9.length c10, .int .u32 x.f10, .int .i64 x.f11, .int .i64 x.f12], rfl, ⟨A7, c7, rfl, l7, g7⟩, ⟨[.slice A8 x.f7.length c8], [.slice A9 x.f8.length c9, .slice A10 x.f9.length c10, .int .u32 x.f10, .int .i64 x.f11, .int .i64 x.f12], rfl, ⟨A8, c8, rfl, l8, g8⟩, ⟨[.slice A9 x.f8.length c9], [.slice A10 x.f9.length c10, .int .u32 x.f10, .int .i64 x.f11, .int .i64 x.f12], rfl, ⟨A9, c9, rfl, l9, g9⟩, ⟨[.slice A10 x.f9.length c10], [.int .u32 x.f10, .int .i64 x.f11, .int .i64 x.f12], rfl, ⟨A10, c10, rfl, l10, g10⟩, ⟨[.int .u32 x.f10], [.int .i64 x.f11, .int .i64 x.f12], rfl, rfl, ⟨[.int .i64 x.f11], [.int .i64 x.f12], rfl, rfl, rfl⟩⟩⟩⟩⟩⟩⟩⟩⟩⟩⟩⟩
theorem k34_mkM (w : World) (base : Nat) (ok : Nat → Prop) (x : S34) {v4 : Value} (g4 : k73.R 73 w base ok v4 x.f3) {v5 : Value} (g5 : k73.R 73 w base ok v5 x.f4) {v6 : Value} (g6 : k76.R 76 w base ok v6 x.f5) {v7 : Value} (g7 : k48.R 48 w base ok v7 x.f6) {v8 : Value} (g8 : k51.R 51 w base ok v8 x.f7) {v9 : Value} (g9 : k67.R 67 w base ok v9 x.f8) {v10 : Value} (g10 : k70.R 70 w base ok v10 x.f9) : k34.M w base ok x [.int .u64 x.f0.f0, .int .u16 x.f0.f1, .int .i64 x.f1, .bool x.f2, v4, v5, v6, v7, v8, v9, v10, .int .u32 x.f10, .int .i64 x.f11, .int .i64 x.f12] := ⟨[.int .u64 x.f0.f0, .int .u16 x.f0.f1], [.int .i64 x.f1, .bool x.f2, v4, v5, v6, v7, v8, v9, v10, .int .u32 x.f10, .int .i64 x.f11, .int .i64 x.f12], rfl, (k25_mkM w base ok x.f0 ), ⟨[.int .i64 x.f1], [.bool x.f2, v4, v5, v6, v7, v8, v9, v10, .int .u32 x.f10, .int .i64 x.f11, .int .i64 x.f12], rfl, rfl, ⟨[.bool x.f2], [v4, v5, v6, v7, v8, v9, v10, .int .u32 x.f10, .int .i64 x.f11, .int .i64 x.f12], rfl, rfl, ⟨[v4], [v5, v6, v7, v8, v9, v10, .int .u32 x.f10, .int .i64 x.f11, .int .i64 x.f12], rfl, ⟨v4, rfl, g4⟩, ⟨[v5], [v6, v7, v8, v9, v10, .int .u32 x.f10, .int .i64 x.f11, .int .i64 x.f12], rfl, ⟨v5, rfl, g5⟩, ⟨[v6], [v7, v8, v9, v10, .int .u32 x.f10, .int .i64 x.f11, .int .i64 x.f12], rfl, ⟨v6, rfl, g6⟩, ⟨[v7], [v8, v9, v10, .int .u32 x.f10, .int .i64 x.f11, .int .i64 x.f12], rfl, ⟨v7, rfl, g7⟩, ⟨[v8], [v9, v10, .int .u32 x.f10, .int .i64 x.f11, .int .i64 x.f12], rfl, ⟨v8, rfl, g8⟩, ⟨[v9], [v10, .int .u32 x.f10, .int .i64 x.f11, .int .i64 x.f12], rfl, ⟨v9, rfl, g9⟩, ⟨[v10], [.int .u32 x.f10, .int .i64 x.f11, .int .i64 x.f12], rfl, ⟨v10, rfl, g10⟩, ⟨[.int .u32 x.f10], [.int .i64 x.f11, .int .i64 x.f12], rfl, rfl, ⟨[.int .i64 x.f11], [.int .i64 x.f12], rfl, rfl, rfl⟩⟩⟩⟩⟩⟩⟩⟩⟩⟩⟩⟩
theorem k34_openF {W : World} {ok : Nat → Prop} {x : S34} {cs : List Value} (h : Kd.FK k34 W ok x cs) : ∃ A4 c4 A5 c5 A6 c6 A7 c7 A8 c8 A9 c9 A10 c10, cs = [.int .u64 x.f0.f0, .int .u16 x.f0.f1, .int .i64 x.f1, .bool x.f2, .slice A4 x.f3.length c4, .slice A5 x.f4.length c5, .slice A6 x.f5.length c6, .slice A7 x.f6.length c7, .slice A8 x.f7.length c8, .slice A9 x.f8.length c9, .slice A10 x.f9.length c10, .int .u32 x.f10, .int .i64 x.f11, .int .i64 x.f12] ∧ x.f3.length ≤ c4 ∧ Kd.F k73 W ok A4 x.f3.length x.f3 ∧ x.f4.length ≤ c5 ∧ Kd.F k73 W ok A5 x.f4.length x.f4 ∧ x.f5.length ≤ c6 ∧ Kd.F k76 W ok A6 x.f5.length x.f5 ∧ x.f6.length ≤ c7 ∧ Kd.F k48 W ok A7 x.f6.length x.f6 ∧ x.f7.length ≤ c8 ∧ Kd.F k51 W ok A8 x.f7.length x.f7 ∧ x.f8.length ≤ c9 ∧ Kd.F k67 W ok A9 x.f8.length x.f8 ∧ x.f9.length ≤ c10 ∧ Kd.F k70 W ok A10 x.f9.length x.f9 := by
  obtain ⟨A4, c4, A5, c5, A6, c6, A7, c7, A8, c8, A9, c9, A10, c10, rfl, l4, _, l5, _, l6, _, l7, _, l8, _, l9, _, l10, _⟩ := k34_open (Kd.FK_now h)
  exact ⟨A4, c4, A5, c5, A6, c6, A7, c7, A8, c8, A9, c9, A10, c10, rfl, l4, (fun W' hW => by obtain ⟨A4_, c4_, A5_, c5_, A6_, c6_, A7_, c7_, A8_, c8_, A9_, c9_, A10_, c10_, he, l4_, g4_, l5_, g5_, l6_, g6_, l7_, g7_, l8_, g8_, l9_, g9_, l10_, g10_⟩ := k34_open (h W' hW); injection (Option.some.inj (show some (Value.slice A4 x.f3.length c4) = some (Value.slice A4_ x.f3.length c4_) from congrArg (fun l => l[4]?) he)) with ha_ _ _; rw [ha_]; exact g4_), l5, (fun W' hW => by obtain ⟨A4_, c4_, A5_, c5_, A6_, c6_, A7_, c7_, A8_, c8_, A9_, c9_, A10_, c10_, he, l4_, g4_, l5_, g5_, l6_, g6_, l7_, g7_, l8_, g8_, l9_, g9_, l10_, g10_⟩ := k34_open (h W' hW); injection (Option.some.inj (show some (Value.slice A5 x.f4.length c5) = some (Value.slice A5_ x.f4.length c5_) from congrArg (fun l => l[5]?) he)) with ha_ _ _; rw [ha_]; exact g5_), l6, (fun W' hW => by obtain ⟨A4_, c4_, A5_, c5_, A6_, c6_, A7_, c7_, A8_, c8_, A9_, c9_, A10_, c10_, he, l4_, g4_, l5_, g5_, l6_, g6_, l7_, g7_, l8_, g8_, l9_, g9_, l10_, g10_⟩ := k34_open (h W' hW); injection (Option.some.inj (show some (Value.slice A6 x.f5.length c6) = some (Value.slice A6_ x.f5.length c6_) from congrArg (fun l => l[6]?) he)) with ha_ _ _; rw [ha_]; exact g6_), l7, (fun W' hW => by obtain ⟨A4_, c4_, A5_, c5_, A6_, c6_, A7_, c7_, A8_, c8_, A9_, c9_, A10_, c10_, he, l4_, g4_, l5_, g5_, l6_, g6_, l7_, g7_, l8_, g8_, l9_, g9_, l10_, g10_⟩ := k34_open (h W' hW); injection (Option.some.inj (show some (Value.slice A7 x.f6.length c7) = some (Value.slice A7_ x.f6.length c7_) from congrArg (fun l => l[7]?) he)) with ha_ _ _; rw [ha_]; exact g7_), l8, (fun W' hW => by obtain ⟨A4_, c4_, A5_, c5_, A6_, c6_, A7_, c7_, A8_, c8_, A9_, c9_, A10_, c10_, he, l4_, g4_, l5_, g5_, l6_, g6_, l7_, g7_, l8_, g8_, l9_, g9_, l10_, g10_⟩ := k34_open (h W' hW); injection (Option.some.inj (show some (Value.slice A8 x.f7.length c8) = some (Value.slice A8_ x.f7.length c8_) from congrArg (fun l => l[8]?) he)) with ha_ _ _; rw [ha_]; exact g8_), l9, (fun W' hW => by obtain ⟨A4_, c4_, A5_, c5_, A6_, c6_, A7_, c7_, A8_, c8_, A9_, c9_, A10_, c10_, he, l4_, g4_, l5_, g5_, l6_, g6_, l7_, g7_, l8_, g8_, l9_, g9_, l10_, g10_⟩ := k34_open (h W' hW); injection (Option.some.inj (show some (Value.slice A9 x.f8.length c9) = some (Value.slice A9_ x.f8.length c9_) from congrArg (fun l => l[9]?) he)) with ha_ _ _; rw [ha_]; exact g9_), l10, (fun W' hW => by obtain ⟨A4_, c4_, A5_, c5_, A6_, c6_, A7_, c7_, A8_, c8_, A9_, c9_, A10_, c10_, he, l4_, g4_, l5_, g5_, l6_, g6_, l7_, g7_, l8_, g8_, l9_, g9_, l10_, g10_⟩ := k34_open (h W' hW); injection (Option.some.inj (show some (Value.slice A10 x.f9.length c10) = some (Value.slice A10_ x.f9.length c10_) from congrArg (fun l => l[10]?) he)) with ha_ _ _; rw [ha_]; exact g10_)⟩
theorem k34_mkF (W : World) (ok : Nat → Prop) (x : S34) {A4 : Option Addr} {c4 : Nat} (l4 : x.f3.length ≤ c4) (g4 : Kd.F k73 W ok A4 x.f3.length x.f3) {A5 : Option Addr} {c5 : Nat} (l5 : x.f4.length ≤ c5) (g5 : Kd.F k73 W ok A5 x.f4.length x.f4) {A6 : Option Addr} {c6 : Nat} (l6 : x.f5.length ≤ c6) (g6 : Kd.F k76 W ok A6 x.f5.length x.f5) {A7 : Option Addr} {c7 : Nat} (l7 : x.f6.length ≤ c7) (g7 : Kd.F k48 W ok A7 x.f6.length x.f6) {A8 : Option Addr} {c8 : Nat} (l8 : x.f7.length ≤ c8) (g8 : Kd.F k51 W ok A8 x.f7.length x.f7) {A9 : Option Addr} {c9 : Nat} (l9 : x.f8.length ≤ c9) (g9 : Kd.F k67 W ok A9 x.f8.length x.f8) {A10 : Option Addr} {c10 : Nat} (l10 : x.f9.length ≤ c10) (g10 : Kd.F k70 W ok A10 x.f9.length x.f9) : Kd.FK k34 W ok x [.int .u64 x.f0.f0, .int .u16 x.f0.f1, .int .i64 x.f1, .bool x.f2, .slice A4 x.f3.length c4, .slice A5 x.f4.length c5, .slice A6 x.f5.length c6, .slice A7 x.f6.length c7, .slice A8 x.f7.length c8, .slice A9 x.f8.length c9, .slice A10 x.f9.length c10, .int .u32 x.f10, .int .i64 x.f11, .int .i64 x.f12] := fun W2 hW => k34_mk W2 x l4 (g4 W2 hW) l5 (g5 W2 hW) l6 (g6 W2 hW) l7 (g7 W2 hW) l8 (g8 W2 hW) l9 (g9 W2 hW) l10 (g10 W2 hW)
def rd_T34 (xs : List S34) (i : Int) : S34 := xs.getD i.toNat z34
theorem at_T34 {w : World} {A : Option Addr} {n : Nat} {xs : List S34} (h : Kd.C k34 w A n xs) (i : Int) (h0 : 0 ≤ i) (h1 : i < n) : ∃ ad A4 c4 A5 c5 A6 c6 A7 c7 A8 c8 A9 c9 A10 c10, A = some ad ∧ w.cell? (ad.add (i.toNat * 14)) = some (.int .u64 (rd_T34 xs i).f0.f0) ∧ w.cell? ⟨(ad.add (i.toNat * 14)).block, (ad.add (i.toNat * 14)).off + 1, none⟩ = some (.int .u16 (rd_T34 xs i).f0.f1) ∧ w.cell? ⟨(ad.add (i.toNat * 14)).block, (ad.add (i.toNat * 14)).off + 2, none⟩ = some (.int .i64 (rd_T34 xs i).f1) ∧ w.cell? ⟨(ad.add (i.toNat * 14)).block, (ad.add (i.toNat * 14)).off + 3, none⟩ = some (.bool (rd_T34 xs i).f2) ∧ w.cell? ⟨(ad.add (i.toNat * 14)).block, (ad.add (i.toNat * 14)).off + 4, none⟩ = some (.slice A4 (rd_T34 xs i).f3.length c4) ∧ w.cell? ⟨(ad.add (i.toNat * 14)).block, (ad.add (i.toNat * 14)).off + 5, none⟩ = some (.slice A5 (rd_T34 xs i).f4.length c5) ∧ w.cell? ⟨(ad.add (i.toNat * 14)).block, (ad.add (i.toNat * 14)).off + 6, none⟩ = some (.slice A6 (rd_T34 xs i).f5.length c6) ∧ w.cell? ⟨(ad.add (i.toNat * 14)).block, (ad.add (i.toNat * 14)).off + 7, none⟩ = some (.slice A7 (rd_T34 xs i).f6.length c7) ∧ w.cell? ⟨(ad.add (i.toNat * 14)).block, (ad.add (i.toNat * 14)).off + 8, none⟩ = some (.slice A8 (rd_T34 xs i).f7.length c8) ∧ w.cell? ⟨(ad.add (i.toNat * 14)).block, (ad.add (i.toNat * 14)).off + 9, none⟩ = some (.slice A9 (rd_T34 xs i).f8.length c9) ∧ w.cell? ⟨(ad.add (i.toNat * 14)).block, (ad.add (i.toNat * 14)).off + 10, none⟩ = some (.slice A10 (rd_T34 xs i).f9.length c10) ∧ w.cell? ⟨(ad.add (i.toNat * 14)).block, (ad.add (i.toNat * 14)).off + 11, none⟩ = some (.int .u32 (rd_T34 xs i).f10) ∧ w.cell? ⟨(ad.add (i.toNat * 14)).block, (ad.add (i.toNat * 14)).off + 12, none⟩ = some (.int .i64 (rd_T34 xs i).f11) ∧ w.cell? ⟨(ad.add (i.toNat * 14)).block, (ad.add (i.toNat * 14)).off + 13, none⟩ = some (.int .i64 (rd_T34 xs i).f12) ∧ (rd_T34 xs i).f3.length ≤ c4 ∧ k73.C w A4 (rd_T34 xs i).f3.length (rd_T34 xs i).f3 ∧ (rd_T34 xs i).f4.length ≤ c5 ∧ k73.C w A5 (rd_T34 xs i).f4.length (rd_T34 xs i).f4 ∧ (rd_T34 xs i).f5.length ≤ c6 ∧ k76.C w A6 (rd_T34 xs i).f5.length (rd_T34 xs i).f5 ∧ (rd_T34 xs i).f6.length ≤ c7 ∧ k48.C w A7 (rd_T34 xs i).f6.length (rd_T34 xs i).f6 ∧ (rd_T34 xs i).f7.length ≤ c8 ∧ k51.C w A8 (rd_T34 xs i).f7.length (rd_T34 xs i).f7 ∧ (rd_T34 xs i).f8.length ≤ c9 ∧ k67.C w A9 (rd_T34 xs i).f8.length (rd_T34 xs i).f8 ∧ (rd_T34 xs i).f9.length ≤ c10 ∧ k70.C w A10 (rd_T34 xs i).f9.length (rd_T34 xs i).f9 := by
  obtain ⟨ad, c, e, _, hK, hc0⟩ := Kd.C_get h z34 i h0 h1
  have hc : ∀ j u, c[j]? = some u → w.cell? (ad.add (i.toNat * 14 + j)) = some u := hc0
  obtain ⟨A4, c4, A5, c5, A6, c6, A7, c7, A8, c8, A9, c9, A10, c10, rfl, l4, g4, l5, g5, l6, g6, l7, g7, l8, g8, l9, g9, l10, g10⟩ := k34_open hK
  exact ⟨ad, A4, c4, A5, c5, A6, c6, A7, c7, A8, c8, A9, c9, A10, c10, e, hc 0 _ rfl, by rw [← add_field _ _ 1 (by omega)]; exact hc 1 _ rfl, by rw [← add_field _ _ 2 (by omega)]; exact hc 2 _ rfl, by rw [← add_field _ _ 3 (by omega)]; exact hc 3 _ rfl, by rw [← add_field _ _ 4 (by omega)]; exact hc 4 _ rfl, by rw [← add_field _ _ 5 (by omega)]; exact hc 5 _ rfl, by rw [← add_field _ _ 6 (by omega)]; exact hc 6 _ rfl, by rw [← add_field _ _ 7 (by omega)]; exact hc 7 _ rfl, by rw [← add_field _ _ 8 (by omega)]; exact hc 8 _ rfl, by rw [← add_field _ _ 9 (by omega)]; exact hc 9 _ rfl, by rw [← add_field _ _ 10 (by omega)]; exact hc 10 _ rfl, by rw [← add_field _ _ 11 (by omega)]; exact hc 11 _ rfl, by rw [← add_field _ _ 12 (by omega)]; exact hc 12 _ rfl, by rw [← add_field _ _ 13 (by omega)]; exact hc 13 _ rfl, l4, g4, l5, g5, l6, g6, l7, g7, l8, g8, l9, g9, l10, g10⟩

theorem box7f {w : World} {g t : Nat} {c0 c1 c2 c3 c4 c5 c6 : Value} (h : w.heap[g]? = some (.cells #[c0, c1, c2, c3, c4, c5, c6] t (0, 0))) : w.cell? ⟨g, 0, none⟩ = some c0 ∧ w.cell? ⟨g, 1, none⟩ = some c1 ∧ w.cell? ⟨g, 2, none⟩ = some c2 ∧ w.cell? ⟨g, 3, none⟩ = some c3 ∧ w.cell? ⟨g, 4, none⟩ = some c4 ∧ w.cell? ⟨g, 5, none⟩ = some c5 ∧ w.cell? ⟨g, 6, none⟩ = some c6 ∧ w.frozen? ⟨g, 0, none⟩ = false ∧ w.frozen? ⟨g, 1, none⟩ = false ∧ w.frozen? ⟨g, 2, none⟩ = false ∧ w.frozen? ⟨g, 3, none⟩ = false ∧ w.frozen? ⟨g, 4, none⟩ = false ∧ w.frozen? ⟨g, 5, none⟩ = false ∧ w.frozen? ⟨g, 6, none⟩ = false :=
  ⟨(blk_cell h 0).trans rfl, (blk_cell h 1).trans rfl, (blk_cell h 2).trans rfl, (blk_cell h 3).trans rfl, (blk_cell h 4).trans rfl, (blk_cell h 5).trans rfl, (blk_cell h 6).trans rfl, blk_frozen h 0, blk_frozen h 1, blk_frozen h 2, blk_frozen h 3, blk_frozen h 4, blk_frozen h 5, blk_frozen h 6⟩
theorem box11f {w : World} {g t : Nat} {c0 c1 c2 c3 c4 c5 c6 c7 c8 c9 c10 : Value} (h : w.heap[g]? = some (.cells #[c0, c1, c2, c3, c4, c5, c6, c7, c8, c9, c10] t (0, 0))) : w.cell? ⟨g, 0, none⟩ = some c0 ∧ w.cell? ⟨g, 1, none⟩ = some c1 ∧ w.cell? ⟨g, 2, none⟩ = some c2 ∧ w.cell? ⟨g, 3, none⟩ = some c3 ∧ w.cell? ⟨g, 4, none⟩ = some c4 ∧ w.cell? ⟨g, 5, none⟩ = some c5 ∧ w.cell? ⟨g, 6, none⟩ = some c6 ∧ w.cell? ⟨g, 7, none⟩ = some c7 ∧ w.cell? ⟨g, 8, none⟩ = some c8 ∧ w.cell? ⟨g, 9, none⟩ = some c9 ∧ w.cell? ⟨g, 10, none⟩ = some c10 ∧ w.frozen? ⟨g, 0, none⟩ = false ∧ w.frozen? ⟨g, 1, none⟩ = false ∧ w.frozen? ⟨g, 2, none⟩ = false ∧ w.frozen? ⟨g, 3, none⟩ = false ∧ w.frozen? ⟨g, 4, none⟩ = false ∧ w.frozen? ⟨g, 5, none⟩ = false ∧ w.frozen? ⟨g, 6, none⟩ = false ∧ w.frozen? ⟨g, 7, none⟩ = false ∧ w.frozen? ⟨g, 8, none⟩ = false ∧ w.frozen? ⟨g, 9, none⟩ = false ∧ w.frozen? ⟨g, 10, none⟩ = false :=
  ⟨(blk_cell h 0).trans rfl, (blk_cell h 1).trans rfl, (blk_cell h 2).trans rfl, (blk_cell h 3).trans rfl, (blk_cell h 4).trans rfl, (blk_cell h 5).trans rfl, (blk_cell h 6).trans rfl, (blk_cell h 7).trans rfl, (blk_cell h 8).trans rfl, (blk_cell h 9).trans rfl, (blk_cell h 10).trans rfl, blk_frozen h 0, blk_frozen h 1, blk_frozen h 2, blk_frozen h 3, blk_frozen h 4, blk_frozen h 5, blk_frozen h 6, blk_frozen h 7, blk_frozen h 8, blk_frozen h 9, blk_frozen h 10⟩
theorem box14f {w : World} {g t : Nat} {c0 c1 c2 c3 c4 c5 c6 c7 c8 c9 c10 c11 c12 c13 : Value} (h : w.heap[g]? = some (.cells #[c0, c1, c2, c3, c4, c5, c6, c7, c8, c9, c10, c11, c12, c13] t (0, 0))) : w.cell? ⟨g, 0, none⟩ = some c0 ∧ w.cell? ⟨g, 1, none⟩ = some c1 ∧ w.cell? ⟨g, 2, none⟩ = some c2 ∧ w.cell? ⟨g, 3, none⟩ = some c3 ∧ w.cell? ⟨g, 4, none⟩ = some c4 ∧ w.cell? ⟨g, 5, none⟩ = some c5 ∧ w.cell? ⟨g, 6, none⟩ = some c6 ∧ w.cell? ⟨g, 7, none⟩ = some c7 ∧ w.cell? ⟨g, 8, none⟩ = some c8 ∧ w.cell? ⟨g, 9, none⟩ = some c9 ∧ w.cell? ⟨g, 10, none⟩ = some c10 ∧ w.cell? ⟨g, 11, none⟩ = some c11 ∧ w.cell? ⟨g, 12, none⟩ = some c12 ∧ w.cell? ⟨g, 13, none⟩ = some c13 ∧ w.frozen? ⟨g, 0, none⟩ = false ∧ w.frozen? ⟨g, 1, none⟩ = false ∧ w.frozen? ⟨g, 2, none⟩ = false ∧ w.frozen? ⟨g, 3, none⟩ = false ∧ w.frozen? ⟨g, 4, none⟩ = false ∧ w.frozen? ⟨g, 5, none⟩ = false ∧ w.frozen? ⟨g, 6, none⟩ = false ∧ w.frozen? ⟨g, 7, none⟩ = false ∧ w.frozen? ⟨g, 8, none⟩ = false ∧ w.frozen? ⟨g, 9, none⟩ = false ∧ w.frozen? ⟨g, 10, none⟩ = false ∧ w.frozen? ⟨g, 11, none⟩ = false ∧ w.frozen? ⟨g, 12, none⟩ = false ∧ w.frozen? ⟨g, 13, none⟩ = false :=
  ⟨(blk_cell h 0).trans rfl, (blk_cell h 1).trans rfl, (blk_cell h 2).trans rfl, (blk_cell h 3).trans rfl, (blk_cell h 4).trans rfl, (blk_cell h 5).trans rfl, (blk_cell h 6).trans rfl, (blk_cell h 7).trans rfl, (blk_cell h 8).trans rfl, (blk_cell h 9).trans rfl, (blk_cell h 10).trans rfl, (blk_cell h 11).trans rfl, (blk_cell h 12).trans rfl, (blk_cell h 13).trans rfl, blk_frozen h 0, blk_frozen h 1, blk_frozen h 2, blk_frozen h 3, blk_frozen h 4, blk_frozen h 5, blk_frozen h 6, blk_frozen h 7, blk_frozen h 8, blk_frozen h 9, blk_frozen h 10, blk_frozen h 11, blk_frozen h 12, blk_frozen h 13⟩
def T' : Bool := true
def F' : Bool := false
theorem la_ {α : Type} (l : List α) (i : Nat) (x : α) : l.toArray.setIfInBounds i x = (l.set i x).toArray := List.setIfInBounds_toArray l i x
theorem lz_ {α : Type} (a : α) (l : List α) (b : α) : (a :: l).set 0 b = b :: l := List.set_cons_zero
theorem ls_ {α : Type} (a : α) (l : List α) (n : Nat) (b : α) : (a :: l).set (n + 1) b = a :: l.set n b := List.set_cons_succ

set_option maxHeartbeats 2000000 in
set_option maxRecDepth 100000 in
theorem idx_51 (p : S51 → Bool) (g : Nat) (lb : Array Value) (eg : ∀ args w, (callFunc g args).run Try.prog w = .ok (.enter g args) w) (A0 : Option Addr) (c0 : Nat) (l0 : List S51) (w : World) (hr0 : Kd.C k51 w A0 l0.length l0)
    (hp : ∀ (W : World) (x : S51), Below w.heap.size w W → Calls Try.prog g (#[.agg #[.int .u32 x.f0, .int .i64 x.f1, .int .i64 x.f2, .int .i64 x.f3, .int .u64 x.f4.f0, .int .u16 x.f4.f1, .int .i64 x.f5]] ++ lb) W fun e w' => e = .returned (.bool (p x)) ∧ Below W.heap.size W w') :
    Calls Try.prog 41 #[.slice A0 l0.length c0, .func (.func g) #[] lb] w fun e w' => e = .returned (.int .i64 (Go.Proofs.YtfgalgeloflilaaW.PrintIdx.firstIdx p l0)) ∧ Below w.heap.size w w' := by
  have hu := Try.underlying51
  have HR := Aside0.mk hr0
  have HP := Aside0.mk hp
  have HN : l0.length ≤ 9223372036854775807 := hr0.2.1
  clear hr0 hp
  go_enter Try.func41, Try.ntmps41
  go_wp2
  go_loopg [5, 8] l0.length (fun gg _ s8 wr => ∃ kk : Nat, kk ≤ l0.length ∧ l0.length - kk ≤ gg ∧ s8 = .int .i64 kk ∧ Aside0 (Below w.heap.size w wr) ∧ Aside0 (∀ j, j < kk → p (rd_T51 l0 j) = false))
  case atStart => exact ⟨0, Nat.zero_le _, by omega, rfl, ⟨Below.refl _ w⟩, ⟨fun j hj => absurd hj (Nat.not_lt_zero _)⟩⟩
  case round =>
    obtain ⟨kk, hkk, hg, rfl, HB, HO⟩ := hrel
    by_cases hlt : kk < l0.length
    · have p1 : 0 ≤ ((kk : Nat) : Int) := by omega
      have q1 : ((kk : Nat) : Int) < (l0.length : Int) := by omega
      obtain ⟨ad, e1, hx0, hx1, hx2, hx3, hx4, hx5, hx6⟩ := at_T51 HR.out kk p1 q1
      cases e1
      replace hx0 := (HB.out.cell (World.block_lt_of_cell? w _ hx0)).trans hx0
      replace hx1 := (HB.out.cell (World.block_lt_of_cell? w _ hx1)).trans hx1
      replace hx2 := (HB.out.cell (World.block_lt_of_cell? w _ hx2)).trans hx2
      replace hx3 := (HB.out.cell (World.block_lt_of_cell? w _ hx3)).trans hx3
      replace hx4 := (HB.out.cell (World.block_lt_of_cell? w _ hx4)).trans hx4
      replace hx5 := (HB.out.cell (World.block_lt_of_cell? w _ hx5)).trans hx5
      replace hx6 := (HB.out.cell (World.block_lt_of_cell? w _ hx6)).trans hx6
      simp only [Int.toNat_natCast] at hx0 hx1 hx2 hx3 hx4 hx5 hx6
      have hcall := HP.out wr (rd_T51 l0 kk) HB.out
      obtain ⟨y, hy⟩ : ∃ y, rd_T51 l0 kk = y := ⟨_, rfl⟩
      rw [hy] at hcall hx0 hx1 hx2 hx3 hx4 hx5 hx6
      have HY := Aside0.mk hy
      clear hy
      obtain ⟨b, hb0⟩ : ∃ b, p y = b := ⟨_, rfl⟩
      rw [hb0] at hcall
      have HPY := Aside0.mk hb0
      clear hb0
      have HC := Aside0.mk hcall
      clear hcall
      go_wp2_with fail
      refine HC.out.mono ?_
      rintro e w1 ⟨rfl, hb⟩
      have HB2 := Aside0.mk (below_then HB.out HB.out.size hb)
      clear hb HC HP hx0 hx1 hx2 hx3 hx4 hx5 hx6 eg
      cases b with
      | true =>
        go_wp2
        go_ret
        refine ⟨?_, HB2.out⟩
        have h := Go.Proofs.YtfgalgeloflilaaW.PrintIdx.firstIdx_hit p l0 z51 kk hlt (by have h := HPY.out; rw [← HY.out] at h; simpa [rd_T51] using h) (fun j hj => by have := HO.out j hj; simpa [rd_T51] using this)
        rw [h]
        rfl
      | false =>
        go_wp2
        go_roundg (l0.length - (kk + 1))
        case measure => omega
        case rel =>
          refine ⟨kk + 1, by omega, by omega, by go_num, HB2, ⟨fun j hj => ?_⟩⟩
          rcases Nat.lt_or_ge j kk with h | h
          · exact HO.out j h
          · obtain rfl : j = kk := by omega
            rw [HY.out]; exact HPY.out
    · have : kk = l0.length := by omega
      have hn : ¬ ((kk : Nat) : Int) < (l0.length : Int) := by omega
      go_wp2
      go_ret
      refine ⟨?_, HB.out⟩
      rw [Go.Proofs.YtfgalgeloflilaaW.PrintIdx.firstIdx_miss p l0 z51 (fun j hj => by have := HO.out j (by omega); simpa [rd_T51] using this)]
      rfl
set_option maxHeartbeats 2000000 in
set_option maxRecDepth 100000 in
theorem any_51 (p : S51 → Bool) (g : Nat) (lb : Array Value) (eg : ∀ args w, (callFunc g args).run Try.prog w = .ok (.enter g args) w) (A0 : Option Addr) (c0 : Nat) (l0 : List S51) (w : World) (hr0 : Kd.C k51 w A0 l0.length l0)
    (hp : ∀ (W : World) (x : S51), Below w.heap.size w W → Calls Try.prog g (#[.agg #[.int .u32 x.f0, .int .i64 x.f1, .int .i64 x.f2, .int .i64 x.f3, .int .u64 x.f4.f0, .int .u16 x.f4.f1, .int .i64 x.f5]] ++ lb) W fun e w' => e = .returned (.bool (p x)) ∧ Below W.heap.size W w') :
    Calls Try.prog 43 #[.slice A0 l0.length c0, .func (.func g) #[] lb] w fun e w' => e = .returned (.bool (l0.any p)) ∧ Below w.heap.size w w' := by
  have HC := Aside0.mk (idx_51 p g lb eg A0 c0 l0 w hr0 hp)
  rw [← Go.Proofs.YtfgalgeloflilaaW.PrintIdx.firstIdx_any]
  generalize Go.Proofs.YtfgalgeloflilaaW.PrintIdx.firstIdx p l0 = i at HC
  clear hr0 hp eg
  go_enter Try.func43, Try.ntmps43
  go_wp2_with (go_at_call 41; refine HC.out.mono ?_; rintro e w1 ⟨rfl, hb⟩)
  go_ret
  exact ⟨rfl, hb⟩
end Go.Proofs.Ytfgalgeloflilaa.P
