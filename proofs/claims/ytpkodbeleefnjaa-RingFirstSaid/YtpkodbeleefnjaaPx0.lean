-- Printed by fprint.py (a program of this session's, over the kit's print), for this claim.
import Derived.Test.YtpkodbeleefnjaaProg
import Derived.Test.YtpkodbeleefnjaaWIdx
import Derived.Below
import Derived.Deep.Draws
import Derived.Deep.AppendLies
import Derived.Maps.AppendAt
import Derived.OwnWalk
import Derived.Laws.BytesArg
import Derived.Laws.MakeOwn
import Derived.Laws.OwnMore
import Derived.Deep.OwnRows
import Derived.Tactics
import Derived.Lib.ConvBytes
import Derived.Laws.Slices
import Derived.WalkKit
import Derived.KernelRfl
import Derived.RowKit3
import Derived.Deep.LoopGhost
import Derived.Deep.QuietTactic
import Derived.BigQuiet
import Derived.WideLaws
import Derived.Deep.DeepCutAuto
import Derived.Deep.CutBlock
import Derived.Deep.RegionHeld3
import Derived.Laws.Rows
import Derived.Lib.AppendStr
import Derived.ArgAppend
import Derived.Laws.IdiomCopy
import Derived.OrdersHeld
import Derived.Laws.BitsLemmas
import Derived.RowKit
import Derived.WalkSpells
import Derived.WalkLawsBesides
import Derived.Sort.WalkB12
import Derived.Shelf.SlSortCmp.Whole1
import Derived.Test.YtpkodbeleefnjaaWFlat
import Derived.Test.YtpkodbeleefnjaaWSort
import Derived.Test.YtpkodbeleefnjaaSort
import Derived.Test.YtpkodbeleefnjaaWCol
import Derived.Test.YtpkodbeleefnjaaWWords
import Derived.Test.YtpkodbeleefnjaaWLast
import Derived.Test.YtpkodbeleefnjaaWTab
import Derived.Test.YtpkodbeleefnjaaWFour
import Derived.Test.YtpkodbeleefnjaaWQPut
import Derived.Test.YtpkodbeleefnjaaWApart
import Derived.Test.YtpkodbeleefnjaaWArr
import Derived.Test.YtpkodbeleefnjaaWZeros
import Derived.Test.YtpkodbeleefnjaaWFoot
import Derived.Test.YtpkodbeleefnjaaWKept
import Derived.Test.YtpkodbeleefnjaaWShare
import Derived.Test.YtpkodbeleefnjaaWN
import Derived.Test.YtpkodbeleefnjaaWFootNe
import Derived.Test.YtpkodbeleefnjaaWAt
import Derived.Test.YtpkodbeleefnjaaWEqStruct
import Derived.Test.YtpkodbeleefnjaaWRepsOne
import Derived.Test.YtpkodbeleefnjaaWInv
import Derived.Test.YtpkodbeleefnjaaWInvWords
import Derived.Test.YtpkodbeleefnjaaWGuard
import Derived.Test.YtpkodbeleefnjaaWNEv
import Derived.Test.YtpkodbeleefnjaaWMore
namespace Go.Proofs.Ytpkodbeleefnjaa.P
open Go.RowKit Go.Proofs.YtpkodbeleefnjaaW.PrintWords Go.Proofs.YtpkodbeleefnjaaW.PrintLast Go.Proofs.YtpkodbeleefnjaaW.PrintMore
attribute [local go_sem] max2_int min2_int max_two min_two max_three min_three max_four min_four   -- for this text's walks alone
set_option linter.unusedVariables false
set_option linter.unusedSimpArgs false



def errW : Option Int → Value
  | none => .nilIface
  | some c => .iface 0 (.int .i64 c)
theorem errW_none : errW none = .nilIface := rfl
theorem errW_some (c : Int) : errW (some c) = .iface 0 (.int .i64 c) := rfl

theorem info22 : (Try.prog.info? 22).map (fun i => (i.zero, i.size, i.bytes)) = some (some (.int .u64 0), 1, 8) := by kernel_rfl
-- the values' own types
def rd_L1 (xs : List (List Int)) (i : Int) : (List Int) := xs.getD i.toNat ([] : List Int)
theorem at_L1 {w : World} {A : Option Addr} {n : Nat} {xs : List (List Int)} (h : Kd.C (Kd.slice 22 (Kd.int .u64)) w A n xs) (i : Int) (h0 : 0 ≤ i) (h1 : i < n) : ∃ ad A0 c0, A = some ad ∧ w.cell? (ad.add i.toNat) = some (.slice A0 (rd_L1 xs i).length c0) ∧ (rd_L1 xs i).length ≤ c0 ∧ (Kd.int .u64).C w A0 (rd_L1 xs i).length (rd_L1 xs i) := by
  obtain ⟨ad, c, e, _, hK, hc0⟩ := Kd.C_get h ([] : List Int) i h0 h1
  have hc : ∀ j u, c[j]? = some u → w.cell? (ad.add (i.toNat * 1 + j)) = some u := hc0
  obtain ⟨A0, c0, rfl, l0, g0⟩ := hK
  exact ⟨ad, A0, c0, e, by have hq := hc 0 _ rfl; rwa [Nat.mul_one, Nat.add_zero] at hq, l0, g0⟩

def T' : Bool := true
def F' : Bool := false
theorem la_ {α : Type} (l : List α) (i : Nat) (x : α) : l.toArray.setIfInBounds i x = (l.set i x).toArray := List.setIfInBounds_toArray l i x
theorem lz_ {α : Type} (a : α) (l : List α) (b : α) : (a :: l).set 0 b = b :: l := List.set_cons_zero
theorem ls_ {α : Type} (a : α) (l : List α) (n : Nat) (b : α) : (a :: l).set (n + 1) b = a :: l.set n b := List.set_cons_succ

end Go.Proofs.Ytpkodbeleefnjaa.P
