-- Written by gprint.py (wip/gprint.py of this repo), out of the translation. Not trusted: Lean checks it.
import Derived.Test.YtgifhmjbmnopcaaProg
import Derived.Below
import Derived.Deep.Draws
import Derived.Deep.AppendLies
import Derived.Maps.AppendAt
import Derived.OwnWalk
import Derived.Laws.BytesArg
import Derived.Laws.MakeOwn
import Derived.Laws.OwnMore
import Derived.Deep.OwnRows
import Derived.Tactics
import Derived.Lib.ConvBytes
import Derived.Laws.Slices
import Derived.WalkKit
import Derived.KernelRfl
import Derived.RowKit3
import Derived.Deep.LoopGhost
import Derived.Deep.QuietTactic
import Derived.BigQuiet
import Derived.WideLaws
import Derived.Deep.DeepCutAuto
import Derived.Deep.CutBlock
import Derived.Deep.RegionHeld3
import Derived.Laws.Rows
import Derived.Lib.AppendStr
import Derived.ArgAppend
import Derived.Laws.IdiomCopy
import Derived.OrdersHeld
import Derived.Laws.BitsLemmas
import Derived.RowKit
import Derived.Test.YtgifhmjbmnopcaaWWords
import Derived.Test.YtgifhmjbmnopcaaWLast
import Derived.Test.YtgifhmjbmnopcaaWTab
import Derived.Test.YtgifhmjbmnopcaaWFour
import Derived.Test.YtgifhmjbmnopcaaWQPut
import Derived.Test.YtgifhmjbmnopcaaWApart
import Derived.Test.YtgifhmjbmnopcaaWArr
import Derived.Test.YtgifhmjbmnopcaaWZeros
import Derived.Test.YtgifhmjbmnopcaaWFoot
import Derived.Test.YtgifhmjbmnopcaaWKept
import Derived.Test.YtgifhmjbmnopcaaWShare
import Derived.Test.YtgifhmjbmnopcaaWN
import Derived.Test.YtgifhmjbmnopcaaWFootNe
import Derived.Test.YtgifhmjbmnopcaaWAt
import Derived.Test.YtgifhmjbmnopcaaWEqStruct
import Derived.Test.YtgifhmjbmnopcaaWRepsOne
import Derived.Test.YtgifhmjbmnopcaaWInv
import Derived.Test.YtgifhmjbmnopcaaWInvWords
import Derived.Test.YtgifhmjbmnopcaaWGuard
import Derived.Test.YtgifhmjbmnopcaaWNEv
import Derived.Test.YtgifhmjbmnopcaaWMore
namespace Go.Proofs.Ytgifhmjbmnopcaa.Px
end Go.Proofs.Ytgifhmjbmnopcaa.Px
namespace Go.Proofs.Ytgifhmjbmnopcaa.Giv
end Go.Proofs.Ytgifhmjbmnopcaa.Giv
namespace Go.Proofs.Ytgifhmjbmnopcaa.Px
open Go.Proofs.Ytgifhmjbmnopcaa.Giv
open Go.RowKit Go.Proofs.YtgifhmjbmnopcaaW.PrintWords Go.Proofs.YtgifhmjbmnopcaaW.PrintLast Go.Proofs.YtgifhmjbmnopcaaW.PrintMore
attribute [local go_sem] max2_int min2_int max_two min_two max_three min_three max_four min_four   -- for this text's walks alone
set_option linter.unusedVariables false
set_option linter.unusedSimpArgs false



def errW : Option Int → Value
  | none => .nilIface
  | some c => .iface 0 (.int .i64 c)
theorem errW_none : errW none = .nilIface := rfl
theorem errW_some (c : Int) : errW (some c) = .iface 0 (.int .i64 c) := rfl

theorem info3 : (Try.prog.info? 3).map (fun i => (i.zero, i.size, i.bytes)) = some (some (.int .i64 0), 1, 8) := by kernel_rfl
-- the values' own types
def rd_L1 (xs : List (List Int)) (i : Int) : (List Int) := xs.getD i.toNat ([] : List Int)
theorem at_L1 {w : World} {A : Option Addr} {n : Nat} {xs : List (List Int)} (h : Kd.C (Kd.slice 3 (Kd.int .i64)) w A n xs) (i : Int) (h0 : 0 ≤ i) (h1 : i < n) : ∃ ad A0 c0, A = some ad ∧ w.cell? (ad.add i.toNat) = some (.slice A0 (rd_L1 xs i).length c0) ∧ (rd_L1 xs i).length ≤ c0 ∧ (Kd.int .i64).C w A0 (rd_L1 xs i).length (rd_L1 xs i) := by
  obtain ⟨ad, c, e, _, hK, hc0⟩ := Kd.C_get h ([] : List Int) i h0 h1
  have hc : ∀ j u, c[j]? = some u → w.cell? (ad.add (i.toNat * 1 + j)) = some u := hc0
  obtain ⟨A0, c0, rfl, l0, g0⟩ := hK
  exact ⟨ad, A0, c0, e, by have hq := hc 0 _ rfl; rwa [Nat.mul_one, Nat.add_zero] at hq, l0, g0⟩

end Go.Proofs.Ytgifhmjbmnopcaa.Px
