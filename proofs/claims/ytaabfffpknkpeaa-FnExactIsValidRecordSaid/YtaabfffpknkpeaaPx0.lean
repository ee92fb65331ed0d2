-- Written by gprint.py (wip/gprint.py of this repo), out of the translation. Not trusted: Lean checks it.
import Derived.Test.YtaabfffpknkpeaaProg
import Derived.Below
import Derived.Deep.Draws
import Derived.Deep.AppendLies
import Derived.Maps.AppendAt
import Derived.OwnWalk
import Derived.Laws.BytesArg
import Derived.Laws.MakeOwn
import Derived.Laws.OwnMore
import Derived.Deep.OwnRows
import Derived.Tactics
import Derived.Lib.ConvBytes
import Derived.Laws.Slices
import Derived.WalkKit
import Derived.KernelRfl
import Derived.RowKit3
import Derived.Deep.LoopGhost
import Derived.Deep.QuietTactic
import Derived.BigQuiet
import Derived.WideLaws
import Derived.Deep.DeepCutAuto
import Derived.Deep.CutBlock
import Derived.Deep.RegionHeld3
import Derived.Laws.Rows
import Derived.Lib.AppendStr
import Derived.ArgAppend
import Derived.Laws.IdiomCopy
import Derived.OrdersHeld
import Derived.Laws.BitsLemmas
import Derived.RowKit
import Derived.Test.YtaabfffpknkpeaaWWords
import Derived.Test.YtaabfffpknkpeaaWLast
import Derived.Test.YtaabfffpknkpeaaWTab
import Derived.Test.YtaabfffpknkpeaaWFour
import Derived.Test.YtaabfffpknkpeaaWQPut
import Derived.Test.YtaabfffpknkpeaaWApart
import Derived.Test.YtaabfffpknkpeaaWArr
import Derived.Test.YtaabfffpknkpeaaWZeros
import Derived.Test.YtaabfffpknkpeaaWFoot
import Derived.Test.YtaabfffpknkpeaaWKept
import Derived.Test.YtaabfffpknkpeaaWShare
import Derived.Test.YtaabfffpknkpeaaWN
import Derived.Test.YtaabfffpknkpeaaWFootNe
import Derived.Test.YtaabfffpknkpeaaWAt
import Derived.Test.YtaabfffpknkpeaaWEqStruct
import Derived.Test.YtaabfffpknkpeaaWRepsOne
import Derived.Test.YtaabfffpknkpeaaWInv
import Derived.Test.YtaabfffpknkpeaaWInvWords
import Derived.Test.YtaabfffpknkpeaaWGuard
import Derived.Test.YtaabfffpknkpeaaWNEv
import Derived.Test.YtaabfffpknkpeaaWMore
namespace Go.Proofs.Ytaabfffpknkpeaa.Px
end Go.Proofs.Ytaabfffpknkpeaa.Px
namespace Go.Proofs.Ytaabfffpknkpeaa.Giv
end Go.Proofs.Ytaabfffpknkpeaa.Giv
namespace Go.Proofs.Ytaabfffpknkpeaa.Px
open Go.Proofs.Ytaabfffpknkpeaa.Giv
open Go.RowKit Go.Proofs.YtaabfffpknkpeaaW.PrintWords Go.Proofs.YtaabfffpknkpeaaW.PrintLast Go.Proofs.YtaabfffpknkpeaaW.PrintMore
attribute [local go_sem] max2_int min2_int max_two min_two max_three min_three max_four min_four   -- for this text's walks alone
set_option linter.unusedVariables false
set_option linter.unusedSimpArgs false



def errW : Option Int → Value
  | none => .nilIface
  | some c => .iface 0 (.int .i64 c)
theorem errW_none : errW none = .nilIface := rfl
theorem errW_some (c : Int) : errW (some c) = .iface 0 (.int .i64 c) := rfl

-- the values' own types

end Go.Proofs.Ytaabfffpknkpeaa.Px
