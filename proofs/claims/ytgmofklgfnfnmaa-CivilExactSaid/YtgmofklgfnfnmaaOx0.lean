-- What some functions of the program compute: a text of this claim's own (lines first written by the kit's tool, some proved anew).
import Derived.Test.YtgmofklgfnfnmaaProg
import Derived.Below
import Derived.Deep.Draws
import Derived.Deep.AppendLies
import Derived.Maps.AppendAt
import Derived.OwnWalk
import Derived.Laws.BytesArg
import Derived.Laws.MakeOwn
import Derived.Laws.OwnMore
import Derived.Deep.OwnRows
import Derived.Tactics
import Derived.Lib.ConvBytes
import Derived.Laws.Slices
import Derived.WalkKit
import Derived.KernelRfl
import Derived.RowKit3
import Derived.Deep.LoopGhost
import Derived.Deep.QuietTactic
import Derived.BigQuiet
import Derived.WideLaws
import Derived.Deep.DeepCutAuto
import Derived.Deep.CutBlock
import Derived.Deep.RegionHeld3
import Derived.Laws.Rows
import Derived.Lib.AppendStr
import Derived.ArgAppend
import Derived.Laws.IdiomCopy
import Derived.OrdersHeld
import Derived.Laws.BitsLemmas
import Derived.RowKit
import Derived.Test.YtgmofklgfnfnmaaWWords
import Derived.Test.YtgmofklgfnfnmaaWLast
import Derived.Test.YtgmofklgfnfnmaaWTab
import Derived.Test.YtgmofklgfnfnmaaWFour
import Derived.Test.YtgmofklgfnfnmaaWQPut
import Derived.Test.YtgmofklgfnfnmaaWApart
import Derived.Test.YtgmofklgfnfnmaaWArr
import Derived.Test.YtgmofklgfnfnmaaWZeros
import Derived.Test.YtgmofklgfnfnmaaWFoot
import Derived.Test.YtgmofklgfnfnmaaWKept
import Derived.Test.YtgmofklgfnfnmaaWShare
import Derived.Test.YtgmofklgfnfnmaaWN
import Derived.Test.YtgmofklgfnfnmaaWFootNe
import Derived.Test.YtgmofklgfnfnmaaWAt
import Derived.Test.YtgmofklgfnfnmaaWEqStruct
import Derived.Test.YtgmofklgfnfnmaaWRepsOne
import Derived.Test.YtgmofklgfnfnmaaWInv
import Derived.Test.YtgmofklgfnfnmaaWInvWords
import Derived.Test.YtgmofklgfnfnmaaWGuard
import Derived.Test.YtgmofklgfnfnmaaWNEv
import Derived.Test.YtgmofklgfnfnmaaWMore
namespace Go.Proofs.Ytgmofklgfnfnmaa.O
open Go.RowKit Go.Proofs.YtgmofklgfnfnmaaW.PrintWords Go.Proofs.YtgmofklgfnfnmaaW.PrintLast Go.Proofs.YtgmofklgfnfnmaaW.PrintMore
attribute [local go_sem] max2_int min2_int max_two min_two max_three min_three max_four min_four   -- for this text's walks alone
set_option linter.unusedVariables false
set_option linter.unusedSimpArgs false



def errW : Option Int → Value
  | none => .nilIface
  | some c => .iface 0 (.int .i64 c)
theorem errW_none : errW none = .nilIface := rfl
theorem errW_some (c : Int) : errW (some c) = .iface 0 (.int .i64 c) := rfl

theorem info3 : (Try.prog.info? 3).map (fun i => (i.zero, i.size, i.bytes)) = some (some (.int .i64 0), 1, 8) := by kernel_rfl
-- the values' own types

end Go.Proofs.Ytgmofklgfnfnmaa.O
