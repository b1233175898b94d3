/- Written by a program of this session (a turned copy of the print; not the kit's own print): the walks of the functions that one law reaches, or that law's row; the plain law stands in the Pure text; no condition of our own. -/
import Derived.Test.YtfnoldogodfinaaProg
import Derived.Below
import Derived.Deep.Draws
import Derived.Deep.AppendLies
import Derived.Maps.AppendAt
import Derived.OwnWalk
import Derived.Laws.BytesArg
import Derived.Laws.MakeOwn
import Derived.Laws.OwnMore
import Derived.Deep.OwnRows
import Derived.Tactics
import Derived.Lib.ConvBytes
import Derived.Laws.Slices
import Derived.WalkKit
import Derived.KernelRfl
import Derived.RowKit3
import Derived.Deep.LoopGhost
import Derived.Deep.QuietTactic
import Derived.BigQuiet
import Derived.WideLaws
import Derived.Deep.DeepCutAuto
import Derived.Deep.CutBlock
import Derived.Deep.RegionHeld3
import Derived.Laws.Rows
import Derived.Lib.AppendStr
import Derived.ArgAppend
import Derived.Laws.IdiomCopy
import Derived.OrdersHeld
import Derived.Laws.BitsLemmas
import Derived.RowKit
import Derived.LoopN
import Derived.Test.YtfnoldogodfinaaWWords
import Derived.Test.YtfnoldogodfinaaWLast
import Derived.Test.YtfnoldogodfinaaWTab
import Derived.Test.YtfnoldogodfinaaWFour
import Derived.Test.YtfnoldogodfinaaWQPut
import Derived.Test.YtfnoldogodfinaaWApart
import Derived.Test.YtfnoldogodfinaaWArr
import Derived.Test.YtfnoldogodfinaaWZeros
import Derived.Test.YtfnoldogodfinaaWFoot
import Derived.Test.YtfnoldogodfinaaWKept
import Derived.Test.YtfnoldogodfinaaWShare
import Derived.Test.YtfnoldogodfinaaWN
import Derived.Test.YtfnoldogodfinaaWFootNe
import Derived.Test.YtfnoldogodfinaaWAt
import Derived.Test.YtfnoldogodfinaaWEqStruct
import Derived.Test.YtfnoldogodfinaaWRepsOne
import Derived.Test.YtfnoldogodfinaaWInv
import Derived.Test.YtfnoldogodfinaaWInvWords
import Derived.Test.YtfnoldogodfinaaWGuard
import Derived.Test.YtfnoldogodfinaaWNEv
import Derived.Test.YtfnoldogodfinaaWMore
namespace Go.Proofs.Ytfnoldogodfinaa.PIdleNil
open Go.RowKit Go.Proofs.YtfnoldogodfinaaW.PrintWords Go.Proofs.YtfnoldogodfinaaW.PrintLast Go.Proofs.YtfnoldogodfinaaW.PrintMore
attribute [local go_sem] max2_int min2_int max_two min_two max_three min_three max_four min_four   -- for this text's walks alone
set_option linter.unusedVariables false
set_option linter.unusedSimpArgs false



def errW : Option Int → Value
  | none => .nilIface
  | some c => .iface 0 (.int .i64 c)
theorem errW_none : errW none = .nilIface := rfl
theorem errW_some (c : Int) : errW (some c) = .iface 0 (.int .i64 c) := rfl

-- the values' own types

end Go.Proofs.Ytfnoldogodfinaa.PIdleNil
