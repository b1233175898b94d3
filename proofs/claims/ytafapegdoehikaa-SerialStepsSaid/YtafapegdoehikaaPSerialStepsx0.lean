-- Written by a program of this session (a turned copy of the print): not the kit's own print.
import Derived.Test.YtafapegdoehikaaProg
import Derived.Below
import Derived.Deep.Draws
import Derived.Deep.AppendLies
import Derived.Maps.AppendAt
import Derived.OwnWalk
import Derived.Laws.BytesArg
import Derived.Laws.MakeOwn
import Derived.Laws.OwnMore
import Derived.Deep.OwnRows
import Derived.Tactics
import Derived.Lib.ConvBytes
import Derived.Laws.Slices
import Derived.WalkKit
import Derived.KernelRfl
import Derived.RowKit3
import Derived.Deep.LoopGhost
import Derived.Deep.QuietTactic
import Derived.BigQuiet
import Derived.WideLaws
import Derived.Deep.DeepCutAuto
import Derived.Deep.CutBlock
import Derived.Deep.RegionHeld3
import Derived.Laws.Rows
import Derived.Lib.AppendStr
import Derived.ArgAppend
import Derived.Laws.IdiomCopy
import Derived.OrdersHeld
import Derived.Laws.BitsLemmas
import Derived.RowKit
import Derived.Test.YtafapegdoehikaaWWords
import Derived.Test.YtafapegdoehikaaWLast
import Derived.Test.YtafapegdoehikaaWTab
import Derived.Test.YtafapegdoehikaaWFour
import Derived.Test.YtafapegdoehikaaWQPut
import Derived.Test.YtafapegdoehikaaWApart
import Derived.Test.YtafapegdoehikaaWArr
import Derived.Test.YtafapegdoehikaaWZeros
import Derived.Test.YtafapegdoehikaaWFoot
import Derived.Test.YtafapegdoehikaaWKept
import Derived.Test.YtafapegdoehikaaWShare
import Derived.Test.YtafapegdoehikaaWN
import Derived.Test.YtafapegdoehikaaWFootNe
import Derived.Test.YtafapegdoehikaaWAt
import Derived.Test.YtafapegdoehikaaWEqStruct
import Derived.Test.YtafapegdoehikaaWRepsOne
import Derived.Test.YtafapegdoehikaaWInv
import Derived.Test.YtafapegdoehikaaWInvWords
import Derived.Test.YtafapegdoehikaaWGuard
import Derived.Test.YtafapegdoehikaaWNEv
import Derived.Test.YtafapegdoehikaaWMore
namespace Go.Proofs.Ytafapegdoehikaa.PSerialSteps
open Go.RowKit Go.Proofs.YtafapegdoehikaaW.PrintWords Go.Proofs.YtafapegdoehikaaW.PrintLast Go.Proofs.YtafapegdoehikaaW.PrintMore
attribute [local go_sem] max2_int min2_int max_two min_two max_three min_three max_four min_four   -- for this text's walks alone
set_option linter.unusedVariables false
set_option linter.unusedSimpArgs false



def errW : Option Int → Value
  | none => .nilIface
  | some c => .iface 0 (.int .i64 c)
theorem errW_none : errW none = .nilIface := rfl
theorem errW_some (c : Int) : errW (some c) = .iface 0 (.int .i64 c) := rfl

-- the values' own types

end Go.Proofs.Ytafapegdoehikaa.PSerialSteps
