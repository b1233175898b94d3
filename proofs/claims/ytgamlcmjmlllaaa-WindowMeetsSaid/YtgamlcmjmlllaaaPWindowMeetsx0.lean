/- Written by a program of this session (a turned copy of the print; not the kit's own print): the walks of the functions that one law reaches, or that law's row; the plain law stands in the Pure text; no condition of our own. -/
import Derived.Test.YtgamlcmjmlllaaaProg
import Derived.Below
import Derived.Deep.Draws
import Derived.Deep.AppendLies
import Derived.Maps.AppendAt
import Derived.OwnWalk
import Derived.Laws.BytesArg
import Derived.Laws.MakeOwn
import Derived.Laws.OwnMore
import Derived.Deep.OwnRows
import Derived.Tactics
import Derived.Lib.ConvBytes
import Derived.Laws.Slices
import Derived.WalkKit
import Derived.KernelRfl
import Derived.RowKit3
import Derived.Deep.LoopGhost
import Derived.Deep.QuietTactic
import Derived.BigQuiet
import Derived.WideLaws
import Derived.Deep.DeepCutAuto
import Derived.Deep.CutBlock
import Derived.Deep.RegionHeld3
import Derived.Laws.Rows
import Derived.Lib.AppendStr
import Derived.ArgAppend
import Derived.Laws.IdiomCopy
import Derived.OrdersHeld
import Derived.Laws.BitsLemmas
import Derived.RowKit
import Derived.LoopN
import Derived.Test.YtgamlcmjmlllaaaWWords
import Derived.Test.YtgamlcmjmlllaaaWLast
import Derived.Test.YtgamlcmjmlllaaaWTab
import Derived.Test.YtgamlcmjmlllaaaWFour
import Derived.Test.YtgamlcmjmlllaaaWQPut
import Derived.Test.YtgamlcmjmlllaaaWApart
import Derived.Test.YtgamlcmjmlllaaaWArr
import Derived.Test.YtgamlcmjmlllaaaWZeros
import Derived.Test.YtgamlcmjmlllaaaWFoot
import Derived.Test.YtgamlcmjmlllaaaWKept
import Derived.Test.YtgamlcmjmlllaaaWShare
import Derived.Test.YtgamlcmjmlllaaaWN
import Derived.Test.YtgamlcmjmlllaaaWFootNe
import Derived.Test.YtgamlcmjmlllaaaWAt
import Derived.Test.YtgamlcmjmlllaaaWEqStruct
import Derived.Test.YtgamlcmjmlllaaaWRepsOne
import Derived.Test.YtgamlcmjmlllaaaWInv
import Derived.Test.YtgamlcmjmlllaaaWInvWords
import Derived.Test.YtgamlcmjmlllaaaWGuard
import Derived.Test.YtgamlcmjmlllaaaWNEv
import Derived.Test.YtgamlcmjmlllaaaWMore
namespace Go.Proofs.Ytgamlcmjmlllaaa.PWindowMeets
open Go.RowKit Go.Proofs.YtgamlcmjmlllaaaW.PrintWords Go.Proofs.YtgamlcmjmlllaaaW.PrintLast Go.Proofs.YtgamlcmjmlllaaaW.PrintMore
attribute [local go_sem] max2_int min2_int max_two min_two max_three min_three max_four min_four   -- for this text's walks alone
set_option linter.unusedVariables false
set_option linter.unusedSimpArgs false



def errW : Option Int → Value
  | none => .nilIface
  | some c => .iface 0 (.int .i64 c)
theorem errW_none : errW none = .nilIface := rfl
theorem errW_some (c : Int) : errW (some c) = .iface 0 (.int .i64 c) := rfl

-- the values' own types

end Go.Proofs.Ytgamlcmjmlllaaa.PWindowMeets
