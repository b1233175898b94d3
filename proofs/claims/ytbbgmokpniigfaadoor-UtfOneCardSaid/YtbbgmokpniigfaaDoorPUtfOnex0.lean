/- Written by a program of this session (a turned copy of the print; not the kit's own print): the walks of the functions that one law reaches, or that law's row; the plain law stands in the Pure text; no condition of our own. -/
import Derived.Test.YtbbgmokpniigfaaDoorProg
import Derived.Below
import Derived.Deep.Draws
import Derived.Deep.AppendLies
import Derived.Maps.AppendAt
import Derived.OwnWalk
import Derived.Laws.BytesArg
import Derived.Laws.MakeOwn
import Derived.Laws.OwnMore
import Derived.Deep.OwnRows
import Derived.Tactics
import Derived.Lib.ConvBytes
import Derived.Laws.Slices
import Derived.WalkKit
import Derived.KernelRfl
import Derived.RowKit3
import Derived.Deep.LoopGhost
import Derived.Deep.QuietTactic
import Derived.BigQuiet
import Derived.WideLaws
import Derived.Deep.DeepCutAuto
import Derived.Deep.CutBlock
import Derived.Deep.RegionHeld3
import Derived.Laws.Rows
import Derived.Lib.AppendStr
import Derived.ArgAppend
import Derived.Laws.IdiomCopy
import Derived.OrdersHeld
import Derived.Laws.BitsLemmas
import Derived.RowKit
import Derived.LoopN
import Derived.WalkMore
import Derived.ScopeJumps
import Derived.WalkLawsBesides
import Derived.Test.YtbbgmokpniigfaaDoorWWords
import Derived.Test.YtbbgmokpniigfaaDoorWLast
import Derived.Test.YtbbgmokpniigfaaDoorWTab
import Derived.Test.YtbbgmokpniigfaaDoorWFour
import Derived.Test.YtbbgmokpniigfaaDoorWQPut
import Derived.Test.YtbbgmokpniigfaaDoorWApart
import Derived.Test.YtbbgmokpniigfaaDoorWArr
import Derived.Test.YtbbgmokpniigfaaDoorWZeros
import Derived.Test.YtbbgmokpniigfaaDoorWFoot
import Derived.Test.YtbbgmokpniigfaaDoorWKept
import Derived.Test.YtbbgmokpniigfaaDoorWShare
import Derived.Test.YtbbgmokpniigfaaDoorWN
import Derived.Test.YtbbgmokpniigfaaDoorWFootNe
import Derived.Test.YtbbgmokpniigfaaDoorWAt
import Derived.Test.YtbbgmokpniigfaaDoorWEqStruct
import Derived.Test.YtbbgmokpniigfaaDoorWRepsOne
import Derived.Test.YtbbgmokpniigfaaDoorWInv
import Derived.Test.YtbbgmokpniigfaaDoorWInvWords
import Derived.Test.YtbbgmokpniigfaaDoorWGuard
import Derived.Test.YtbbgmokpniigfaaDoorWNEv
import Derived.Test.YtbbgmokpniigfaaDoorWMore
namespace Go.Proofs.YtbbgmokpniigfaaDoor.PUtfOne
open Go.RowKit Go.Proofs.YtbbgmokpniigfaaDoorW.PrintWords Go.Proofs.YtbbgmokpniigfaaDoorW.PrintLast Go.Proofs.YtbbgmokpniigfaaDoorW.PrintMore
attribute [local go_sem] max2_int min2_int max_two min_two max_three min_three max_four min_four   -- for this text's walks alone
set_option linter.unusedVariables false
set_option linter.unusedSimpArgs false



def errW : Option Int → Value
  | none => .nilIface
  | some c => .iface 0 (.int .i64 c)
theorem errW_none : errW none = .nilIface := rfl
theorem errW_some (c : Int) : errW (some c) = .iface 0 (.int .i64 c) := rfl

theorem info5 : (Tryd.prog.info? 5).map (fun i => (i.zero, i.size, i.bytes)) = some (some (.int .u8 0), 1, 1) := by kernel_rfl
theorem info32 : (Tryd.prog.info? 32).map (fun i => (i.zero, i.size, i.bytes)) = some (some (.int .u32 0), 1, 4) := by kernel_rfl
-- the values' own types

end Go.Proofs.YtbbgmokpniigfaaDoor.PUtfOne
