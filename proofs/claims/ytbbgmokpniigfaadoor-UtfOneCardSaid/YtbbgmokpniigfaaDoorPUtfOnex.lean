/- Written by a program of this session (a turned copy of the print; not the kit's own print): the walks of the functions that one law reaches, or that law's row; the plain law stands in the Pure text; no condition of our own. -/
import Derived.Test.YtbbgmokpniigfaaDoorPUtfOnex0
import Derived.Test.YtbbgmokpniigfaaDoorPUtfOnex1
import Derived.Test.YtbbgmokpniigfaaDoorPUtfOnex2
import Derived.Test.YtbbgmokpniigfaaDoorPUtfOnex3
namespace Go.Proofs.YtbbgmokpniigfaaDoor.PUtfOne
open Go.RowKit Go.Proofs.YtbbgmokpniigfaaDoorW.PrintWords Go.Proofs.YtbbgmokpniigfaaDoorW.PrintLast Go.Proofs.YtbbgmokpniigfaaDoorW.PrintMore
attribute [local go_sem] max2_int min2_int max_two min_two max_three min_three max_four min_four   -- for this text's walks alone
set_option linter.unusedVariables false
set_option linter.unusedSimpArgs false

end Go.Proofs.YtbbgmokpniigfaaDoor.PUtfOne
