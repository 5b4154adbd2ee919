-- Written by wip/xprint.py (the kit's printer with hooks) out of the translation; Lean checks it.
import Derived.Test.YtccabnimiacioaaDoorU0
import Derived.Test.YtccabnimiacioaaDoorUL0x0
import Derived.Test.YtccabnimiacioaaDoorUL0x1
import Derived.Test.YtccabnimiacioaaDoorUL0x2
namespace Go.Proofs.YtccabnimiacioaaDoor.U
open Go.RowKit Go.Proofs.YtccabnimiacioaaDoorW.PrintWords Go.Proofs.YtccabnimiacioaaDoorW.PrintLast Go.Proofs.YtccabnimiacioaaDoorW.PrintMore
attribute [local go_sem] max2_int min2_int max_two min_two max_three min_three max_four min_four   -- for this text's walks alone
set_option linter.unusedVariables false
set_option linter.unusedSimpArgs false

end Go.Proofs.YtccabnimiacioaaDoor.U
