-- Written by wip/xprint.py (the kit's printer with hooks) out of the translation; Lean checks it.
import Derived.Test.YtfkianfddjccgaaDoorU0
import Derived.Test.YtfkianfddjccgaaDoorUL0x0
import Derived.Test.YtfkianfddjccgaaDoorUL0x1
import Derived.Test.YtfkianfddjccgaaDoorUL0x2
import Derived.Test.YtfkianfddjccgaaDoorUL0x3
import Derived.Test.YtfkianfddjccgaaDoorUL0x4
import Derived.Test.YtfkianfddjccgaaDoorUL0x5
import Derived.Test.YtfkianfddjccgaaDoorUL0x6
import Derived.Test.YtfkianfddjccgaaDoorUL0x7
namespace Go.Proofs.YtfkianfddjccgaaDoor.U
open Go.RowKit Go.Proofs.YtfkianfddjccgaaDoorW.PrintWords Go.Proofs.YtfkianfddjccgaaDoorW.PrintLast Go.Proofs.YtfkianfddjccgaaDoorW.PrintMore
attribute [local go_sem] max2_int min2_int max_two min_two max_three min_three max_four min_four   -- for this text's walks alone
set_option linter.unusedVariables false
set_option linter.unusedSimpArgs false

end Go.Proofs.YtfkianfddjccgaaDoor.U
