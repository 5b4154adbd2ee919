-- Written by wip/xprint.py (the kit's printer with hooks) out of the translation; Lean checks it.
import Derived.Test.YthlmhnlfcnpocaaDoorU0
import Derived.Test.YthlmhnlfcnpocaaDoorUL0x0
import Derived.Test.YthlmhnlfcnpocaaDoorUL0x1
namespace Go.Proofs.YthlmhnlfcnpocaaDoor.U
open Go.RowKit Go.Proofs.YthlmhnlfcnpocaaDoorW.PrintWords Go.Proofs.YthlmhnlfcnpocaaDoorW.PrintLast Go.Proofs.YthlmhnlfcnpocaaDoorW.PrintMore
attribute [local go_sem] max2_int min2_int max_two min_two max_three min_three max_four min_four   -- for this text's walks alone
set_option linter.unusedVariables false
set_option linter.unusedSimpArgs false

end Go.Proofs.YthlmhnlfcnpocaaDoor.U
