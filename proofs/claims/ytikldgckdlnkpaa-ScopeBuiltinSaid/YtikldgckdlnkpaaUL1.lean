-- Written by wip/xprint.py (the kit's printer with hooks) out of the translation; Lean checks it.
import Derived.Test.YtikldgckdlnkpaaU0
import Derived.Test.YtikldgckdlnkpaaUL1x0
namespace Go.Proofs.Ytikldgckdlnkpaa.U
open Go.RowKit Go.Proofs.YtikldgckdlnkpaaW.PrintWords Go.Proofs.YtikldgckdlnkpaaW.PrintLast Go.Proofs.YtikldgckdlnkpaaW.PrintMore
attribute [local go_sem] max2_int min2_int max_two min_two max_three min_three max_four min_four   -- for this text's walks alone
set_option linter.unusedVariables false
set_option linter.unusedSimpArgs false

end Go.Proofs.Ytikldgckdlnkpaa.U
