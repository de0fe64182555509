-- PRINTED by print.py (a twelfth state) out of the translation. Not trusted: Lean checks it.
import Derived.Test.YtfncdkklhmjgoaaBx0
import Derived.Test.YtfncdkklhmjgoaaBx1
import Derived.Test.YtfncdkklhmjgoaaBx2
namespace Go.Proofs.Ytfncdkklhmjgoaa.B
open Go.RowKit Go.Proofs.YtfncdkklhmjgoaaW.PrintWords Go.Proofs.YtfncdkklhmjgoaaW.PrintLast Go.Proofs.YtfncdkklhmjgoaaW.PrintMore
attribute [local go_sem] max2_int min2_int max_two min_two max_three min_three max_four min_four   -- for this text's walks alone
set_option linter.unusedVariables false
set_option linter.unusedSimpArgs false

end Go.Proofs.Ytfncdkklhmjgoaa.B
