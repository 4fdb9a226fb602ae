/- Written by a program of this session's: functions that the law reaches, their walks, the row; no conditions beyond the statement's own. -/
import Derived.Test.YtclmnipllboekaaPWireOrderx0
import Derived.Test.YtclmnipllboekaaPWireOrderx1
import Derived.Test.YtclmnipllboekaaPWireOrderx2
namespace Go.Proofs.Ytclmnipllboekaa.PWireOrder
open Go.RowKit Go.Proofs.YtclmnipllboekaaW.PrintWords Go.Proofs.YtclmnipllboekaaW.PrintLast Go.Proofs.YtclmnipllboekaaW.PrintMore
attribute [local go_sem] max2_int min2_int max_two min_two max_three min_three max_four min_four   -- for this text's walks alone
set_option linter.unusedVariables false
set_option linter.unusedSimpArgs false

end Go.Proofs.Ytclmnipllboekaa.PWireOrder
