/- Written by a program of this session's: functions that the law reaches, their walks, the row; no conditions beyond the statement's own. -/
import Derived.Test.YtgomkbdemakndaaPWordReckonsx0
import Derived.Test.YtgomkbdemakndaaPWordReckonsx1
import Derived.Test.YtgomkbdemakndaaPWordReckonsx2
import Derived.Test.YtgomkbdemakndaaPWordReckonsx3
import Derived.Test.YtgomkbdemakndaaPWordReckonsx4
import Derived.Test.YtgomkbdemakndaaPWordReckonsx5
namespace Go.Proofs.Ytgomkbdemakndaa.PWordReckons
open Go.RowKit Go.Proofs.YtgomkbdemakndaaW.PrintWords Go.Proofs.YtgomkbdemakndaaW.PrintLast Go.Proofs.YtgomkbdemakndaaW.PrintMore
attribute [local go_sem] max2_int min2_int max_two min_two max_three min_three max_four min_four   -- for this text's walks alone
set_option linter.unusedVariables false
set_option linter.unusedSimpArgs false

end Go.Proofs.Ytgomkbdemakndaa.PWordReckons
