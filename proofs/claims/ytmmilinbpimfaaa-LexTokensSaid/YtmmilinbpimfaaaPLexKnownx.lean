/- Written by a program of this session's: functions that the law reaches, their walks, the row; no conditions beyond the statement's own. -/
import Derived.Test.YtmmilinbpimfaaaPLexKnownx0
import Derived.Test.YtmmilinbpimfaaaPLexKnownx1
import Derived.Test.YtmmilinbpimfaaaPLexKnownx2
import Derived.Test.YtmmilinbpimfaaaPLexKnownx3
import Derived.Test.YtmmilinbpimfaaaPLexKnownx4
import Derived.Test.YtmmilinbpimfaaaPLexKnownx5
import Derived.Test.YtmmilinbpimfaaaPLexKnownx6
import Derived.Test.YtmmilinbpimfaaaPLexKnownx7
namespace Go.Proofs.Ytmmilinbpimfaaa.PLexKnown
open Go.RowKit Go.Proofs.YtmmilinbpimfaaaW.PrintWords Go.Proofs.YtmmilinbpimfaaaW.PrintLast Go.Proofs.YtmmilinbpimfaaaW.PrintMore
attribute [local go_sem] max2_int min2_int max_two min_two max_three min_three max_four min_four   -- for this text's walks alone
set_option linter.unusedVariables false
set_option linter.unusedSimpArgs false

end Go.Proofs.Ytmmilinbpimfaaa.PLexKnown
