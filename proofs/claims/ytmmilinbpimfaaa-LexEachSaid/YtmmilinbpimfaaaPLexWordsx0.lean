/- Written by a program of this session's: functions that the law reaches, their walks, the row; no conditions beyond the statement's own. -/
import Derived.Test.YtmmilinbpimfaaaProg
import Derived.Below
import Derived.Deep.Draws
import Derived.Deep.AppendLies
import Derived.Maps.AppendAt
import Derived.OwnWalk
import Derived.Laws.BytesArg
import Derived.Laws.MakeOwn
import Derived.Laws.OwnMore
import Derived.Deep.OwnRows
import Derived.Tactics
import Derived.Lib.ConvBytes
import Derived.Laws.Slices
import Derived.WalkKit
import Derived.KernelRfl
import Derived.RowKit3
import Derived.Deep.LoopGhost
import Derived.Deep.QuietTactic
import Derived.BigQuiet
import Derived.WideLaws
import Derived.Deep.DeepCutAuto
import Derived.Deep.CutBlock
import Derived.Deep.RegionHeld3
import Derived.Laws.Rows
import Derived.Lib.AppendStr
import Derived.ArgAppend
import Derived.Laws.IdiomCopy
import Derived.OrdersHeld
import Derived.Laws.BitsLemmas
import Derived.RowKit
import Derived.Test.YtmmilinbpimfaaaWWords
import Derived.Test.YtmmilinbpimfaaaWLast
import Derived.Test.YtmmilinbpimfaaaWTab
import Derived.Test.YtmmilinbpimfaaaSlim
import Derived.Test.YtmmilinbpimfaaaWEqStruct
import Derived.Test.YtmmilinbpimfaaaWRepsOne
import Derived.Test.YtmmilinbpimfaaaWGuard
import Derived.Test.YtmmilinbpimfaaaMine
import Derived.Test.YtmmilinbpimfaaaPLexKnownx0
import Derived.Test.YtmmilinbpimfaaaPLexKnownx1
import Derived.Test.YtmmilinbpimfaaaGiven
namespace Go.Proofs.Ytmmilinbpimfaaa.PLexWords
open Go.RowKit Go.Proofs.YtmmilinbpimfaaaW.PrintWords Go.Proofs.YtmmilinbpimfaaaW.PrintLast Go.Proofs.YtmmilinbpimfaaaW.PrintMore
open Go.Proofs.Ytmmilinbpimfaaa.PLexKnown Go.Proofs.Ytmmilinbpimfaaa.Given
attribute [local go_sem] max2_int min2_int max_two min_two max_three min_three max_four min_four   -- for this text's walks alone
set_option linter.unusedVariables false
set_option linter.unusedSimpArgs false

end Go.Proofs.Ytmmilinbpimfaaa.PLexWords
