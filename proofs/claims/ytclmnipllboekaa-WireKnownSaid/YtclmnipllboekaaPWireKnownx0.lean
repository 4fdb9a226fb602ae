/- Written by a program of this session's: functions that the law reaches, their walks, the row; no conditions beyond the statement's own. -/
import Derived.Test.YtclmnipllboekaaProg
import Derived.Below
import Derived.Deep.Draws
import Derived.Deep.AppendLies
import Derived.Maps.AppendAt
import Derived.OwnWalk
import Derived.Laws.BytesArg
import Derived.Laws.MakeOwn
import Derived.Laws.OwnMore
import Derived.Deep.OwnRows
import Derived.Tactics
import Derived.Lib.ConvBytes
import Derived.Laws.Slices
import Derived.WalkKit
import Derived.KernelRfl
import Derived.RowKit3
import Derived.Deep.LoopGhost
import Derived.Deep.QuietTactic
import Derived.BigQuiet
import Derived.WideLaws
import Derived.Deep.DeepCutAuto
import Derived.Deep.CutBlock
import Derived.Deep.RegionHeld3
import Derived.Laws.Rows
import Derived.Lib.AppendStr
import Derived.ArgAppend
import Derived.Laws.IdiomCopy
import Derived.OrdersHeld
import Derived.Laws.BitsLemmas
import Derived.RowKit
import Derived.Test.YtclmnipllboekaaWWords
import Derived.Test.YtclmnipllboekaaWLast
import Derived.Test.YtclmnipllboekaaWTab
import Derived.Test.YtclmnipllboekaaWFour
import Derived.Test.YtclmnipllboekaaWQPut
import Derived.Test.YtclmnipllboekaaWApart
import Derived.Test.YtclmnipllboekaaWArr
import Derived.Test.YtclmnipllboekaaWZeros
import Derived.Test.YtclmnipllboekaaWFoot
import Derived.Test.YtclmnipllboekaaWKept
import Derived.Test.YtclmnipllboekaaWShare
import Derived.Test.YtclmnipllboekaaWN
import Derived.Test.YtclmnipllboekaaWFootNe
import Derived.Test.YtclmnipllboekaaWAt
import Derived.Test.YtclmnipllboekaaWEqStruct
import Derived.Test.YtclmnipllboekaaWRepsOne
import Derived.Test.YtclmnipllboekaaWInv
import Derived.Test.YtclmnipllboekaaWInvWords
import Derived.Test.YtclmnipllboekaaWGuard
import Derived.Test.YtclmnipllboekaaWNEv
import Derived.Test.YtclmnipllboekaaWMore
import Derived.Test.YtclmnipllboekaaMine
namespace Go.Proofs.Ytclmnipllboekaa.PWireKnown
open Go.RowKit Go.Proofs.YtclmnipllboekaaW.PrintWords Go.Proofs.YtclmnipllboekaaW.PrintLast Go.Proofs.YtclmnipllboekaaW.PrintMore
attribute [local go_sem] max2_int min2_int max_two min_two max_three min_three max_four min_four   -- for this text's walks alone
set_option linter.unusedVariables false
set_option linter.unusedSimpArgs false



def errW : Option Int → Value
  | none => .nilIface
  | some c => .iface 0 (.int .i64 c)
theorem errW_none : errW none = .nilIface := rfl
theorem errW_some (c : Int) : errW (some c) = .iface 0 (.int .i64 c) := rfl

theorem info5 : (Try.prog.info? 5).map (fun i => (i.zero, i.size, i.bytes)) = some (some (.int .u8 0), 1, 1) := by kernel_rfl
-- the values' own types

end Go.Proofs.Ytclmnipllboekaa.PWireKnown
