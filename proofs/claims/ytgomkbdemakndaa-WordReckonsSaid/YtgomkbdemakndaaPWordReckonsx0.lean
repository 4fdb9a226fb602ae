/- Written by a program of this session's: functions that the law reaches, their walks, the row; no conditions beyond the statement's own. -/
import Derived.Test.YtgomkbdemakndaaProg
import Derived.Below
import Derived.Deep.Draws
import Derived.Deep.AppendLies
import Derived.Maps.AppendAt
import Derived.OwnWalk
import Derived.Laws.BytesArg
import Derived.Laws.MakeOwn
import Derived.Laws.OwnMore
import Derived.Deep.OwnRows
import Derived.Tactics
import Derived.Lib.ConvBytes
import Derived.Laws.Slices
import Derived.WalkKit
import Derived.KernelRfl
import Derived.RowKit3
import Derived.Deep.LoopGhost
import Derived.Deep.QuietTactic
import Derived.BigQuiet
import Derived.WideLaws
import Derived.Deep.DeepCutAuto
import Derived.Deep.CutBlock
import Derived.Deep.RegionHeld3
import Derived.Laws.Rows
import Derived.Lib.AppendStr
import Derived.ArgAppend
import Derived.Laws.IdiomCopy
import Derived.OrdersHeld
import Derived.Laws.BitsLemmas
import Derived.RowKit
import Derived.Test.YtgomkbdemakndaaWWords
import Derived.Test.YtgomkbdemakndaaWLast
import Derived.Test.YtgomkbdemakndaaWTab
import Derived.Test.YtgomkbdemakndaaWFour
import Derived.Test.YtgomkbdemakndaaWQPut
import Derived.Test.YtgomkbdemakndaaWApart
import Derived.Test.YtgomkbdemakndaaWArr
import Derived.Test.YtgomkbdemakndaaWZeros
import Derived.Test.YtgomkbdemakndaaWFoot
import Derived.Test.YtgomkbdemakndaaWKept
import Derived.Test.YtgomkbdemakndaaWShare
import Derived.Test.YtgomkbdemakndaaWN
import Derived.Test.YtgomkbdemakndaaWFootNe
import Derived.Test.YtgomkbdemakndaaWAt
import Derived.Test.YtgomkbdemakndaaWEqStruct
import Derived.Test.YtgomkbdemakndaaWRepsOne
import Derived.Test.YtgomkbdemakndaaWInv
import Derived.Test.YtgomkbdemakndaaWInvWords
import Derived.Test.YtgomkbdemakndaaWGuard
import Derived.Test.YtgomkbdemakndaaWNEv
import Derived.Test.YtgomkbdemakndaaWMore
import Derived.Test.YtgomkbdemakndaaMine
namespace Go.Proofs.Ytgomkbdemakndaa.PWordReckons
open Go.RowKit Go.Proofs.YtgomkbdemakndaaW.PrintWords Go.Proofs.YtgomkbdemakndaaW.PrintLast Go.Proofs.YtgomkbdemakndaaW.PrintMore
attribute [local go_sem] max2_int min2_int max_two min_two max_three min_three max_four min_four   -- for this text's walks alone
set_option linter.unusedVariables false
set_option linter.unusedSimpArgs false



def errW : Option Int → Value
  | none => .nilIface
  | some c => .iface 0 (.int .i64 c)
theorem errW_none : errW none = .nilIface := rfl
theorem errW_some (c : Int) : errW (some c) = .iface 0 (.int .i64 c) := rfl

-- the values' own types

end Go.Proofs.Ytgomkbdemakndaa.PWordReckons
