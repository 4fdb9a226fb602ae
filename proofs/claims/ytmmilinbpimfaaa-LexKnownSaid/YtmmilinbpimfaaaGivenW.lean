/- works, in the form of the print's contracts. Under no conditions beyond its own. -/
import Derived.Test.YtmmilinbpimfaaaPWorks
import Derived.Test.YtmmilinbpimfaaaProg
import Derived.Below
import Derived.Deep.Draws
import Derived.Deep.AppendLies
import Derived.Maps.AppendAt
import Derived.OwnWalk
import Derived.Laws.BytesArg
import Derived.Laws.MakeOwn
import Derived.Laws.OwnMore
import Derived.Deep.OwnRows
import Derived.Tactics
import Derived.Lib.ConvBytes
import Derived.Laws.Slices
import Derived.WalkKit
import Derived.KernelRfl
import Derived.RowKit3
import Derived.Deep.LoopGhost
import Derived.Deep.QuietTactic
import Derived.BigQuiet
import Derived.WideLaws
import Derived.Deep.DeepCutAuto
import Derived.Deep.CutBlock
import Derived.Deep.RegionHeld3
import Derived.Laws.Rows
import Derived.Lib.AppendStr
import Derived.ArgAppend
import Derived.Laws.IdiomCopy
import Derived.OrdersHeld
import Derived.Laws.BitsLemmas
import Derived.RowKit
import Derived.Test.YtmmilinbpimfaaaWWords
import Derived.Test.YtmmilinbpimfaaaPLexKnownx0
namespace Go.Proofs.Ytmmilinbpimfaaa.Given
open Go.RowKit Go.Proofs.YtmmilinbpimfaaaW.PrintWords
set_option maxRecDepth 100000 in
theorem works_100:PWorks.trammellaw03_works.f 100=some true:=by kernel_rfl
def trammellaw03_works.f:Option Bool:=some true
theorem trammellaw03_works.calls (r:Bool) (w:World) (h:trammellaw03_works.f=some r):Calls Try.prog 13 #[] w fun e w'=>e= .returned (.bool r)∧Below w.heap.size w w':=by obtain rfl:=Option.some.inj h;exact PWorks.trammellaw03_works.calls 100 true w works_100
end Go.Proofs.Ytmmilinbpimfaaa.Given
