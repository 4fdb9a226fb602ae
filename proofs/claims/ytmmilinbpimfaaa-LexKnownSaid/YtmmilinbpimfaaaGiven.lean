/- Contracts of this seat's own in the form of the print's. Under no conditions beyond their own. -/
import Derived.Test.YtmmilinbpimfaaaWalkTokens
import Derived.Test.YtmmilinbpimfaaaWalkQuote
import Derived.Test.YtmmilinbpimfaaaWalkSpoil
namespace Go.Proofs.Ytmmilinbpimfaaa.Given
open Go.RowKit Go.Proofs.Ytmmilinbpimfaaa.PLexKnown Go.Proofs.YtmmilinbpimfaaaW.PrintWords Go.Proofs.YtmmilinbpimfaaaW.PrintLast Go.Proofs.YtmmilinbpimfaaaW.PrintMore Go.Proofs.Ytmmilinbpimfaaa.Spec
def lex_Tokens.f (a0:ByteArray):Option (List S31×Int×Int):=some (WalkTokens.toks a0.data.toList)
theorem lex_Tokens.calls (a0:ByteArray) (r1:List S31) (r2 r3:Int) (w:World) (h:lex_Tokens.f a0=some (r1,r2,r3)):
  Calls Try.prog 18 #[.string a0] w fun e w'=>∃v0_:Value,e= .returned (.tuple #[v0_,.int .i64 r2,.int .i64 r3])∧Kd.R k31 31 w' w.heap.size (fun _=>True) v0_ r1∧Below w.heap.size w w':=WalkTokens.tokens_c a0 r1 r2 r3 w (Option.some.inj h)
def lex_Quote.f (a0:ByteArray):Option ByteArray:=if a0.size≤1000000 then some ⟨(WalkQuote.qt a0.data.toList).toArray⟩else none
theorem lex_Quote.calls (a0:ByteArray) (r:ByteArray) (w:World) (h:lex_Quote.f a0=some r):Calls Try.prog 21 #[.string a0] w fun e w'=>e= .returned (.string r)∧Below w.heap.size w w':=by unfold lex_Quote.f at h;split at h;(·rename_i hn;obtain rfl:=Option.some.inj h;exact WalkQuote.quote_c a0 hn w);·cases h
def trammelkit_SpoilTokens.f (l0:List S31):Option Unit:=if l0.length≤1000000 then some ()else none
theorem trammelkit_SpoilTokens.calls (P0_:Nat→Prop) (u0_:Value) (l0:List S31) (w0 w:World) (hB:Below w0.heap.size w0 w) (ho0:Kd.R k31 31 w w0.heap.size P0_ u0_ l0) (h:trammelkit_SpoilTokens.f l0=some ()):Calls Try.prog 20 #[u0_] w fun e w'=>e= .returned (.tuple #[])∧Below w0.heap.size w0 w'∧Kept w w' (fun k_=>P0_ k_):=by unfold trammelkit_SpoilTokens.f at h;split at h;(·rename_i hn;exact WalkSpoil.spoil_c P0_ u0_ l0 w0 w hB ho0 hn);·cases h
end Go.Proofs.Ytmmilinbpimfaaa.Given
