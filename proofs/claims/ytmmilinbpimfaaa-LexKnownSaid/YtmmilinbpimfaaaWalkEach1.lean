/- Each's closure. Under no conditions beyond the statements' own. -/
import Derived.Test.YtmmilinbpimfaaaPureLex
import Derived.Test.YtmmilinbpimfaaaWWords
import Derived.Test.YtmmilinbpimfaaaPlainLex
import Derived.Test.YtmmilinbpimfaaaWalkBlanks
import Derived.Test.YtmmilinbpimfaaaWalkRange
import Derived.Test.YtmmilinbpimfaaaWalkEachC
import Derived.Test.YtmmilinbpimfaaaWalkTokens
import Derived.Test.YtmmilinbpimfaaaWalkOver
import Derived.Outline
import Derived.Deep.RegionWith
import Derived.Deep.QuietTactic
import Derived.BigQuiet
import Derived.Deep.LoopGhost
import Derived.StillTailTactics
import Derived.RangeFuncNested
import Derived.RangeFuncBound
import Derived.RangeFuncCalls
import Derived.RangeFuncLeaves
import Derived.Shelf.Abstract
import Derived.Shelf.RegionOpen
import Derived.WalkKit
import Derived.OwnWalkIn
import Derived.TacticsInMore
import Derived.LoopNIn
import Derived.LoopIn
import Derived.RangeFuncFrom
import Derived.Maps.OwnIn
import Derived.RangeFuncBox
import Derived.Sort.LoopGhostIn
import Derived.Sort.CutIn
import Derived.Sort.QuietIn
import Derived.Stop.RegionWithIn
set_option linter.unusedSimpArgs false
set_option linter.unusedVariables false
namespace Go.Proofs.Ytmmilinbpimfaaa.WalkEach1
open Go.RowKit Go.Proofs.Ytmmilinbpimfaaa.PLexKnown Go.Proofs.YtmmilinbpimfaaaW.PrintWords Go.Proofs.YtmmilinbpimfaaaW.PrintLast Go.Proofs.YtmmilinbpimfaaaW.PrintMore Go.Proofs.Ytmmilinbpimfaaa.Switch Go.Proofs.Ytmmilinbpimfaaa.Spec Go.Proofs.Ytmmilinbpimfaaa.PureLex
open Go.Proofs.Ytmmilinbpimfaaa.WalkBlanks
open Go.Proofs.Ytmmilinbpimfaaa.WalkRange
open Go.Proofs.Ytmmilinbpimfaaa.WalkEachC
open Go.Proofs.Ytmmilinbpimfaaa.WalkTokens
open Go.Proofs.Ytmmilinbpimfaaa.WalkOver
abbrev tk (x:S31):Array Value:=#[.int .u8 x.f0,.string x.f1,.int .u64 x.f2,.int .i64 x.f3,.int .i64 x.f4]
abbrev encT (ts:List S31) (c:Nat):Array Value:=#[.int .i64 (c:Int),.agg (tk (rd_T31 ts (c:Int)))]
attribute [local go_sem] Oper.semAt_some
set_option maxHeartbeats 8000000 in
set_option maxRecDepth 100000 in
theorem each1_c (s:ByteArray) (ts:List S31) (r2 r3:Int) (ht:toks s.data.toList=(ts,r2,r3)) (hlen:ts.length≤1000000) (b:Nat) (w:World) (hb:w.heap[b]?=some (.cells #[.string s] 9 (0,0))) (n:Nat) (h3:3≤n):EachOver Fence.wide n Try.prog 29 #[.pointer (some ⟨b,0,none⟩)] (encT ts) ts.length w:=by intro l J Jx W hW hJ hY h0;have hbW:=blk_below hb hW;have e0:=blk_cell hbW 0;simp only[List.getElem?_toArray,List.getElem?_cons_zero,List.getElem?_cons_succ]at e0;have HT:=Aside0.mk ht;have HL:=Aside0.mk hlen;clear ht hlen hb hbW;refine callsIn_of_wp Try.func29 rfl trivial ?_ rfl;simp only[Try.ntmps29,List.size_toArray,List.length_cons,List.length_nil,Nat.reduceAdd,Nat.reduceSub,Array.replicate_succ,Array.replicate_zero,List.push_toArray,List.append_toArray,List.nil_append,List.cons_append];gi_wp2_with (refine⟨trivial,fun _=>by omega, ?_⟩;gi_at_call 18;refine(callsIn_wide.2 (tokens_c s ts r2 r3 _ HT.out)).mono ?_;rintro e w1 ⟨v0,rfl,hr,hb1⟩;obtain⟨A,cap,rfl⟩:=Kd.R_slice hr);have HR:=Aside0.mk hr;have HB1:=Aside0.mk hb1;clear hr hb1;gi_loopg [16] ts.length (fun kq v16 wr=>∃(c:Nat) (A0:World),Aside0 (kq+c=ts.length)∧v16= .int .i64 (c:Int)∧Aside0 (J c A0)∧Aside0 (Below A0.heap.size A0 wr)∧Aside0 (Kd.R k31 31 wr W.heap.size (fun _=>True) (.slice A ts.length cap) ts)∧Aside0 (W.heap.size≤A0.heap.size));(case atStart=>exact⟨0,W,⟨rfl⟩,rfl,⟨h0⟩,HB1,HR,⟨Nat.le_refl _⟩⟩);case round=>clear HB1 HR;obtain⟨c,A0,HQ,rfl,HJ,HB,HR,HS⟩:=hrel;have hlen:=HL.out;by_cases hi:c<ts.length;(·obtain⟨hn,_,hC⟩:=Kd.R_reads' HR.out;obtain⟨ad,hA,hx0,hx1,hx2,hx3,hx4⟩:=at_T31 hC (c:Int) (by omega) (by omega);subst hA;simp only[Int.toNat_natCast]at hx0 hx1 hx2 hx3 hx4;have d1:decide ((c:Int)<(ts.length:Int))=true:=decide_eq_true (by omega);have d2:decide (c<ts.length)=true:=decide_eq_true hi;have q3:(0≤(c:Int))=True:=eq_true (by omega);have q1:((c:Int)<(ts.length:Int))=True:=eq_true (by omega);have q2:(c<ts.length)=True:=eq_true hi;(have hwc:IntKind.i64.wrap ((c:Int)+1)=(c:Int)+1:=by rw[i64_w,w64 (by omega) (by omega)]);clear hC hn;obtain⟨fn,tmps,assign,body,hy,hR⟩:=hY c A0 (wr.alloc (.cells (tk (rd_T31 ts (c:Int))) 31)) HJ.out (below_alloc HB.out _) HS.out hi;dsimp only[encT,tk]at hy hR;have hRR:=Aside0.mk hR;clear hR;gi_wp2;refine⟨fun _=>by omega,hRR.out.mono ?_⟩;rintro e W' (⟨rfl,hJ2,hkc⟩|⟨rfl,hJx⟩);(·(have hs1:wr.heap.size<(wr.alloc (.cells (tk (rd_T31 ts (c:Int))) 31)).heap.size:=by rw[World.size_alloc];omega);have hr2:Kd.R k31 31 W' W.heap.size (fun _=>True) (.slice (some ad) ts.length cap) ts:=Kd.R_mono (Kd.R_move (Kd.R_bound HR.out) (fun k hk=>(hkc.block k hk.2.1 (Nat.lt_trans hk.2.2.1 hs1)).trans ((below_alloc (Below.refl wr.heap.size wr) (.cells (tk (rd_T31 ts (c:Int))) 31)).block k hk.2.2.1))) (fun _ _=>trivial);have HR2:=Aside0.mk hr2;have HJ2:=Aside0.mk hJ2;have hle:W.heap.size≤W'.heap.size:=Nat.le_trans (Nat.le_trans HS.out HB.out.size) (Nat.le_trans (Nat.le_of_lt hs1) hkc.size);clear hr2 hJ2 hkc hs1 hx0 hx1 hx2 hx3 hx4 HR HB HJ hy;gi_wp2;gi_roundg (gk - 1);(case measure=>have:=HQ.out;omega);case rel=>exact⟨c+1,W',⟨by have:=HQ.out;omega⟩,rfl,⟨HJ2.out⟩,⟨Below.refl _ _⟩,HR2,⟨hle⟩⟩);·gi_wp2;refine bodyPost_ret (results_none rfl _ _ _) rfl ?_;exact⟨⟨_,rfl⟩,.inr ⟨c,hi,hJx⟩⟩);·have d1:decide ((c:Int)<(ts.length:Int))=false:=decide_eq_false (by omega);have d2:decide (c<ts.length)=false:=decide_eq_false hi;(have hcn:c=ts.length:=by have:=HQ.out;omega);rw[hcn]at HJ;gi_wp2;(go_end0);exact⟨⟨_,rfl⟩,.inl (hJ _ _ _ HJ.out HB.out)⟩
end Go.Proofs.Ytmmilinbpimfaaa.WalkEach1
