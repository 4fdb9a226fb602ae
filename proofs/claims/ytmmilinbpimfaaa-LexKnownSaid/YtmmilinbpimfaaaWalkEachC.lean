/- The contract of (*scanner).each: a range over a function. Under no conditions beyond the statements' own. -/
import Derived.Test.YtmmilinbpimfaaaPureLex
import Derived.Test.YtmmilinbpimfaaaWWords
import Derived.Test.YtmmilinbpimfaaaPlainLex
import Derived.Test.YtmmilinbpimfaaaWalkBlanks
import Derived.Test.YtmmilinbpimfaaaWalkSign
import Derived.Test.YtmmilinbpimfaaaWalkNumber
import Derived.Test.YtmmilinbpimfaaaWalkText
import Derived.Test.YtmmilinbpimfaaaWalkNext
import Derived.Test.YtmmilinbpimfaaaWalkRange
import Derived.Outline
import Derived.Deep.RegionWith
import Derived.Deep.QuietTactic
import Derived.BigQuiet
import Derived.Deep.LoopGhost
import Derived.StillTailTactics
import Derived.RangeFuncNested
import Derived.RangeFuncBound
import Derived.RangeFuncCalls
import Derived.RangeFuncLeaves
import Derived.Shelf.Abstract
import Derived.Shelf.RegionOpen
import Derived.WalkKit
import Derived.OwnWalkIn
import Derived.TacticsInMore
import Derived.LoopNIn
import Derived.LoopIn
import Derived.RangeFuncFrom
import Derived.Sort.LoopGhostIn
import Derived.Sort.CutIn
import Derived.Sort.QuietIn
import Derived.Stop.RegionWithIn
set_option linter.unusedSimpArgs false
set_option linter.unusedVariables false
namespace Go.Proofs.Ytmmilinbpimfaaa.WalkEachC
open Go.RowKit Go.Proofs.Ytmmilinbpimfaaa.PLexKnown Go.Proofs.YtmmilinbpimfaaaW.PrintWords Go.Proofs.YtmmilinbpimfaaaW.PrintLast Go.Proofs.YtmmilinbpimfaaaW.PrintMore Go.Proofs.Ytmmilinbpimfaaa.Switch Go.Proofs.Ytmmilinbpimfaaa.Spec Go.Proofs.Ytmmilinbpimfaaa.PureLex
open Go.Proofs.Ytmmilinbpimfaaa.WalkBlanks
open Go.Proofs.Ytmmilinbpimfaaa.WalkSign
open Go.Proofs.Ytmmilinbpimfaaa.WalkNumber
open Go.Proofs.Ytmmilinbpimfaaa.WalkText
open Go.Proofs.Ytmmilinbpimfaaa.WalkNext
open Go.Proofs.Ytmmilinbpimfaaa.WalkRange
structure Item where
 k:Int
 t:ByteArray
 n:Int
 a:Int
 b:Int
 x:Int
 y:Int
abbrev tokv (i:Item):Array Value:=#[.int .u8 i.k,.string i.t,.int .u64 i.n,.int .i64 i.a,.int .i64 i.b]
abbrev fltv (i:Item):Array Value:=#[.int .i64 i.x,.int .i64 i.y]
abbrev encs (i:Item):Array Value:=#[.agg (tokv i),.agg (fltv i)]
def Fits:Nat×Res→Item→Prop
 |(o,.ok k t n m),i=>i=⟨(k:Int),⟨t.toArray⟩,(n:Int),(o:Int),((o+m:Nat):Int),0,0⟩
 |(o,.bad d e),i=>i.x=((o+d:Nat):Int)∧i.y=(e:Int)
theorem tok_item {at_:Nat} {r:Res} {e:Ending} (h:Tok at_ r e):∃i,Fits (at_,r) i∧e= .returned (.tuple (encs i)):=by cases r with|ok k t n m=>exact⟨_,rfl,h⟩|bad d er=>obtain⟨k,t,n,a,b,h⟩:=h;exact⟨⟨k,t,n,a,b,_,_⟩,⟨rfl,rfl⟩,h⟩
theorem StepBut.set {g:Nat} {A B:World} (h:StepBut g A B) (j:Nat) (v:Value):StepBut g A (B.setCell ⟨g,j,none⟩ v):=
 ⟨h.os,h.tape,h.output,by simpa [World.setCell]using h.size,fun k hk hne=>(Below.heap_setCell B ⟨g,j,none⟩ v k hne).trans (h.block k hk hne)⟩
theorem blanks_s (s:ByteArray) (hn:s.size≤1000000) (g at0:Nat) (h0:at0≤s.size) (w:World) (hg:Scan w g s at0):Calls Try.prog 46 #[.pointer (some ⟨g,0,none⟩)] w fun e w'=>e= .returned (.tuple #[])∧Scan w' g s (s.size - (sk (D s at0)).length)∧StepBut g w w':=by refine(blanks_c s hn g at0 h0 {w with heap:=#[]} w ⟨hg,Nat.zero_le _⟩ ⟨rfl,rfl,rfl,Nat.zero_le _,fun k hk=>absurd hk (Nat.not_lt_zero _)⟩).mono ?_;rintro e w' ⟨he,hi,hb,hk⟩;exact⟨he,hi.1,⟨hb.os,hb.tape,hb.output,hk.1,fun k hlt hne=>hk.2 k hlt hne (by simp)⟩⟩
theorem skip_suffix:∀(n:Nat) (l:B),skip n l<:+l|0,l=>List.suffix_refl l|_+1,[]=>List.suffix_refl _|n+1,c::t=>by simp only[skip];split;(·exact(skip_suffix n _).trans (List.dropWhile_suffix _));·split;(·exact(skip_suffix n t).trans (List.suffix_cons c t));·exact List.suffix_refl _
theorem D_sk {s:ByteArray} {o:Nat} {c:UInt8} {t:B} (h:sk (D s o)=c::t):s.size - (sk (D s o)).length<s.size∧D s (s.size - (sk (D s o)).length)=c::t∧(sk (D s o)).length≤(D s o).length:=by have h1:sk (D s o)<:+D s o:=skip_suffix _ _;have h2:D s o<:+s.data.toList:=List.drop_suffix _ _;have h3:=List.suffix_iff_eq_drop.1 (h1.trans h2);have h4:(sk (D s o)).length≤s.data.toList.length:=(h1.trans h2).length_le;rw[←size_len]at h3 h4;refine⟨?_, ?_,h1.length_le⟩;(·rw[h]at h4 ⊢;simp only[List.length_cons]at h4 ⊢;omega);·rw[←h];exact h3.symm
inductive FitAll:List (Nat×Res)→List Item→Prop
 |nil:FitAll [] []
 |cons {r i rs is}:Fits r i→FitAll rs is→FitAll (r::rs) (i::is)
theorem FitAll.snoc {rs:List (Nat×Res)} {is:List Item} (h:FitAll rs is) {r:Nat×Res} {i:Item} (hf:Fits r i):FitAll (rs++[r]) (is++[i]):=by induction h with|nil=>exact .cons hf .nil|cons h1 _ ih=>exact .cons h1 ih
attribute [local go_sem] Oper.semAt_some
set_option maxHeartbeats 8000000 in
set_option maxRecDepth 100000 in
theorem each_c (s:ByteArray) (hn:s.size≤1000000) (g:Nat) (w:World) (hg:Scan w g s 0) (n:Nat) (h3:3≤n):EachStops Fence.wide n Try.prog 30 #[.pointer (some ⟨g,0,none⟩)] g encs (fun i=>i.y≠0) (fun xs=>FitAll (items 32770 0 0 s.data.toList) xs) (fun pre=>∃k,FitAll ((items 32770 0 0 s.data.toList).take k) pre) 40000 w:=by intro l J Jx W hW hJ hY h0;have hgW:Scan W g s 0:=blk_below hg hW;obtain⟨ALL,hALL⟩:∃ALL,items 32770 0 0 s.data.toList=ALL:=⟨_,rfl⟩;rw[hALL];have HALL:=Aside0.mk hALL;clear hALL;refine callsIn_of_wp Try.func30 rfl trivial ?_ rfl;simp only[Try.ntmps30,List.size_toArray,List.length_cons,List.length_nil,Nat.reduceAdd,Nat.reduceSub,Array.replicate_succ,Array.replicate_zero,List.push_toArray,List.append_toArray,List.nil_append,List.cons_append];gi_wp2_with (refine⟨trivial,fun _=>by omega, ?_⟩;gi_at_call 46;refine(callsIn_wide.2 (blanks_s s hn g 0 (Nat.zero_le _) _ hgW)).mono ?_;rintro e w1 ⟨rfl,hg1,hs1⟩);gi_loopg [4] 32770 (fun kq v4 wr=>∃(c o':Nat) (rs:List (Nat×Res)) (pre:List Item) (A0:World),Aside0 (kq+c=32770)∧Aside0 (c≤32768)∧v4= .int .i64 (c:Int)∧Aside0 (pre.length=c)∧Aside0 (o'≤s.size)∧Aside0 (FitAll rs pre)∧Aside0 (ALL=rs++items kq c o' (D s o'))∧Aside0 (Scan wr g s (s.size - (sk (D s o')).length))∧Aside0 (J pre A0)∧Aside0 (StepBut g A0 wr));(case atStart=>exact⟨0,0,[],[],W,⟨rfl⟩,⟨by omega⟩,rfl,⟨rfl⟩,⟨Nat.zero_le _⟩,⟨.nil⟩,⟨by rw[←HALL.out,List.nil_append,show D s 0=s.data.toList from List.drop_zero]⟩,⟨hg1⟩,⟨h0⟩,⟨hs1⟩⟩);case round=>clear hg1 hs1;obtain⟨c,o',rs,pre,A0,HQ,HC,rfl,HL,HO,HF,HI,HG,HJ,HS⟩:=hrel;obtain⟨p,hp⟩:∃p,s.size - (sk (D s o')).length=p:=⟨_,rfl⟩;rw[hp]at HG;have hcz_0:=cellS49_0 HG.out;have hcz_1:=cellS49_1 HG.out;have HSZ:=Aside0.mk hn;(rcases hk:sk (D s o')with _|⟨ch,t⟩);(·(have hps:p=s.size:=by rw[hk]at hp;simpa using hp.symm);have c1:decide ((p:Int)<(s.size:Int))=false:=decide_eq_false (by omega);have c2:decide (p<s.size)=false:=decide_eq_false (by omega);(have hend:ALL=rs:=by(have h1:gk=(gk - 1)+1:=by have:=HQ.out;have:=HC.out;omega);rw[HI.out,h1,items,hk];simp);have HE:=Aside0.mk hend;clear hps hend hp hk hn;gi_wp2;gi_quiet (fail);gi_wp2;(go_end0);exact⟨⟨_,rfl⟩,.inl ⟨pre,by rw[HE.out];exact HF.out,hJ _ _ _ HJ.out (HS.out.trans (StepBut.of_below (pw_below_drewN (Below.refl _ _) _)))⟩⟩);·obtain⟨hps,hD,hle⟩:=D_sk hk;rw[hp]at hps hD;rw[D_len,hk,List.length_cons]at hle;(have hoff:o'+((D s o').length - (t.length+1))=p:=by rw[D_len];rw[hk,List.length_cons]at hp;have:=HO.out;omega);have c1:decide ((p:Int)<(s.size:Int))=true:=decide_eq_true (by omega);have c2:decide (p<s.size)=true:=decide_eq_true hps;(have h1:gk=(gk - 1)+1:=by have:=HQ.out;have:=HC.out;omega);have hit:=HI.out;rw[h1,items,hk]at hit;simp only[hoff]at hit;have HIT:=Aside0.mk hit;have HPS:=Aside0.mk hps;have HDP:=Aside0.mk hD;have HP:=Aside0.mk hp;clear hit hps hD hle hoff h1 hk hp hn;by_cases h32:c=32768;(·subst h32;have HX:=HIT.out;rw[if_pos rfl]at HX;clear HIT;gi_wp2;gi_quiet (fail);obtain⟨fn,tmps,assign,body,hy,hR⟩:=hY pre ⟨0,⟨#[]⟩,0,0,0,(p:Int),3⟩ A0 (wr.drewN nq) HJ.out (HS.out.trans (StepBut.of_below (pw_below_drewN (Below.refl _ _) _))) (by have:=HL.out;omega);dsimp only[encs,tokv,fltv]at hy;gi_wp2;refine⟨fun _=>by omega,hR.mono ?_⟩;rintro e W' (⟨rfl,hns,_,_⟩|⟨rfl,hJx⟩);(·exact absurd (by decide:(3:Int)≠0) hns);·gi_wp2;refine bodyPost_ret (results_none rfl _ _ _) rfl ?_;exact⟨⟨_,rfl⟩,.inr ⟨_,⟨ALL.length,by rw[List.take_length,HX];exact HF.out.snoc ⟨rfl,rfl⟩⟩,hJx⟩⟩);·have HX:=HIT.out;rw[if_neg h32]at HX;have n32:decide ((c:Int)=32768)=false:=decide_eq_false (by omega);have n32':((c:Int)==32768)=false:=n32;have H32:=Aside0.mk h32;have HXX:=Aside0.mk HX;clear HX HIT h32;gi_wp2;gi_quiet (fail);gi_wp2_with (refine⟨trivial,fun _=>by omega, ?_⟩;gi_at_call 47;refine(callsIn_wide.2 (next_c s HSZ.out g p HPS.out _ (blk_below HG.out (pw_below_drewN (Below.refl _ _) _)))).mono ?_;rintro e w2 ⟨ht_,hb2⟩;obtain⟨it,hfit,rfl⟩:=tok_item ht_;clear ht_);have hnb:=hb2;have hbw:=below_step (pw_below_drewN (Below.refl wr.heap.size wr) nq) hb2;have hs2:=HS.out.trans (StepBut.of_below (below_alloc (below_alloc hbw (.cells #[.int .u8 it.k,.string it.t,.int .u64 it.n,.int .i64 it.a,.int .i64 it.b] 31)) (.cells #[.int .i64 it.x,.int .i64 it.y] 51)));have hg2:=blk_alloc (blk_alloc (blk_below HG.out hbw) (.cells #[.int .u8 it.k,.string it.t,.int .u64 it.n,.int .i64 it.a,.int .i64 it.b] 31)) (.cells #[.int .i64 it.x,.int .i64 it.y] 51);have hk5:=blk_alloc (blk_new w2 (.cells #[.int .u8 it.k,.string it.t,.int .u64 it.n,.int .i64 it.a,.int .i64 it.b] 31)) (.cells #[.int .i64 it.x,.int .i64 it.y] 51);have hA0:A0.heap.size≤w2.heap.size:=Nat.le_trans HS.out.size (below_size hbw);(have hcl:pre.length<40000:=by have:=HL.out;have:=HC.out;omega);obtain⟨gb,hgb⟩:∃gb,w2.heap.size=gb:=⟨_,rfl⟩;rw[hgb]at hk5 hA0 ⊢;obtain⟨W1,hW1⟩:∃Z,(w2.alloc (.cells #[.int .u8 it.k,.string it.t,.int .u64 it.n,.int .i64 it.a,.int .i64 it.b] 31)).alloc (.cells #[.int .i64 it.x,.int .i64 it.y] 51)=Z:=⟨_,rfl⟩;rw[hW1]at hs2 hg2 hk5 ⊢;obtain⟨fn,tmps,assign,body,hy,hR⟩:=hY pre it A0 W1 HJ.out hs2 hcl;dsimp only[encs,tokv,fltv]at hy;clear hW1 hnb hgb hs2 hbw hb2;rw[hy];gi_wp2;refine⟨fun _=>by omega,hR.mono ?_⟩;rintro e W' (⟨rfl,hns,hJ2,hkb⟩|⟨rfl,hJx⟩);(·(have hy0:it.y=0:=by simpa using hns);rw[HDP.out]at hfit;(obtain⟨kk,x,v,m,hnx⟩:∃k x v m,nxt (ch::t)= .ok k x v m:=by cases hnx:nxt (ch::t)with|ok k x v m=>exact⟨k,x,v,m,rfl⟩|bad d e=>rw[hnx]at hfit;exact absurd (hfit.2.symm.trans hy0) (by have:=nxt_bad hnx;omega));rw[hnx]at hfit;have hml:=nxt_len hnx;(have hpm:p+m≤s.size:=by have:=D_len s p;rw[HDP.out]at this;have:=HPS.out;omega);obtain rfl:it=_:=hfit;have hgp:Scan W' g s p:=(hkb.block g (.inl rfl) (blk_lt hg2)).trans hg2;have h5p:=(hkb.block gb (.inr hA0) (blk_lt hk5)).trans hk5;have hcz_5:W'.cell? ⟨gb,4,none⟩=some (.int .i64 ((p+m:Nat):Int)):=(blk_cell h5p 4).trans rfl;have hcz_0:=cellS49_0 hgp;have hcz_1:=cellS49_1 hgp;have hfz_1:=blk_frozen hgp 1;have hgq:Scan (W'.setCell ⟨g,1,none⟩ (.int .i64 ((p+m:Nat):Int))) g s (p+m):=blk_put hgp 1 _ rfl;(have hwc:IntKind.i64.wrap ((c:Int)+1)=(c:Int)+1:=by rw[i64_w,w64 (by omega) (by have:=HC.out;omega)]);have HJ2:=Aside0.mk hJ2;have HPM:=Aside0.mk hpm;have HGQ:=Aside0.mk hgq;have HNX:=Aside0.mk hnx;clear hJ2 hpm hgq hkb hgp h5p hml hnx hk5 hg2 hA0 hns hy0 hR hy;gi_wp2_with (refine⟨trivial,fun _=>by omega, ?_⟩;gi_at_call 46;refine(callsIn_wide.2 (blanks_s s HSZ.out g (p+m) HPM.out _ HGQ.out)).mono ?_;rintro e w4 ⟨rfl,hg4,hs4⟩);gi_roundg (gk - 1);(case measure=>have:=HQ.out;have:=HC.out;have:=H32.out;omega);case rel=>exact⟨c+1,p+m,rs++[(p,.ok kk x v m)],pre++[⟨(kk:Int),⟨x.toArray⟩,(v:Int),(p:Int),((p+m:Nat):Int),0,0⟩],W',⟨by have:=HQ.out;have:=HC.out;have:=H32.out;omega⟩,⟨by have:=HC.out;have:=H32.out;omega⟩,rfl,⟨by rw[List.length_append,HL.out];rfl⟩,⟨HPM.out⟩,⟨HF.out.snoc (r:=(p,.ok kk x v m)) rfl⟩,⟨by rw[HXX.out,HNX.out,←HDP.out];simp only[D_drop];simp⟩,⟨hg4⟩,⟨HJ2.out⟩,⟨(StepBut.set (StepBut.refl g W') 1 _).trans hs4⟩⟩);·(have hpre:∃rest,ALL=rs++(p,nxt (ch::t))::rest:=by rw[HXX.out];cases nxt (ch::t)with|ok=>exact⟨_,rfl⟩|bad=>exact⟨_,rfl⟩);obtain⟨rest,hrest⟩:=hpre;have HRE:=Aside0.mk hrest;rw[HDP.out]at hfit;have HFI:=Aside0.mk hfit;clear hrest hfit hk5 hg2 hA0 hR hy;gi_wp2;refine bodyPost_ret (results_none rfl _ _ _) rfl ?_;exact⟨⟨_,rfl⟩,.inr ⟨_,⟨rs.length+1,by rw[HRE.out,List.take_append,List.take_of_length_le (by omega),Nat.add_sub_cancel_left];exact HF.out.snoc HFI.out⟩,hJx⟩⟩
end Go.Proofs.Ytmmilinbpimfaaa.WalkEachC
