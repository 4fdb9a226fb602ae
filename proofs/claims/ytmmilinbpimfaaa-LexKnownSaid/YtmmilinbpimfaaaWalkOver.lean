/- A range over a closure that counts up and writes nothing that lay. Under no conditions beyond the statements' own. -/
import Derived.Test.YtmmilinbpimfaaaPureLex
import Derived.Test.YtmmilinbpimfaaaWWords
import Derived.Outline
import Derived.Deep.RegionWith
import Derived.Deep.QuietTactic
import Derived.BigQuiet
import Derived.Deep.LoopGhost
import Derived.StillTailTactics
import Derived.RangeFuncNested
import Derived.RangeFuncBound
import Derived.RangeFuncCalls
import Derived.RangeFuncLeaves
import Derived.Shelf.Abstract
import Derived.Shelf.RegionOpen
import Derived.WalkKit
import Derived.OwnWalkIn
import Derived.TacticsInMore
import Derived.LoopNIn
import Derived.LoopIn
import Derived.RangeFuncFrom
import Derived.Maps.OwnIn
import Derived.RangeFuncBox
import Derived.Sort.LoopGhostIn
import Derived.Sort.CutIn
import Derived.Sort.QuietIn
import Derived.Stop.RegionWithIn
set_option linter.unusedSimpArgs false
set_option linter.unusedVariables false
namespace Go.Proofs.Ytmmilinbpimfaaa.WalkOver
open Go.RowKit Go.Proofs.Ytmmilinbpimfaaa.PLexKnown Go.Proofs.YtmmilinbpimfaaaW.PrintWords Go.Proofs.YtmmilinbpimfaaaW.PrintLast Go.Proofs.YtmmilinbpimfaaaW.PrintMore Go.Proofs.Ytmmilinbpimfaaa.Switch Go.Proofs.Ytmmilinbpimfaaa.Spec Go.Proofs.Ytmmilinbpimfaaa.PureLex
structure KeptC (m0 m1:Nat) (A B:World):Prop where
 size:A.heap.size≤B.heap.size
 block:∀k,m0≤k→k<m1→B.heap[k]?=A.heap[k]?
section
variable {F:Fence} {n:Nat} {P:Program}
def EachOver (F:Fence) (n:Nat) (P:Program) (gf:Nat) (lb:Array Value) (encs:Nat→Array Value) (N:Nat) (w:World):Prop:=
 ∀(l:Nat) (J Jx:Nat→World→Prop) (W:World),Below w.heap.size w W→(∀s A B,J s A→Below A.heap.size A B→J s B)→
  (∀c W0 W1,J c W0→Below W0.heap.size W0 W1→W.heap.size≤W0.heap.size→c<N→YieldAt F (n - 1) P l (encs c) W1 fun e W'=>
   (e= .returned (.bool true)∧J (c+1) W'∧KeptC W.heap.size W1.heap.size W1 W')∨(e= .returned (.bool false)∧Jx c W'))→
  J 0 W→
  CallsIn F n P gf (#[.func (.yield l) #[] #[]]++lb) W fun e W'=>(∃v,e= .returned v)∧(J N W'∨∃c,c<N∧Jx c W')
def ownPostC (m0:Nat) (I:Nat→World→Prop) (Ix:Code→Nat→World→Prop) (c:Nat) (m1:Nat) (W:World):Exit→Act→World→Prop
 | .normal,_,W'=>KeepsOthers W W'∧KeptC m0 m1 W W'∧I (c+1) W'
 | .ret,_,W'=>KeepsOthers W W'∧Ix .ret c W'
 | .exit id,_,W'=>KeepsOthers W W'∧Ix (.exit id) c W'
 | .goto t,_,W'=>KeepsOthers W W'∧Ix (.goto t) c W'
 | .panic _,_,_=>False
 | .outgrown,_,_=>False
theorem wpIn_rangeFunc_over {g0:Operand} {ps:Array Tmp} {assign body:Code} {Q:Exit→Act→World→Prop} {a:Act} {w:World} (hro:F.round=none) (h1:1≤n) {gf:Nat} {lb:Array Value} (hg:a.eval g0= .func (.func gf) #[] lb) (hFg:F.fn gf) (eg:∀args w,(callFunc gf args).run P w= .ok (.enter gf args) w) {encs:Nat→Array Value} {N:Nat} (hseq:EachOver F (n - 1) P gf lb encs N w) (hps:∀x,(encs x).size=ps.size) (I:Nat→World→Prop) (Ix:Code→Nat→World→Prop) (hI:∀s A B,I s A→Below A.heap.size A B→I s B) (hIp:∀s A l o o',I s A→w.heap.size≤l→A.heap[l]?=some o→o.isCells=false→I s (A.putObj l o')) (hIxp:∀c s A l o o',Ix c s A→w.heap.size≤l→A.heap[l]?=some o→o.isCells=false→Ix c s (A.putObj l o')) (Ax:Nat→Nat→Act→World→Prop) (hAx:∀x m a' A l o o',Ax x m a' A→A.heap[l]?=some o→o.isCells=false→Ax x m a' (A.putObj l o')) (h0:I 0 w) (hassign:∀(l:Nat) (x:Nat) (W:World) (K:Act→World→Prop),(∀a' W',Below W.heap.size W W'→Ax x W.heap.size a' W'→K a' W')→assign.wpIn (F.inRound l) (n - 1 - 1) P (Exit.then K (fun _ _ _=>False)) {tmps:=(ps.zip (encs x)).foldl (fun t (p,v)=>t.setIfInBounds p v) a.tmps,defers:=[]} W) (hbody:∀(l:Nat) (x:Nat) (a':Act) (m:Nat) (w2:World),w.heap.size+2≤m→x<N→I x w2→m≤w2.heap.size→Ax x m a' w2→body.wpIn (F.inRound l) (n - 1 - 1) P (ownPostC w.heap.size I Ix x m w2) a' w2) (hdone:∀(D:Nat) (W:World),I N W→W.heap[D]?=some (.deferred (some []))→w.heap.size≤D→Q .normal {a with defers:={target:= .collected D,args:=#[]}::a.defers} W) (hstop:∀(D:Nat) (c:Code) (x:Nat) (W:World),x<N→Ix c x W→W.heap[D]?=some (.deferred (some []))→w.heap.size≤D→c.wpIn F n P Q {a with defers:={target:= .collected D,args:=#[]}::a.defers} W):(Code.rangeFunc g0 ps assign body).wpIn F n P Q a w:=by
 refine wpIn_rangeFunc ?_;intro fn hfn;rw[hro];obtain⟨rec,hrec⟩:∃rec:LoopState→Option Code→Loop,rec=fun st pe=>{state:=st,pending:=pe,fn,tmps:=a.tmps,params:=ps,assign,body,defers:=w.heap.size}:=⟨_,rfl⟩;obtain⟨W1,hW1⟩:∃W1,(w.alloc (.deferred (some []))).alloc (.loop (rec .ready none))=W1:=⟨_,rfl⟩;(have hL1:W1.heap[w.heap.size+1]?=some (.loop (rec .ready none)):=by rw[←hW1];have:=World.alloc_heap_new (w.alloc (.deferred (some []))) (.loop (rec .ready none));rwa[World.size_alloc]at this);(have hK1:W1.heap[w.heap.size]?=some (.deferred (some [])):=by rw[←hW1];exact(Below.heap_alloc _ _ _ (by simp)).trans (World.alloc_heap_new w _));(have hb1:Below w.heap.size w W1:=by rw[←hW1];exact(((Below.refl _ w).alloc (Nat.le_refl _) _).alloc (by simp) _));(have hs1:W1.heap.size=w.heap.size+2:=by rw[←hW1];simp[World.size_alloc]);have hI1:I 0 W1:=hI _ _ _ h0 hb1;refine⟨w.heap.size+1,[{target:= .collected w.heap.size,args:=#[]}],W1,{target:= .fn (.func gf) lb,args:=#[.func (.yield (w.heap.size+1)) #[] #[]]},W1,gf,#[.func (.yield (w.heap.size+1)) #[] #[]]++lb,W1, ?_, ?_, ?_, ?_,fun _=>h1, ?_⟩;(·rw[←hW1,hrec];exact run_enterLoop_outer _ _ _ _ _);(·simp only[resolve,hg];simp[go_sem]);(·intro f' hf';simp[Target.leads]at hf';subst hf';exact hFg);·simp[invoke,go_sem,eg]
 ·refine(hseq (w.heap.size+1) (fun pre W=>I pre W∧W.heap[w.heap.size+1]?=some (.loop (rec .ready none))∧W.heap[w.heap.size]?=some (.deferred (some []))) (fun pre W=>∃c,Ix c pre W∧W.heap[w.heap.size+1]?=some (.loop (rec .done (some c)))∧W.heap[w.heap.size]?=some (.deferred (some []))) W1 hb1 (fun s A B hs hst=>⟨hI s A B hs.1 hst,(hst.block _ (Array.getElem?_eq_some_iff.1 hs.2.1).1).trans hs.2.1,(hst.block _ (Array.getElem?_eq_some_iff.1 hs.2.2).1).trans hs.2.2⟩) ?_ ⟨hI1,hL1,hK1⟩).mono ?_
  ·
   rintro x V0 W ⟨hi0,hl0,hk0⟩ hst hsz0 hlen
   have hlt0:w.heap.size+1<V0.heap.size:=(Array.getElem?_eq_some_iff.1 hl0).1
   have hl:W.heap[w.heap.size+1]?=some (.loop (rec .ready none)):=(hst.block _ hlt0).trans hl0
   have hk:W.heap[w.heap.size]?=some (.deferred (some [])):=(hst.block _ (by omega)).trans hk0
   have hi:I x W:=hI _ _ _ hi0 hst
   have hlt:w.heap.size+1<W.heap.size:=Nat.lt_of_lt_of_le hlt0 hst.size
   have hy:=run_yield (P:=P) (args:=encs x) hl (by rw[hrec];exact hps x)
   rw[hrec]at hy
   refine⟨fn,_,assign,body,hy,roundIn_of_wpIn hfn (hassign _ x W _ (fun a' Wa hab hax=> ?_))⟩
   have hla:Wa.heap[w.heap.size+1]?=some (.loop (rec .ready none)):=(hab.block _ hlt).trans hl
   have hka:Wa.heap[w.heap.size]?=some (.deferred (some [])):=(hab.block _ (by omega)).trans hk
   have hlta:w.heap.size+1<Wa.heap.size:=Nat.lt_of_lt_of_le hlt hab.size
   refine⟨_,run_beginRound hla (by rw[hrec]), ?_⟩
   have hl2:(Wa.putObj (w.heap.size+1) (.loop {rec .ready none with state:= .busy})).heap[w.heap.size+1]?=some (.loop {rec .ready none with state:= .busy}):=World.putObj_heap_same hlta
   have hk2:(Wa.putObj (w.heap.size+1) (.loop {rec .ready none with state:= .busy})).heap[w.heap.size]?=some (.deferred (some [])):=(World.putObj_heap_other (by omega)).trans hka
   refine wpIn_mono (hbody _ x a' W.heap.size _ (by omega) hlen (hIp _ _ _ _ _ (hI _ _ _ hi hab) (by omega) hla rfl) (by simpa using hab.size) (hAx _ _ _ _ _ _ _ hax hla rfl)) ?_
   have fin:∀(jump:Option Code) (W3:World),KeepsOthers (Wa.putObj (w.heap.size+1) (.loop {rec .ready none with state:= .busy})) W3→
     (Instr.endRound (w.heap.size+1) jump).run P W3= .ok (.bool jump.isNone) (W3.putObj (w.heap.size+1) (.loop (rec (if jump.isNone then .ready else .done) jump)))∧
     W3.heap[w.heap.size+1]?=some (.loop {rec .ready none with state:= .busy})∧
     (W3.putObj (w.heap.size+1) (.loop (rec (if jump.isNone then .ready else .done) jump))).heap[w.heap.size+1]?=some (.loop (rec (if jump.isNone then .ready else .done) jump))∧
     (W3.putObj (w.heap.size+1) (.loop (rec (if jump.isNone then .ready else .done) jump))).heap[w.heap.size]?=some (.deferred (some [])):=fun jump W3 hk3=>by
    have hl3:=hk3.same _ _ hl2 rfl
    have:=run_endRound (P:=P) jump hl3
    rw[hrec]at this ⊢
    exact⟨this,by rw[hrec]at hl3;exact hl3,World.putObj_heap_same (Array.getElem?_eq_some_iff.1 hl3).1,(World.putObj_heap_other (by omega)).trans (hk3.same _ _ hk2 rfl)⟩
   rintro e a3 W3 hp
   cases e with
   |normal=>
    obtain⟨hk3,hkp3,hi3⟩:=hp
    obtain⟨hr,hl3,hl4,hk4⟩:=fin none W3 hk3
    refine⟨_,_,hr,.inl ⟨rfl,⟨hIp _ _ _ _ _ hi3 (by omega) hl3 rfl,hl4,hk4⟩,⟨?_,fun k hk' hkl=> ?_⟩⟩⟩
    ·have z1:=hkp3.size
     have z2:=hab.size
     simp at z1 ⊢
     omega
    ·have hne:k≠w.heap.size+1:=by omega
     have e1:(W3.putObj (w.heap.size+1) (.loop (rec (if(none:Option Code).isNone then .ready else .done) none))).heap[k]?=W3.heap[k]?:=World.putObj_heap_other hne
     have e2:=hkp3.block k (by omega) hkl
     have e3:(Wa.putObj (w.heap.size+1) (.loop {rec .ready none with state:= .busy})).heap[k]?=Wa.heap[k]?:=World.putObj_heap_other hne
     exact e1.trans (e2.trans (e3.trans (hab.block k hkl)))
   |ret=>
    obtain⟨hk3,hi3⟩:=hp
    obtain⟨hr,hl3,hl4,hk4⟩:=fin (some .ret) W3 hk3
    exact⟨_,_,hr,.inr ⟨rfl,.ret,hIxp _ _ _ _ _ _ hi3 (by omega) hl3 rfl,hl4,hk4⟩⟩
   |exit id=>
    obtain⟨hk3,hi3⟩:=hp
    obtain⟨hr,hl3,hl4,hk4⟩:=fin (some (.exit id)) W3 hk3
    exact⟨_,_,hr,.inr ⟨rfl,.exit id,hIxp _ _ _ _ _ _ hi3 (by omega) hl3 rfl,hl4,hk4⟩⟩
   |goto t=>
    obtain⟨hk3,hi3⟩:=hp
    obtain⟨hr,hl3,hl4,hk4⟩:=fin (some (.goto t)) W3 hk3
    exact⟨_,_,hr,.inr ⟨rfl,.goto t,hIxp _ _ _ _ _ _ hi3 (by omega) hl3 rfl,hl4,hk4⟩⟩
   |panic ch=>exact hp.elim
   |outgrown=>exact hp.elim
  ·
   rintro e W2 ⟨⟨v,rfl⟩,(⟨hi,hl,hk⟩|⟨x,hx,c,hi,hl,hk⟩)⟩
   ·exact⟨none,_,by have:=run_endLoop (P:=P) hl (by rw[hrec];simp);rw[hrec]at this;exact this,hdone _ _ (hIp _ _ _ _ _ hi (by omega) hl rfl) ((World.putObj_heap_other (by omega)).trans hk) (Nat.le_refl _)⟩
   ·exact⟨some c,_,by have:=run_endLoop (P:=P) hl (by rw[hrec];simp);rw[hrec]at this;exact this,hstop _ c x _ hx (hIxp _ _ _ _ _ _ hi (by omega) hl rfl) ((World.putObj_heap_other (by omega)).trans hk) (Nat.le_refl _)⟩
end
end Go.Proofs.Ytmmilinbpimfaaa.WalkOver
