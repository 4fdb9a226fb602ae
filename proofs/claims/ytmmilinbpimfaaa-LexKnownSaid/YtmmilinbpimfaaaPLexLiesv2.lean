/- Written by a program of this session's: functions that the law reaches, their walks, the row; no conditions beyond the statement's own. -/
import Derived.Test.YtmmilinbpimfaaaGivenW
import Derived.Test.YtmmilinbpimfaaaPLexKnownx0
import Derived.Test.YtmmilinbpimfaaaPLexKnownx8
namespace Go.Proofs.Ytmmilinbpimfaaa.PLexLiesV
open Go.RowKit Go.Proofs.YtmmilinbpimfaaaW.PrintWords Go.Proofs.YtmmilinbpimfaaaW.PrintLast Go.Proofs.YtmmilinbpimfaaaW.PrintMore
open Go.Proofs.Ytmmilinbpimfaaa.PLexKnown Go.Proofs.Ytmmilinbpimfaaa.Given
attribute [local go_sem] max2_int min2_int max_two min_two max_three min_three max_four min_four
set_option linter.unusedVariables false
set_option linter.unusedSimpArgs false
attribute [local go_sem high] eqA31
mutual
def trammellaw03_LexLies.l0:Nat→ByteArray→Int→Int→List (S31)→Int→Int→Option (Bool)
 |0,_,_,_,_,_,_=>none
 |k+1,x0,x1,x2,x7,x10,x11=>if x11<(x7.length:Int)then(if 0≤x11 then(if((rd_T31 x7 x11).f3)<x10 then(trammellaw03_LexLies.j1 k x0 x1 x2 x7 x11 true)else(if((rd_T31 x7 x11).f4)≤((rd_T31 x7 x11).f3)then(trammellaw03_LexLies.j1 k x0 x1 x2 x7 x11 true)else(trammellaw03_LexLies.j1 k x0 x1 x2 x7 x11 (decide (((rd_T31 x7 x11).f4) > (x0.size:Int))))))else(none))else((trammelkit_Pick.f x1 (wrap64 ((x7.length:Int)+1))).bind fun t211=>(if t211<(x7.length:Int)then(if 0≤t211 then(trammellaw03_LexLies.j2 k x0 x2 x7 t211 ((rd_T31 x7 t211).f3))else(none))else(trammellaw03_LexLies.j2 k x0 x2 x7 t211 (x0.size:Int))))
def trammellaw03_LexLies.j1:Nat→ByteArray→Int→Int→List (S31)→Int→Bool→Option (Bool)
 |0,_,_,_,_,_,_=>none
 |k+1,x0,x1,x2,x7,x11,x85=>if x85=true then(none)else(if 0≤x11 then(if x11<(x7.length:Int)then((trammelkit_Pick.f x1 7).bind fun t197=>(if(Int.tmod x11 7)=t197 then(if 0≤((rd_T31 x7 x11).f3)then(if((rd_T31 x7 x11).f3)≤((rd_T31 x7 x11).f4)then(if((rd_T31 x7 x11).f4)≤(x0.size:Int)then((lex_Tokens.f (x0.extract (((rd_T31 x7 x11).f3):Int).toNat (((rd_T31 x7 x11).f4):Int).toNat)).bind fun bt200=>(if bt200.2.2=0 then(if(bt200.1.length:Int)=1 then(if 0<(bt200.1.length:Int)then(if((rd_T31 bt200.1 0).f0)=((rd_T31 x7 x11).f0)then(if((rd_T31 bt200.1 0).f1).toList=((rd_T31 x7 x11).f1).toList then(if((rd_T31 bt200.1 0).f2)=((rd_T31 x7 x11).f2)then(trammellaw03_LexLies.l0 k x0 x1 x2 x7 ((rd_T31 x7 x11).f4) (wrap64 (x11+1)))else(none))else(none))else(none))else(none))else(none))else(none)))else(none))else(none))else(none))else(trammellaw03_LexLies.l0 k x0 x1 x2 x7 ((rd_T31 x7 x11).f4) (wrap64 (x11+1)))))else(none))else(none))
def trammellaw03_LexLies.j2:Nat→ByteArray→Int→List (S31)→Int→Int→Option (Bool)
 |0,_,_,_,_,_=>none
 |k+1,x0,x2,x7,x15,x16=>(some (([(⟨#[32]⟩:ByteArray),(⟨#[10]⟩:ByteArray),(⟨#[9,32,47,47,32,120,10]⟩:ByteArray),(⟨#[13,47,47,10]⟩:ByteArray)]:List ByteArray):List ByteArray)).bind fun y213=>((trammelkit_Pick.f x2 4).bind fun t216=>(if 0≤t216 then(if t216<(y213.length:Int)then(if 0≤x16 then(if x16≤(x0.size:Int)then(if(x0.extract 0 (x16:Int).toNat).size+(rdOf ByteArray.empty y213 t216).size≤9223372036854775807 then(if((x0.extract 0 (x16:Int).toNat)++(rdOf ByteArray.empty y213 t216)).size+(x0.extract (x16:Int).toNat x0.size).size≤9223372036854775807 then((lex_Tokens.f (((x0.extract 0 (x16:Int).toNat)++(rdOf ByteArray.empty y213 t216))++(x0.extract (x16:Int).toNat x0.size))).bind fun bt218=>(if bt218.2.2=0 then(trammellaw03_LexLies.j3 k x7 x15 (rdOf ByteArray.empty y213 t216) bt218.1 ((bt218.1.length:Int) !=(x7.length:Int)))else(trammellaw03_LexLies.j3 k x7 x15 (rdOf ByteArray.empty y213 t216) bt218.1 true)))else(none))else(none))else(none))else(none))else(none))else(none)))
def trammellaw03_LexLies.j3:Nat→List (S31)→Int→ByteArray→List (S31)→Bool→Option (Bool)
 |0,_,_,_,_,_=>none
 |k+1,x7,x15,x17,x18,x199=>if x199=true then(none)else(trammellaw03_LexLies.l1 k x7 x15 x17 x18 0)
def trammellaw03_LexLies.l1:Nat→List (S31)→Int→ByteArray→List (S31)→Int→Option (Bool)
 |0,_,_,_,_,_=>none
 |k+1,x7,x15,x17,x18,x21=>if x21<(x7.length:Int)then(if 0≤x21 then(if x21≥x15 then(if x21<(x18.length:Int)then(if(!(((rd_T31 x18 x21).f0)==((rd_T31 x7 x21).f0))||(!((((rd_T31 x18 x21).f1).toList)==(((rd_T31 x7 x21).f1).toList))||(!(((rd_T31 x18 x21).f2)==((rd_T31 x7 x21).f2))||(!(((rd_T31 x18 x21).f3)==(wrap64 (((rd_T31 x7 x21).f3)+(x17.size:Int))))||(!(((rd_T31 x18 x21).f4)==(wrap64 (((rd_T31 x7 x21).f4)+(x17.size:Int)))))))))=true then(none)else(trammellaw03_LexLies.l1 k x7 x15 x17 x18 (wrap64 (x21+1))))else(none))else(if x21<(x18.length:Int)then(if(!(((rd_T31 x18 x21).f0)==((rd_T31 x7 x21).f0))||(!((((rd_T31 x18 x21).f1).toList)==(((rd_T31 x7 x21).f1).toList))||(!(((rd_T31 x18 x21).f2)==((rd_T31 x7 x21).f2))||(!(((rd_T31 x18 x21).f3)==((rd_T31 x7 x21).f3))||(!(((rd_T31 x18 x21).f4)==((rd_T31 x7 x21).f4)))))))=true then(none)else(trammellaw03_LexLies.l1 k x7 x15 x17 x18 (wrap64 (x21+1))))else(none)))else(none))else((trammellaw03_works.f).bind fun t223=>(some t223))
end
def trammellaw03_LexLies.f (k:Nat) (a0:ByteArray) (a1:Int) (a2:Int):Option (Bool):=if(a0.size:Int) > 8192 then(some true)else((lex_Tokens.f a0).bind fun bt186=>(if bt186.2.2=0 then(trammellaw03_LexLies.l0 k a0 a1 a2 bt186.1 0 0)else(if(bt186.1.length:Int)=0 then(if bt186.2.1≥0 then(if bt186.2.1≤(a0.size:Int)then((trammellaw03_works.f).bind fun t191=>(some t191))else(none))else(none))else(none))))
def trammellaw03_LexLies.Pure:Prop:=∀(a0:ByteArray) (a1:Int) (a2:Int),a0.size≤140737488351232→(Lit.int .i64 a1).wf=true→(Lit.int .i64 a2).wf=true→∃k,trammellaw03_LexLies.f k a0 a1 a2=some true
end Go.Proofs.Ytmmilinbpimfaaa.PLexLiesV
