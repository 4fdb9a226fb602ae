/- Written by a program of this session's: functions that the law reaches, their walks, the row; no conditions beyond the statement's own. -/
import Derived.Test.YtmmilinbpimfaaaPLexKnownz4
import Derived.Test.YtmmilinbpimfaaaPlainNames
import Derived.Test.YtmmilinbpimfaaaRows
import Derived.WalkKit
import Derived.ProofKit
import Derived.OpenShut
import Derived.ShutString
import Derived.ChangeOld
import Derived.Below
import Derived.SizedLaws
section
namespace Go.Proofs.Ytmmilinbpimfaaa.Pure
open Go.RowKit Go.Proofs.Ytmmilinbpimfaaa.PLexKnown Go.Proofs.Ytmmilinbpimfaaa.PLexKnownZ Go.Proofs.Ytmmilinbpimfaaa.Given Go.Proofs.YtmmilinbpimfaaaW.PrintWords Go.Proofs.YtmmilinbpimfaaaW.PrintLast Go.Proofs.Ytmmilinbpimfaaa.Spec Go.Proofs.Ytmmilinbpimfaaa.PureLex Go.Proofs.Ytmmilinbpimfaaa.WalkTokens Go.Proofs.Ytmmilinbpimfaaa.PlainNames
def semis (n:Nat):B:=List.replicate n 59
theorem semi_sk (t:B):sk (59::t)=59::t:=sk_stop (by cases t<;>rfl) rfl
theorem semi_nxt (t:B):nxt (59::t)= .ok 4 [59] 0 1:=by
 rw[nxt_cons];rw[if_neg (by decide),if_neg (by decide),if_neg (by decide)];unfold sgn
 rw[if_neg (by
  rintro⟨_,h⟩
  cases t with
  |nil=>exact absurd h (by decide)
  |cons c t=>
   simp only[List.take_succ_cons,List.take_zero,two,List.mem_cons,List.cons.injEq]at h
   simp at h)]
 rfl
def sm:Nat→Nat→List (Nat×Res)
 |_,0=>[]
 |o,m+1=>(o,.ok 4 [59] 0 1)::sm (o+1) m
theorem sm_len:∀(m o:Nat),(sm o m).length=m|0,_=>rfl|m+1,o=>by rw[sm,List.length_cons,sm_len m]
theorem items_semi:∀(m f n o:Nat) (r:B),n+m≤32768→items (f+m) n o (semis m++r)=sm o m++items f (n+m) (o+m) r|0,f,n,o,r,_=>rfl|m+1,f,n,o,r,h=>by have e:semis (m+1)++r=[]++(59::(semis m++r)):=rfl;rw[e,show f+(m+1)=(f+m)+1 from rfl,items_ok (g:=[]) (r:=59::(semis m++r)) (semi_sk _) (by simp) (by omega) (semi_nxt _)];rw[List.drop_succ_cons,List.drop_zero,List.length_nil,Nat.add_zero,items_semi m f (n+1) (o+1) r (by omega),sm,show n+1+m=n+(m+1) by omega,show o+1+m=o+(m+1) by omega];rfl
theorem fin_semi:∀(m o:Nat) (r:List (Nat×Res)) (acc:List S31),fin (sm o m++r) acc=fin r (acc++(sm o m).map toT)|0,_,r,acc=>by simp[sm]|m+1,o,r,acc=>by rw[sm,List.cons_append,fin,fin_semi m (o+1) r,List.map_cons,List.append_assoc];rfl
theorem toks_semi {m F:Nat} (hF:F=2+m) (hm:m=32768) (r:B) (hr:m+r.length≤65536) (hI:items F 0 0 (semis m++r)=items 32770 0 0 (semis m++r)):toks (semis m++r)=fin (items 2 m m r) ((sm 0 m).map toT):=by unfold toks;rw[if_neg (by rw[List.length_append,semis,List.length_replicate];omega),←hI,hF,items_semi m 2 0 0 r (by omega),fin_semi,Nat.zero_add,List.nil_append]
theorem big (s:B) (h:65536<s.length):toks s=([],0,3):=if_pos h
theorem at_end {m o:Nat} {r:B} (h:sk r=[]) (acc:List S31):fin (items 2 m o r) acc=(acc,0,0):=by rw[items_end h];rfl
theorem at_limit {m:Nat} (hm:m=32768) {r:B} {c:UInt8} {t:B} (h:sk r=c::t) (acc:List S31):fin (items 2 m m r) acc=([],((m+(r.length - (t.length+1)):Nat):Int),3):=by rw[items,h];simp only;rw[if_pos hm,fin];rfl
def S (n:Nat):ByteArray:=⟨(semis n).toArray⟩
theorem S_data (n:Nat):(S n).data.toList=semis n:=rfl
theorem S_size (n:Nat):(S n).size=n:=by rw[size_len,S_data,semis,List.length_replicate]
theorem semis_add (n m:Nat):semis n++semis m=semis (n+m):=List.replicate_append_replicate
theorem S_app (n m:Nat):S n++S m=S (n+m):=by refine WalkSign.str_eq ?_;rw[ByteArray.data_append,Array.toList_append,S_data,S_data,semis_add]
theorem S_ext {n m:Nat} (h:m≤n):((S n).extract 0 m).data.toList=semis m:=by rw[Lib.extract_data,List.drop_zero,Nat.sub_zero,S_data,semis,List.take_replicate,Nat.min_eq_left h];rfl
theorem l0_eq (k:Nat) (x1:ByteArray):trammellaw03_limits.l0 (k+1) x1=(if(x1.size:Int)<65536 then(if x1.size+x1.size≤9223372036854775807 then(trammellaw03_limits.l0 k (x1++x1))else(none))else(if 0≤32768 then(if 32768≤(x1.size:Int)then((lex_Tokens.f (x1.extract 0 32768)).bind fun bt352=>(if 0≤32769 then(if 32769≤(x1.size:Int)then((lex_Tokens.f (x1.extract 0 32769)).bind fun bt357=>(if(x1.extract 0 32768).size+2≤9223372036854775807 then((lex_Tokens.f ((x1.extract 0 32768)++(⟨#[32,35]⟩:ByteArray))).bind fun bt362=>(if x1.size+1≤9223372036854775807 then((lex_Tokens.f (x1++(⟨#[59]⟩:ByteArray))).bind fun bt367=>(if(x1.extract 0 32768).size+5≤9223372036854775807 then((lex_Tokens.f ((x1.extract 0 32768)++(⟨#[32,47,47,32,35]⟩:ByteArray))).bind fun bt372=>(if 0≤5 then(if 5≤(x1.size:Int)then(if(x1.extract 0 5).size+1≤9223372036854775807 then(if((x1.extract 0 5)++(⟨#[35]⟩:ByteArray)).size+x1.size≤9223372036854775807 then((lex_Tokens.f (((x1.extract 0 5)++(⟨#[35]⟩:ByteArray))++x1)).bind fun bt377=>(if bt352.2.2=0 then(if bt352.2.1=0 then(if(bt352.1.length:Int)=32768 then(if bt357.2.2=3 then(if bt357.2.1=32768 then(if bt362.2.2=3 then(if bt362.2.1=32769 then(if bt367.2.2=3 then(if bt367.2.1=0 then(if bt372.2.2=0 then(if bt372.2.1=0 then(if(bt372.1.length:Int)=32768 then(if bt377.2.2=3 then(if bt377.2.1=0 then((trammellaw03_works.f).bind fun t382=>(some t382))else(none))else(none))else(none))else(none))else(none))else(none))else(none))else(none))else(none))else(none))else(none))else(none))else(none))else(none)))else(none))else(none))else(none))else(none)))else(none)))else(none)))else(none)))else(none))else(none)))else(none))else(none))):=rfl
theorem dbl {n k:Nat} (h:n<65536):trammellaw03_limits.l0 (k+1) (S n)=trammellaw03_limits.l0 k (S (n+n)):=by rw[l0_eq,S_size,if_pos (by omega),if_pos (by omega),S_app]
theorem dbls {M:Nat} (hM:M=65536):∀(j k n:Nat),n*2 ^ j=M→1≤n→trammellaw03_limits.l0 (k+1+j) (S n)=trammellaw03_limits.l0 (k+1) (S M)|0,k,n,h,_=>by(have:n=M:=by simpa using h);rw[this]|j+1,k,n,h,h1=>by(have e:(n+n)*2 ^ j=M:=by rw[←h,Nat.pow_succ,←Nat.two_mul,Nat.mul_comm 2 n,Nat.mul_assoc,Nat.mul_comm 2 (2 ^ j)]);have h2:1≤2 ^ j:=Nat.one_le_two_pow;(have h3:n+n≤M:=by rw[←e];exact Nat.le_mul_of_pos_right _ h2);rw[show k+1+(j+1)=(k+1+j)+1 from rfl,dbl (by omega),dbls hM j k (n+n) e (by omega)]
theorem toks_ok1 {m:Nat} (hm:m=32768) (r:B) (h:sk r=[]) (hr:m+r.length≤65536):∃l:List S31,toks (semis m++r)=(l,0,0)∧l.length=m:=by refine⟨(sm 0 m).map toT, ?_,by rw[List.length_map,sm_len]⟩;rw[toks_semi (F:=2+m) rfl hm r hr (by rw[hm]),at_end h]
theorem toks_no {m:Nat} (hm:m=32768) {r:B} {c:UInt8} {t:B} (h:sk r=c::t) (hr:m+r.length≤65536):toks (semis m++r)=([],((m+(r.length - (t.length+1)):Nat):Int),3):=by rw[toks_semi (F:=2+m) rfl hm r hr (by rw[hm]),at_limit hm h]
theorem last {M m k:Nat} (hM:M=65536) (hm:m=32768):trammellaw03_limits.l0 (k+1) (S M)=some true:=by have f0:∀X:ByteArray,lex_Tokens.f X=some (toks X.data.toList):=fun _=>rfl;have d1:((S M).extract 0 m).data.toList=semis m:=S_ext (by omega);(have s1:((S M).extract 0 m).size=m:=by rw[size_len,d1,semis,List.length_replicate]);(have d2:((S M).extract 0 (m+1)).data.toList=semis m++[59]:=by rw[S_ext (by omega),←semis_add m 1];rfl);(have d3:((S M).extract 0 m++(⟨#[32,35]⟩:ByteArray)).data.toList=semis m++[32,35]:=by rw[ByteArray.data_append,Array.toList_append,d1]);(have d4:((S M).extract 0 m++(⟨#[32,47,47,32,35]⟩:ByteArray)).data.toList=semis m++[32,47,47,32,35]:=by rw[ByteArray.data_append,Array.toList_append,d1]);(have b1:65536<(S M++(⟨#[59]⟩:ByteArray)).data.toList.length:=by rw[←size_len,ByteArray.size_append,S_size,hM];decide);(have s5:((S M).extract 0 5).size=5:=by rw[size_len,S_ext (by omega),semis,List.length_replicate]);(have b2:65536<(((S M).extract 0 5++(⟨#[35]⟩:ByteArray))++S M).data.toList.length:=by rw[←size_len,ByteArray.size_append,ByteArray.size_append,S_size,s5,hM];decide);obtain⟨l1,t1,n1⟩:=toks_ok1 hm [] rfl (by rw[List.length_nil];omega);rw[List.append_nil]at t1;have t2:=toks_no hm (r:=[59]) (c:=59) (t:=[]) (semi_sk []) (by rw[hm];decide);have t3:=toks_no hm (r:=[32,35]) (c:=35) (t:=[]) (by decide) (by rw[hm];decide);obtain⟨l4,t4,n4⟩:=toks_ok1 hm [32,47,47,32,35] (by decide) (by rw[hm];decide);have e1:=f0 ((S M).extract 0 m);have e2:=f0 ((S M).extract 0 (m+1));have e3:=f0 ((S M).extract 0 m++(⟨#[32,35]⟩:ByteArray));have e4:=f0 ((S M).extract 0 m++(⟨#[32,47,47,32,35]⟩:ByteArray));have e5:=f0 (S M++(⟨#[59]⟩:ByteArray));have e6:=f0 (((S M).extract 0 5++(⟨#[35]⟩:ByteArray))++S M);rw[d1,t1]at e1;rw[d2,t2]at e2;rw[d3,t3]at e3;rw[d4,t4]at e4;rw[big _ b1]at e5;rw[big _ b2]at e6;have hSM:(S M).size=M:=S_size M;rw[l0_eq];rw[hm]at e1 e2 e3 e4 s1;rw[hm]at n1 n4;generalize S M=x at*;rw[hM]at hSM;rw[if_neg (by rw[hSM];decide),if_pos (Nat.zero_le _),if_pos (by rw[hSM];decide),e1];simp only[Option.bind_some];rw[if_pos (Nat.zero_le _),if_pos (by rw[hSM];decide),e2];simp only[Option.bind_some];rw[if_pos (by rw[s1];decide),e3];simp only[Option.bind_some];rw[if_pos (by rw[hSM];decide),e5];simp only[Option.bind_some];rw[if_pos (by rw[s1];decide),e4];simp only[Option.bind_some];rw[if_pos (Nat.zero_le _),if_pos (by rw[hSM];decide),if_pos (by rw[s5];decide),if_pos (by rw[ByteArray.size_append,s5,hSM];decide),e6];simp only[Option.bind_some];rw[n1,n4];clear e1 e2 e3 e4 e5 e6 hSM t1 t2 t3 t4 n1 n4 d1 d2 d3 d4 b1 b2 s1 s5 f0;simp[trammellaw03_works.f]
theorem limits_t (k:Nat):trammellaw03_limits.f (k+1+16)=some true:=by have h:=dbls (M:=65536) rfl 16 k 1 (by decide) (Nat.le_refl 1);exact h.trans (last rfl rfl)
set_option maxRecDepth 100000 in
theorem shown_t:trammellaw03_shown.f 5000=some true:=by kernel_rfl
set_option maxRecDepth 100000 in
theorem bytes_t:trammellaw03_bytes.f 5000=some true:=by kernel_rfl
set_option maxRecDepth 100000 in
theorem beside_t:trammellaw03_beside.f 5000=some true:=by kernel_rfl
theorem LexKnown:trammellaw03_LexKnown.Pure:=by refine⟨5000, ?_⟩;unfold trammellaw03_LexKnown.f;rw[shown_t,bytes_t,beside_t,show trammellaw03_limits.f 5000=some true from limits_t 4983];rfl
end Go.Proofs.Ytmmilinbpimfaaa.Pure
end
section
namespace Go.Proofs.Ytmmilinbpimfaaa.lexKnown
open Go.ChangeShapes Go.WideShapes Go.ChangeAt Go.RowKit
open Go.ChangeMaps (open_string shut_string)
set_option linter.unusedVariables false
theorem own:ownKnob Try.prog.godebug=none:=by kernel_rfl
set_option maxRecDepth 100000 in
theorem lifted (os:Os) (started:os.Started) (H:Type) (enc:TypeId×Value→H):ReturnsInHanded {} Try.checked os 4 .any (Rows.lexKnownSpec.pre6 enc Try.prog Try.f4 Rows.lexKnownRow.domain false) (Rows.lexKnownSpec.post enc Try.prog Try.f4 false true false false):=by refine returnsInHanded_of_change_sized (C:=Try.checked) own started (by kernel_rfl) Try.func4 (ChangeSpec.witness6 (enc:=enc) (C:=Try.checked) false ⟨#[],#[],[]⟩ 8 (by kernel_rfl) (by kernel_rfl) (by kernel_rfl) (by kernel_rfl)) ?_;intro W base args ds gs before hval0 hW hcnd hsz0 _;have hsz:(DataW.weightsEach Try.prog (Try.f4.params.toList++Rows.lexKnownSpec.plain.varTypes Try.prog) (ds++gs)).all (·≤reachBytes)=true:=hsz0;have hval:∀(j:Nat) t v,Try.f4.params[j]?=some t→args[j]?=some v→Value.okWide Try.prog W .any base t v:=hval0;have hW':=hW;obtain⟨p,q,hA0,hV,rfl,hfz,hnd⟩:=hW;have hA:DataW.TrodAll enc Try.prog W 0 (fun _=>true) true Try.f4.params.toList args.toList ds p:=hA0;rw[Try.params4]at hA hval hsz;obtain⟨rfl,rfl,rfl⟩:=trodAll_none hA;obtain⟨rfl,rfl⟩:=trodVars_none hV;clear hA0 hval0 hsz0 hsz;refine(PLexKnownZ.trammellaw03_LexKnown.walk Pure.LexKnown W).mono fun e W' ⟨he,bel⟩=> ?_;subst he;exact⟨_,rfl,_,_,_,[],_,[],hW',trodAll_mk1 (shut_bool Try.underlying4 _),trodAll_mk0,rfl,bel.frame _,fun h=>by cases h⟩
theorem over:Rows.lexKnownRow.holds Try.pinned (OpenSpec.ofChange Rows.lexKnownSpec):=
 OpenClaim.holds_of_wide 4 Try.f4 rfl rfl rfl rfl rfl rfl rfl ⟨rfl,rfl,rfl,rfl,rfl⟩ rfl rfl rfl rfl rfl (by kernel_rfl) Try.func4 (by kernel_rfl)
  (of_decide_eq_true (by kernel_rfl)) (by unfold Func.isWrapper;first|(rw[if_pos (by decide+kernel)];kernel_rfl)|(rw[if_neg (by decide+kernel)];exact⟨rfl,rfl⟩))
  (fun os started H enc _=>lifted os started H enc)
theorem proved:Rows.LexKnownSaid:=over
#print axioms proved
end Go.Proofs.Ytmmilinbpimfaaa.lexKnown
namespace Go.Proofs.Ytmmilinbpimfaaa
theorem lexKnown_holds:Rows.LexKnownSaid:=lexKnown.proved
end Go.Proofs.Ytmmilinbpimfaaa
end
