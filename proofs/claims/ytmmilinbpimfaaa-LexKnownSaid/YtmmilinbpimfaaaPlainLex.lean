/- The lexer's layer in plain Lean: what a told token's length is, and that no wrong one has the number 0. No conditions. -/
import Derived.Test.YtmmilinbpimfaaaSpec
set_option linter.unusedSimpArgs false
namespace Go.Proofs.Ytmmilinbpimfaaa.Spec
theorem word_pos {c:UInt8} {t:B} (h:isW c=true):word (c::t)=c::word t:=by simp[word,h]
theorem word_le (l:B):(word l).length≤l.length:=(List.takeWhile_prefix _).length_le
theorem isW_L {c:UInt8} (h:isL c=true):isW c=true:=by simp[isW,h]
theorem isW_D {c:UInt8} (h:isD c=true):isW c=true:=by simp[isW,h]
theorem esc_len2 {t:B} {y:UInt8} {m:Nat} (h:esc t= .ok y m):1≤m∧m≤t.length:=by cases t with|nil=>simp[esc]at h|cons c t=>simp only[esc]at h;(repeat' split at h);all_goals first|(injection h with h1 h2;subst h2;simp;done)|(injection h with h1 h2;subst h2;simp only[List.length_cons];omega)|cases h
theorem txt_bad:∀(n:Nat) (l:B) (i:Nat) (acc:B) (d e:Nat),txt n l i acc= .bad d e→e=31∨e=32|0,_,_,_,_,_,h=>by(injection h with h1 h2;exact .inl h2.symm)|_+1,[],_,_,_,_,h=>by(injection h with h1 h2;exact .inl h2.symm)|n+1,c::t,i,acc,d,e,h=>by simp only[txt]at h;split at h;(·injection h with h1 h2;exact .inl h2.symm);·split at h;(·cases h);·split at h;(·split at h;(·injection h with h1 h2;exact .inl h2.symm);(·injection h with h1 h2;exact .inr h2.symm);·exact txt_bad n _ _ _ _ _ h);·exact txt_bad n _ _ _ _ _ h
theorem txt_ok:∀(n:Nat) (l:B) (i:Nat) (acc:B) (k:Nat) (x:B) (v m:Nat),txt n l i acc= .ok k x v m→k=3∧v=0∧i+1≤m∧m≤i+l.length|0,_,_,_,_,_,_,_,h=>by cases h|_+1,[],_,_,_,_,_,_,h=>by cases h|n+1,c::t,i,acc,k,x,v,m,h=>by simp only[txt]at h;split at h;(·cases h);·split at h;(·(injection h with h1 h2 h3 h4);subst h1;subst h3;subst h4;exact⟨rfl,rfl,Nat.le_refl _,by simp only[List.length_cons];omega⟩);·split at h;(·split at h;(·cases h);(·cases h);·rename_i y q he;have h1:=txt_ok n _ _ _ _ _ _ _ h;have h2:=esc_len2 he;rw[List.length_drop]at h1;refine⟨h1.1,h1.2.1, ?_, ?_⟩;(·omega);·simp only[List.length_cons];omega);·have h1:=txt_ok n _ _ _ _ _ _ _ h;refine⟨h1.1,h1.2.1, ?_, ?_⟩;(·omega);·simp only[List.length_cons];omega
theorem sgn_bad {l:B} {d e:Nat} (h:sgn l= .bad d e):d=0∧e=30:=by unfold sgn at h;split at h;(·cases h);·split at h;(·injection h with h1 h2;exact⟨h1.symm,h2.symm⟩);·split at h;(·cases h);·injection h with h1 h2;exact⟨h1.symm,h2.symm⟩
theorem sgn_ok {l:B} {k:Nat} {x:B} {v m:Nat} (h:sgn l= .ok k x v m):k=4∧v=0∧x=l.take m∧1≤m∧m≤l.length:=by unfold sgn at h;split at h;(·rename_i hc;(injection h with h1 h2 h3 h4);subst h1;subst h2;subst h3;subst h4;exact⟨rfl,rfl,rfl,by omega,by omega⟩);·split at h;(·cases h);·split at h;(·(injection h with h1 h2 h3 h4);subst h1;subst h2;subst h3;subst h4;exact⟨rfl,rfl,by simp,by omega,by simp⟩);·cases h
theorem num_bad {l:B} {d e:Nat} (h:num l= .bad d e):d=0∧e=33:=by unfold num at h;split at h;(·injection h with h1 h2;exact⟨h1.symm,h2.symm⟩);·split at h;(·injection h with h1 h2;exact⟨h1.symm,h2.symm⟩);·cases h
theorem num_ok {l:B} {k:Nat} {x:B} {v m:Nat} (h:num l= .ok k x v m):k=2∧x=suffix l∧m=(word l).length:=by unfold num at h;split at h;(·cases h);·split at h;(·cases h);·(injection h with h1 h2 h3 h4);exact⟨h1.symm,h2.symm,h4.symm⟩
theorem nxt_bad {l:B} {d e:Nat} (h:nxt l= .bad d e):e≠0:=by cases l with|nil=>(injection h with h1 h2;omega)|cons c t=>simp only[nxt]at h;split at h;(·cases h);·split at h;(·have:=num_bad h;omega);·split at h;(·have:=txt_bad _ _ _ _ _ _ h;omega);·have:=sgn_bad h;omega
theorem nxt_len {l:B} {k:Nat} {x:B} {v m:Nat} (h:nxt l= .ok k x v m):1≤m∧m≤l.length:=by cases l with|nil=>cases h|cons c t=>simp only[nxt]at h;split at h;(·rename_i hc;(injection h with h1 h2 h3 h4);subst h4;exact⟨by rw[word_pos (isW_L hc)];simp,word_le _⟩);·split at h;(·rename_i hc;obtain⟨_,_,rfl⟩:=num_ok h;exact⟨by rw[word_pos (isW_D hc)];simp,word_le _⟩);·split at h;(·have:=txt_ok _ _ _ _ _ _ _ _ h;simp only[List.length_cons];omega);·have:=sgn_ok h;exact⟨this.2.2.2.1,this.2.2.2.2⟩
def dstep (a:Nat) (c:UInt8):Nat:=10*a+(c.toNat - 48)
def val (acc:Nat) (l:B):Nat:=l.foldl dstep acc
theorem val_nil (acc:Nat):val acc []=acc:=by unfold val;exact List.foldl_nil
theorem val_cons (acc:Nat) (c:UInt8) (t:B):val acc (c::t)=val (10*acc+(c.toNat - 48)) t:=by unfold val;rw[List.foldl_cons];unfold dstep;exact Eq.refl _
theorem numv_nil (T acc:Nat):numv T acc []=some acc:=rfl
theorem numv_cons (T acc:Nat) (c:UInt8) (t:B):numv T acc (c::t)=if acc > (T - (c.toNat - 48)) / 10 then none else numv T (10*acc+(c.toNat - 48)) t:=by rw[numv]
theorem isD_r {c:UInt8} (h:isD c=true):48≤c.toNat∧c.toNat≤57:=by unfold isD at h;simp only[Bool.and_eq_true,decide_eq_true_eq,UInt8.le_iff_toNat_le]at h;exact⟨h.1,h.2⟩
theorem val_le:∀(l:B) (acc:Nat),acc≤val acc l|[],acc=>by rw[val_nil];exact Nat.le_refl _|c::t,acc=>by rw[val_cons];exact Nat.le_trans (by omega) (val_le t _)
theorem numv_val (T:Nat) (hT:9≤T):∀(l:B) (acc:Nat),(∀c∈l,isD c=true)→acc≤T→numv T acc l=if val acc l≤T then some (val acc l)else none|[],acc,_,h=>by rw[numv_nil,val_nil,if_pos h]|c::t,acc,hd,h=>by obtain⟨h1,h2⟩:=isD_r (hd c List.mem_cons_self);rw[numv_cons,val_cons];by_cases hb:acc > (T - (c.toNat - 48)) / 10;(·rw[if_pos hb];(have:T<10*acc+(c.toNat - 48):=by omega);have h3:=val_le t (10*acc+(c.toNat - 48));rw[if_neg (by omega)]);·rw[if_neg hb];exact numv_val T hT t _ (fun x hx=>hd x (List.mem_cons_of_mem _ hx)) (by omega)
theorem digits_D (l:B):∀c∈digits l,isD c=true:=fun c hc=>by have:=List.all_takeWhile (l:=l) (p:=isD);exact List.all_eq_true.1 this c hc
theorem word_split (l:B):word l=digits l++word (l.drop (digits l).length):=by induction l with|nil=>rfl|cons c t ih=>by_cases h:isD c=true;(·(have e1:digits (c::t)=c::digits t:=by simp[digits,h]);rw[word_pos (isW_D h),e1,ih,List.length_cons,List.drop_succ_cons];rfl);·(have e1:digits (c::t)=[]:=by simp[digits,h]);rw[e1];rfl
theorem suffix_word (l:B):suffix l=word (l.drop (digits l).length):=by unfold suffix;(conv=>lhs;rw[word_split l]);rw[List.drop_left]
theorem digits_cons_yes {c:UInt8} {t:B} (h:isD c=true):digits (c::t)=c::digits t:=by simp[digits,h]
theorem digits_cons_no {c:UInt8} {t:B} (h:¬isD c=true):digits (c::t)=[]:=by simp[digits,h]
end Go.Proofs.Ytmmilinbpimfaaa.Spec
