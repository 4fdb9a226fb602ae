/- The lexer's layer in plain Lean: what stands at the beginning of some bytes. Definitions alone and what is plain of them; no conditions. -/
namespace Go.Proofs.Ytmmilinbpimfaaa.Spec
abbrev B:=List UInt8
def isL (c:UInt8):Bool:=(97≤c&&c≤122)||(65≤c&&c≤90)||c==95
def isD (c:UInt8):Bool:=48≤c&&c≤57
def isW (c:UInt8):Bool:=isL c||isD c
def isB (c:UInt8):Bool:=c==9||c==10||c==13||c==32
def word (l:B):B:=l.takeWhile isW
def cmt:B→Bool
 |c::d::_=>c==47&&d==47
 |_=>false
def line (l:B):B:=l.dropWhile (· !=10)
def skip:Nat→B→B
 |0,l=>l
 |_+1,[]=>[]
 |n+1,c::t=>if cmt (c::t)then skip n (line (c::t))else if isB c then skip n t else c::t
def sk (l:B):B:=skip l.length l
def opn:B→Bool
 |[]=>true
 |c::_=>c<32||c==127
def hexv (c:UInt8):Option Nat:=
 if isD c then some (c.toNat - 48)else if 97≤c&&c≤102 then some (c.toNat - 87)else if 65≤c&&c≤70 then some (c.toNat - 55)else none
inductive Esc where
 |cut|bad
 |ok (c:UInt8) (n:Nat)
def esc:B→Esc
 |[]=> .cut
 |c::t=>if opn (c::t)then .cut else if c=34 then .ok 34 1 else if c=92 then .ok 92 1 else if c=110 then .ok 10 1 else if c=116 then .ok 9 1 else if c=114 then .ok 13 1
  else if c=120 then
   (if opn t then .cut else match t with
    |[]=> .cut
    |a::t1=>match hexv a with
     |none=> .bad
     |some x=>if opn t1 then .cut else match t1 with
      |[]=> .cut
      |b::_=>match hexv b with
       |none=> .bad
       |some y=> .ok (UInt8.ofNat (16*x+y)) 3)
  else .bad
inductive Res where
 |ok (kind:Nat) (text:B) (num:Nat) (len:Nat)
 |bad (off:Nat) (e:Nat)
def txt:Nat→B→Nat→B→Res
 |0,_,_,_=> .bad 0 31
 |_+1,[],_,_=> .bad 0 31
 |n+1,c::t,i,acc=>if opn (c::t)then .bad 0 31 else if c=34 then .ok 3 acc 0 (i+1)else if c=92 then
   (match esc t with
   | .cut=> .bad 0 31
   | .bad=> .bad i 32
   | .ok y m=>txt n (t.drop m) (i+1+m) (acc++[y]))
  else txt n t (i+1) (acc++[c])
def top (l:B):Option Nat:=
 if l=[]then some 18446744073709551615 else if l=[105,54,52]then some 18446744073709551615 else if l=[105,51,50]then some 4294967295 else if l=[105,56]then some 255 else none
def numv (top:Nat):Nat→B→Option Nat
 |acc,[]=>some acc
 |acc,c::t=>if acc > (top - (c.toNat - 48)) / 10 then none else numv top (10*acc+(c.toNat - 48)) t
def digits (l:B):B:=l.takeWhile isD
def suffix (l:B):B:=(word l).drop (digits l).length
def num (l:B):Res:=
 match top (suffix l)with
 |none=> .bad 0 33
 |some m=>match numv m 0 (digits l)with
  |none=> .bad 0 33
  |some v=> .ok 2 (suffix l) v (word l).length
def two:List B:=[[60,60],[62,62],[61,61],[33,61],[60,61],[62,61],[38,38],[124,124]]
def ones:B:=[40,41,123,125,91,93,44,59,58,46,43,45,42,47,37,38,124,94,126,33,60,62,61]
def sgn (l:B):Res:=
 if 1<l.length∧l.take 2∈two then .ok 4 (l.take 2) 0 2 else match l with
  |[]=> .bad 0 30
  |c::_=>if c∈ones then .ok 4 [c] 0 1 else .bad 0 30
def nxt:B→Res
 |[]=> .bad 0 30
 |c::t=>if isL c then .ok 1 (word (c::t)) 0 (word (c::t)).length else if isD c then num (c::t)else if c=34 then txt (t.length+1) t 1 []else sgn (c::t)
def items:Nat→Nat→Nat→B→List (Nat×Res)
 |0,_,_,_=>[]
 |f+1,n,o,l=>match sk l with
  |[]=>[]
  |c::t=>if n=32768 then[(o+(l.length - (t.length+1)),.bad 0 3)]else match nxt (c::t)with
   | .bad d e=>[(o+(l.length - (t.length+1)),.bad d e)]
   | .ok k x v m=>(o+(l.length - (t.length+1)),.ok k x v m)::items f (n+1) (o+(l.length - (t.length+1))+m) ((c::t).drop m)
theorem skip_len:∀(n:Nat) (l:B),(skip n l).length≤l.length|0,_=>by simp[skip]|_+1,[]=>by simp[skip]|n+1,c::t=>by simp only[skip];split;(·refine Nat.le_trans (skip_len n _) ?_;unfold line;exact(List.dropWhile_suffix _).length_le);·split;(·exact Nat.le_trans (skip_len n _) (by simp));·simp
theorem line_lt (l:B) (h:cmt l=true):(line l).length<l.length:=by match l,h with|c::d::t,h=>simp only[cmt,Bool.and_eq_true,beq_iff_eq]at h;obtain⟨rfl,rfl⟩:=h;(have h1:line (47::47::t)=line t:=by simp[line]);have:=(List.dropWhile_suffix (l:=t) (· !=10)).length_le;rw[h1];simp only[line,List.length_cons];omega
theorem skip_more:∀(n:Nat) (l:B),l.length≤n→skip (n+1) l=skip n l|0,l,h=>by have:l=[]:=List.eq_nil_of_length_eq_zero (by omega);subst this;rfl|n+1,[],_=>by simp[skip]|n+1,c::t,h=>by simp only[List.length_cons]at h;rw[skip];(conv=>rhs;rw[skip]);split;(·rename_i hc;have:=line_lt (c::t) hc;exact skip_more n _ (by simp only[List.length_cons]at this;omega));·split;(·exact skip_more n t (by omega));·rfl
theorem skip_enough:∀(k n:Nat) (l:B),l.length≤n→skip (n+k) l=skip n l|0,_,_,_=>rfl|k+1,n,l,h=>by rw[←Nat.add_assoc,skip_more (n+k) l (by omega),skip_enough k n l h]
theorem skip_sk {n:Nat} {l:B} (h:l.length≤n):skip n l=sk l:=by obtain⟨k,rfl⟩:∃k,n=l.length+k:=⟨n - l.length,by omega⟩;exact skip_enough k l.length l (Nat.le_refl _)
theorem sk_cmt {c:UInt8} {t:B} (h:cmt (c::t)=true):sk (c::t)=sk (line (c::t)):=by have:=line_lt _ h;unfold sk;rw[List.length_cons,skip,if_pos h];exact skip_sk (by simp only[List.length_cons]at this;omega)
theorem sk_blank {c:UInt8} {t:B} (h:cmt (c::t)=false) (hb:isB c=true):sk (c::t)=sk t:=by unfold sk;rw[List.length_cons,skip,if_neg (by simp[h]),if_pos hb]
theorem sk_stop {c:UInt8} {t:B} (h:cmt (c::t)=false) (hb:isB c=false):sk (c::t)=c::t:=by unfold sk;rw[List.length_cons,skip,if_neg (by simp[h]),if_neg (by simp[hb])]
theorem sk_nil:sk []=[]:=rfl
end Go.Proofs.Ytmmilinbpimfaaa.Spec
