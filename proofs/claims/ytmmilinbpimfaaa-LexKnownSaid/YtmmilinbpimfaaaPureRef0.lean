/- What the document's functions answer, in plain Lean, over the printed functions. No conditions. -/
import Derived.Test.YtmmilinbpimfaaaPLexKnownx2
import Derived.Test.YtmmilinbpimfaaaWalkBlanks
import Derived.Test.YtmmilinbpimfaaaPlainLex
set_option linter.unusedSimpArgs false
namespace Go.Proofs.Ytmmilinbpimfaaa.PureRef
open Go.RowKit Go.Proofs.Ytmmilinbpimfaaa.PLexKnown Go.Proofs.YtmmilinbpimfaaaW.PrintWords Go.Proofs.Ytmmilinbpimfaaa.Spec Go.Proofs.Ytmmilinbpimfaaa.PureLex Go.Proofs.Ytmmilinbpimfaaa.WalkBlanks
theorem byAll {P:UInt8→Prop} (h:∀n:Fin 256,P (UInt8.ofNat n.1)) (c:UInt8):P c:=by have:=h ⟨c.toNat,c.toNat_lt⟩;simpa using this
set_option maxRecDepth 100000 in
theorem letter_r (c:UInt8):trammelref03_letter.f (c.toNat:Int)=some (isL c):=by revert c;refine byAll ?_;decide+kernel
set_option maxRecDepth 100000 in
theorem digit_r (c:UInt8):trammelref03_digit.f (c.toNat:Int)=some (isD c):=by revert c;refine byAll ?_;decide+kernel
theorem up1 {a:ByteArray} (hn:a.size≤1000000) {i:Nat} (hi:i≤a.size):wrap64 ((i:Int)+1)=((i+1:Nat):Int):=by rw[w64 (by omega) (by omega)];omega
theorem words_l0 (a:ByteArray) (hn:a.size≤1000000):∀(d i k:Nat),i+d=a.size→d<k→trammelref03_words.l0 k a (i:Int)=some ((i+(word (D a i)).length:Nat):Int):=by intro d;induction d with|zero=>intro i k hd hk;obtain⟨k,rfl⟩:∃m,k=m+1:=⟨k - 1,by omega⟩;simp only[trammelref03_words.l0];rw[if_neg (by omega),D_nil (by omega)];simp[word]|succ d ih=>intro i k hd hk;obtain⟨k,rfl⟩:∃m,k=m+1:=⟨k - 1,by omega⟩;obtain⟨c,hc,hb⟩:=D_cons (s:=a) (i:=i) (by omega);simp only[trammelref03_words.l0];rw[if_pos (by omega),if_pos (by omega),hb,letter_r,digit_r,up1 hn (by omega),ih (i+1) k (by omega) (by omega)];simp only[Option.bind_some];rw[hc];simp only[word,List.takeWhile_cons];generalize List.takeWhile isW (D a (i+1))=y;by_cases h1:isL c=true;(·rw[if_pos h1,if_pos (by simp[isW,h1]),List.length_cons];congr 1;omega);·rw[if_neg h1];by_cases h2:isD c=true;(·rw[if_pos h2,if_pos (by simp[isW,h2]),List.length_cons];congr 1;omega);·rw[if_neg h2,if_neg (by simp[isW,h1,h2])];simp
theorem words_r {a:ByteArray} (hn:a.size≤1000000) {i k:Nat} (hi:i≤a.size) (hk:a.size<k):trammelref03_words.f k a (i:Int)=some ((i+(word (D a i)).length:Nat):Int):=
 words_l0 a hn (a.size - i) i k (by omega) (by omega)
end Go.Proofs.Ytmmilinbpimfaaa.PureRef
