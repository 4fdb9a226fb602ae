/- The pure statement of the law LexBack: a text, quoted, is one token that stands for it; cut short it is no text. No conditions beyond the statement's own. -/
import Derived.Test.YtmmilinbpimfaaaPLexBackx1
import Derived.Test.YtmmilinbpimfaaaPlainBack
namespace Go.Proofs.Ytmmilinbpimfaaa.Pure
open Go.RowKit Go.Proofs.Ytmmilinbpimfaaa.PLexBack Go.Proofs.Ytmmilinbpimfaaa.PLexKnown Go.Proofs.Ytmmilinbpimfaaa.Given Go.Proofs.YtmmilinbpimfaaaW.PrintWords Go.Proofs.YtmmilinbpimfaaaW.PrintLast Go.Proofs.Ytmmilinbpimfaaa.Spec Go.Proofs.Ytmmilinbpimfaaa.PureLex Go.Proofs.Ytmmilinbpimfaaa.WalkTokens Go.Proofs.Ytmmilinbpimfaaa.WalkQuote Go.Proofs.Ytmmilinbpimfaaa.PlainBack
set_option maxRecDepth 100000 in
theorem works_b {k : Nat} (hk : 100 ≤ k) : trammellaw03_works.f k = some true := by
  obtain ⟨k, rfl⟩ : ∃ q, k = q + 100 := ⟨k - 100, by omega⟩
  kernel_rfl
theorem LexBack : trammellaw03_LexBack.Pure := by
  intro a0 _
  by_cases h : (a0.size : Int) > 8192
  · exact ⟨0, by unfold trammellaw03_LexBack.f; rw [if_pos h]⟩
  · refine ⟨101, ?_⟩
    have hs : a0.data.toList.length ≤ 8192 := by rw [← size_len]; omega
    have hl := flat_len a0.data.toList
    have hq : (qt a0.data.toList).length = (a0.data.toList.flatMap qp).length + 2 := by unfold qt; rw [List.length_cons, List.length_append]; rfl
    obtain ⟨Q, hQ⟩ : ∃ Q : ByteArray, (⟨(qt a0.data.toList).toArray⟩ : ByteArray) = Q := ⟨_, rfl⟩
    have hQd : Q.data.toList = qt a0.data.toList := by rw [← hQ]
    have hQs : Q.size = (qt a0.data.toList).length := by rw [size_len, hQd]
    unfold trammellaw03_LexBack.f
    rw [if_neg h, show lex_Quote.f a0 = some Q from (if_pos (by omega)).trans (by rw [hQ])]
    simp only [Option.bind_some]
    rw [show lex_Tokens.f Q = some (toks Q.data.toList) from rfl, hQd, toks_quote _ hs]
    simp only [Option.bind_some]
    rw [if_pos trivial, if_pos (show ((([_] : List S31).length : Nat) : Int) = 1 from rfl), if_pos (show (0 : Int) < ((([_] : List S31).length : Nat) : Int) from by show (0 : Int) < 1; decide)]
    have hj : ∀ b : Bool, b = false → trammellaw03_LexBack.j0 101 Q b = some true := by
      rintro b rfl
      have hx : (Q.extract 0 (Q.size - 1)).data.toList = 34 :: a0.data.toList.flatMap qp := by
        rw [Lib.extract_data, List.drop_zero, hQd, hQs, hq]
        unfold qt
        rw [show (a0.data.toList.flatMap qp).length + 2 - 1 - 0 = (a0.data.toList.flatMap qp).length + 1 by omega, List.take_succ_cons, List.take_left]
      have hw : wrap64 ((Q.size : Int) - 1) = ((Q.size - 1 : Nat) : Int) := by rw [w64 (by omega) (by omega)]; omega
      show trammellaw03_LexBack.j0 (100 + 1) Q false = some true
      simp only [trammellaw03_LexBack.j0]
      rw [if_neg (by decide), hw, if_pos (by omega), if_pos (by omega), Int.toNat_natCast, show lex_Tokens.f (Q.extract 0 (Q.size - 1)) = some (toks (Q.extract 0 (Q.size - 1)).data.toList) from rfl, hx, toks_cut _ hs]
      simp only [Option.bind_some]
      rw [if_pos trivial, if_pos trivial, works_b (by omega)]
      rfl
    refine hj _ ?_
    show (!(((3 : Int)) == 3) || (!(((⟨a0.data.toList.toArray⟩ : ByteArray).toList) == a0.toList) || (!((0 : Int) == 0) || (!((0 : Int) == 0) || (!(((qt a0.data.toList).length : Int) == (Q.size : Int))))))) = false
    rw [hQs, Lib.toList_data]
    simp
end Go.Proofs.Ytmmilinbpimfaaa.Pure
