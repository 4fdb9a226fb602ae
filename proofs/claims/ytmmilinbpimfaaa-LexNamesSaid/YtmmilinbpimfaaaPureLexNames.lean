/- The pure statement of the law LexNames: a name is one token, the whole of it, and no kept word; a kept word is one token, too. No conditions beyond the statement's own. -/
import Derived.Test.YtmmilinbpimfaaaPLexNamesx1
import Derived.Test.YtmmilinbpimfaaaPlainNames
namespace Go.Proofs.Ytmmilinbpimfaaa.Pure
open Go.RowKit Go.Proofs.Ytmmilinbpimfaaa.PLexNames Go.Proofs.Ytmmilinbpimfaaa.PLexKnown Go.Proofs.Ytmmilinbpimfaaa.Given Go.Proofs.YtmmilinbpimfaaaW.PrintWords Go.Proofs.YtmmilinbpimfaaaW.PrintLast Go.Proofs.Ytmmilinbpimfaaa.Spec Go.Proofs.Ytmmilinbpimfaaa.PureLex Go.Proofs.Ytmmilinbpimfaaa.WalkTokens Go.Proofs.Ytmmilinbpimfaaa.PlainNames
set_option maxRecDepth 100000 in
theorem works_n {k : Nat} (hk : 100 ≤ k) : trammellaw03_works.f k = some true := by
  obtain ⟨k, rfl⟩ : ∃ q, k = q + 100 := ⟨k - 100, by omega⟩
  kernel_rfl
theorem names_j {a0 : ByteArray} (h : a0.size ≤ 8192) : trammellaw03_LexNames.j0 10001 a0 (nameL a0.data.toList) = some true := by
  show trammellaw03_LexNames.j0 (10000 + 1) a0 _ = _
  simp only [trammellaw03_LexNames.j0]
  rw [name_f (by omega) (by omega), kept_f (by omega), works_n (by omega)]
  simp only [Option.bind_some]
  cases hn : nameL a0.data.toList with
  | true => cases kept a0.data.toList <;> rfl
  | false =>
    cases hk : kept a0.data.toList with
    | true => rw [kept_name hk] at hn; cases hn
    | false => rfl
theorem LexNames : trammellaw03_LexNames.Pure := by
  intro a0 _
  by_cases h : (a0.size : Int) > 8192
  · exact ⟨0, by unfold trammellaw03_LexNames.f; rw [if_pos h]⟩
  · refine ⟨10001, ?_⟩
    have hj := names_j (a0 := a0) (by omega)
    have ho := one_iff (s := a0.data.toList) (by rw [← size_len]; omega)
    unfold trammellaw03_LexNames.f
    rw [if_neg h, show lex_Tokens.f a0 = some (toks a0.data.toList) from rfl]
    simp only [Option.bind_some]
    obtain ⟨r, hr⟩ : ∃ r, toks a0.data.toList = r := ⟨_, rfl⟩
    rw [hr] at ho ⊢
    cases hn : nameL a0.data.toList with
    | true =>
      rw [hn] at hj
      obtain ⟨h1, t, h2, h3, h4⟩ := ho.2 hn
      rw [if_pos h1, h2, if_pos (show ((([t] : List S31).length : Nat) : Int) = 1 from rfl), if_pos (show (0 : Int) < ((([t] : List S31).length : Nat) : Int) from by show (0 : Int) < 1; decide), if_pos (show (rd_T31 [t] 0).f0 = 1 from h3), Lib.toList_data, Lib.toList_data, show (rd_T31 [t] 0).f1 = t.f1 from rfl, h4, beq_self_eq_true]
      exact hj
    | false =>
      rw [hn] at hj
      have hno : ¬ oneN a0.data.toList r := fun e => by have := ho.1 e; rw [hn] at this; cases this
      by_cases h1 : r.2.2 = 0
      · rw [if_pos h1]
        by_cases h2 : (r.1.length : Int) = 1
        · obtain ⟨t, ht⟩ : ∃ t, r.1 = [t] := List.length_eq_one_iff.1 (by omega)
          rw [if_pos h2, if_pos (by omega), ht]
          by_cases h3 : (rd_T31 [t] 0).f0 = 1
          · rw [if_pos h3, Lib.toList_data, Lib.toList_data, show (rd_T31 [t] 0).f1 = t.f1 from rfl]
            have h4 : (t.f1.data.toList == a0.data.toList) = false := by
              rw [beq_eq_false_iff_ne]
              exact fun e => hno ⟨h1, t, ht, h3, e⟩
            rw [h4]
            exact hj
          · rw [if_neg h3]
            exact hj
        · rw [if_neg h2]
          exact hj
      · rw [if_neg h1]
        exact hj
end Go.Proofs.Ytmmilinbpimfaaa.Pure
