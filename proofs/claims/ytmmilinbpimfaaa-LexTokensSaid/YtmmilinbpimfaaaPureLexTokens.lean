/- The pure statement of the law LexTokens: the program's tokens are the document's. No conditions beyond the statement's own. -/
import Derived.Test.YtmmilinbpimfaaaPLexTokensx1
import Derived.Test.YtmmilinbpimfaaaPureRef3
namespace Go.Proofs.Ytmmilinbpimfaaa.Pure
open Go.RowKit Go.Proofs.Ytmmilinbpimfaaa.PLexTokens Go.Proofs.Ytmmilinbpimfaaa.PLexKnown Go.Proofs.Ytmmilinbpimfaaa.Given Go.Proofs.YtmmilinbpimfaaaW.PrintWords Go.Proofs.YtmmilinbpimfaaaW.PrintLast Go.Proofs.Ytmmilinbpimfaaa.Spec Go.Proofs.Ytmmilinbpimfaaa.PureLex Go.Proofs.Ytmmilinbpimfaaa.PureRef Go.Proofs.Ytmmilinbpimfaaa.WalkTokens
theorem items_len : ∀ (f n o : Nat) (l : B), (items f n o l).length ≤ f
  | 0, _, _, _ => by simp [items]
  | f + 1, n, o, l => by
    rw [items]
    split
    · simp
    · split
      · simp
      · split
        · simp
        · simp only [List.length_cons]
          exact Nat.succ_le_succ (items_len f _ _ _)
theorem fin_len : ∀ (r : List (Nat × Res)) (acc : List S31), (fin r acc).1.length ≤ acc.length + r.length
  | [], acc => by simp [fin]
  | (o, .ok k t n m) :: r, acc => by
    rw [fin]
    have := fin_len r (acc ++ [⟨(k : Int), ⟨t.toArray⟩, (n : Int), (o : Int), ((o + m : Nat) : Int)⟩])
    simp only [List.length_append, List.length_cons, List.length_nil] at this ⊢
    omega
  | (o, .bad d e) :: r, acc => by simp [fin]
theorem toks_len (s : B) : (toks s).1.length ≤ 32770 := by
  unfold toks
  split
  · simp
  · have h1 := fin_len (items 32770 0 0 s) []
    have h2 := items_len 32770 0 0 s
    simp only [List.length_nil] at h1
    omega
theorem same_l0 (l : List S31) (hl : l.length ≤ 1000000) : ∀ (d i k : Nat), i + d = l.length → d < k → trammelkit_SameTokens.l0 k l l (i : Int) = some true := by
  intro d
  induction d with
  | zero =>
    intro i k hd hk
    obtain ⟨k, rfl⟩ : ∃ m, k = m + 1 := ⟨k - 1, by omega⟩
    simp only [trammelkit_SameTokens.l0]
    rw [if_neg (by omega)]
  | succ d ih =>
    intro i k hd hk
    obtain ⟨k, rfl⟩ : ∃ m, k = m + 1 := ⟨k - 1, by omega⟩
    simp only [trammelkit_SameTokens.l0]
    rw [if_pos (by omega), if_pos (by omega), if_pos (by omega), if_neg (by simp), w64 (by omega) (by omega), show (i : Int) + 1 = ((i + 1 : Nat) : Int) by omega, ih (i + 1) k (by omega) (by omega)]
theorem same_r (l : List S31) (hl : l.length ≤ 1000000) {k : Nat} (hk : l.length < k) : trammelkit_SameTokens.f k l l = some true := by
  unfold trammelkit_SameTokens.f
  rw [if_pos rfl]
  exact same_l0 l hl l.length 0 k (by omega) hk
set_option maxRecDepth 100000 in
theorem works_r {k : Nat} (hk : 100 ≤ k) : trammellaw03_works.f k = some true := by
  obtain ⟨k, rfl⟩ : ∃ q, k = q + 100 := ⟨k - 100, by omega⟩
  kernel_rfl
theorem LexTokens : trammellaw03_LexTokens.Pure := by
  intro a0 _
  by_cases h : (a0.size : Int) > 8192
  · exact ⟨0, by unfold trammellaw03_LexTokens.f; rw [if_pos h]⟩
  · refine ⟨100001, ?_⟩
    have hl := toks_len a0.data.toList
    unfold trammellaw03_LexTokens.f
    rw [if_neg h, show lex_Tokens.f a0 = some (toks a0.data.toList) from rfl, tokens_r (a := a0) (by omega) (by omega)]
    simp only [Option.bind_some, if_true]
    rw [same_r _ (by omega) (by omega)]
    simp only [Option.bind_some, if_true]
    show trammellaw03_LexTokens.j0 (100000 + 1) _ _ _ (!true) = _
    simp only [trammellaw03_LexTokens.j0]
    rw [if_neg (by decide), show trammelkit_SpoilTokens.f (toks a0.data.toList).1 = some () from if_pos (by omega), same_r _ (by omega) (by omega), works_r (by omega)]
    rfl
end Go.Proofs.Ytmmilinbpimfaaa.Pure
