/- The law LexEach answers true: Each hands over the tokens, in order, with their numbers, and stops where it is told to. No conditions beyond the statement's own. -/
import Derived.Test.YtmmilinbpimfaaaWalkEachL
import Derived.Test.YtmmilinbpimfaaaPureRef3
import Derived.Test.YtmmilinbpimfaaaPLexKnownx5
import Derived.Test.YtmmilinbpimfaaaPLexKnownx8
import Derived.Test.YtmmilinbpimfaaaPLexWordsx1
set_option linter.unusedSimpArgs false
namespace Go.Proofs.Ytmmilinbpimfaaa.EachLaw
open Go.RowKit Go.Proofs.Ytmmilinbpimfaaa.PLexWords Go.Proofs.Ytmmilinbpimfaaa.PLexKnown Go.Proofs.YtmmilinbpimfaaaW.PrintWords Go.Proofs.YtmmilinbpimfaaaW.PrintLast Go.Proofs.YtmmilinbpimfaaaW.PrintMore Go.Proofs.Ytmmilinbpimfaaa.Spec Go.Proofs.Ytmmilinbpimfaaa.PureLex Go.Proofs.Ytmmilinbpimfaaa.PureRef Go.Proofs.Ytmmilinbpimfaaa.WalkTokens Go.Proofs.Ytmmilinbpimfaaa.WalkBlanks Go.Proofs.Ytmmilinbpimfaaa.WalkEachL
set_option maxRecDepth 100000 in
theorem works_e : trammellaw03_works.f 100 = some true := by kernel_rfl
theorem pick_e (a : Int) {n : Nat} (h : 1 ≤ n) (hn : n ≤ 1000000) : ∃ r : Nat, trammelkit_Pick.f a (n : Int) = some (r : Int) ∧ r < n := by
  unfold trammelkit_Pick.f
  rw [if_neg (by omega), if_neg (by omega)]
  have h1 := Int.tmod_lt_of_pos a (show (0 : Int) < (n : Int) by omega)
  have h2 := Int.lt_tmod_of_pos a (show (0 : Int) < (n : Int) by omega)
  generalize Int.tmod a (n : Int) = x at h1 h2 ⊢
  by_cases hx : x < 0
  · rw [if_pos hx, w64 (by omega) (by omega)]
    exact ⟨(x + n).toNat, by congr 1; omega, by omega⟩
  · rw [if_neg hx]
    exact ⟨x.toNat, by congr 1; omega, by omega⟩
theorem items_len3 : ∀ (f n o : Nat) (l : B), (items f n o l).length ≤ f
  | 0, _, _, _ => by simp [items]
  | f + 1, n, o, l => by
    rw [items]
    split
    · simp
    · split
      · simp
      · split
        · simp
        · simp only [List.length_cons]
          exact Nat.succ_le_succ (items_len3 f _ _ _)
theorem fin_len3 : ∀ (r : List (Nat × Res)) (acc : List S31), (fin r acc).1.length ≤ acc.length + r.length
  | [], acc => by simp [fin]
  | (o, .ok k t n m) :: r, acc => by
    rw [fin]
    have := fin_len3 r (acc ++ [⟨(k : Int), ⟨t.toArray⟩, (n : Int), (o : Int), ((o + m : Nat) : Int)⟩])
    simp only [List.length_append, List.length_cons, List.length_nil] at this ⊢
    omega
  | (o, .bad d e) :: r, acc => by simp [fin]
theorem toks_len3 (s : B) : (toks s).1.length ≤ 32770 := by
  unfold toks
  split
  · simp
  · have h1 := fin_len3 (items 32770 0 0 s) []
    have h2 := items_len3 32770 0 0 s
    simp only [List.length_nil] at h1
    omega
set_option maxHeartbeats 8000000 in
set_option maxRecDepth 100000 in
/-- A source that is too long: true at once. -/
theorem each_long (s : ByteArray) (hs : 8192 < s.size) (stop : Int) (w : World) : Calls Try.prog 3 #[.string s, .int .i64 stop] w fun e w' => e = .returned (.bool true) ∧ Below w.heap.size w w' := by
  have c1 : decide (8192 < (s.size : Int)) = true := decide_eq_true (by omega)
  have c2 : decide (8192 < s.size) = true := decide_eq_true hs
  go_enter Try.func3, Try.ntmps3
  go_wp2
  have z := blk_new (w.alloc (.cells #[.int .i64 stop] 3)) (.cells #[.bool true] 4)
  rw [World.size_alloc] at z
  refine bodyPost_ret (res3 _ z _ _ _ _) rfl ?_
  exact ⟨rfl, below_alloc (below_alloc (Below.refl _ _) _) _⟩
theorem walk (a0 : ByteArray) (a1 : Int) (w : World) : Calls Try.prog 3 #[.string a0, .int .i64 a1] w fun e w' => e = .returned (.bool true) ∧ Below w.heap.size w w' := by
  by_cases hs : 8192 < a0.size
  · exact each_long a0 hs a1 w
  · obtain ⟨ts, r2, r3, ht⟩ : ∃ ts r2 r3, toks a0.data.toList = (ts, r2, r3) := ⟨_, _, _, rfl⟩
    have hl : ts.length ≤ 32770 := by have := toks_len3 a0.data.toList; rwa [ht] at this
    obtain ⟨r, hr, hr2⟩ := pick_e a1 (n := ts.length + 1) (by omega) (by omega)
    have hr3 : trammelkit_Pick.f a1 ((ts.length : Int) + 1) = some (r : Int) := hr
    have hT := tokens_r (a := a0) (by omega) (k := 3 * a0.size + 40000) (Nat.le_refl _)
    rw [ht] at hT
    exact callsIn_wide.1 (each_in a0 (by omega) a1 ts r2 r3 ht (by omega) r (by omega) (fun w => trammelref03_Tokens.calls _ a0 ts r2 r3 w hT) (fun w => trammelkit_Pick.calls a1 _ r w hr3) (fun w => trammellaw03_works.calls 100 true w works_e) w 10 (Nat.le_refl _))
end Go.Proofs.Ytmmilinbpimfaaa.EachLaw
