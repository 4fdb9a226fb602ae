/- The pure statement of the law LexWords: quoted as the document quotes; names and kept words are the document's. No conditions beyond the statement's own. -/
import Derived.Test.YtmmilinbpimfaaaPLexWordsx2
import Derived.Test.YtmmilinbpimfaaaPlainNames
import Derived.Test.YtmmilinbpimfaaaPureRef0
set_option linter.unusedSimpArgs false
namespace Go.Proofs.Ytmmilinbpimfaaa.Pure
open Go.RowKit Go.Proofs.Ytmmilinbpimfaaa.PLexWords Go.Proofs.Ytmmilinbpimfaaa.PLexKnown Go.Proofs.Ytmmilinbpimfaaa.Given Go.Proofs.YtmmilinbpimfaaaW.PrintWords Go.Proofs.YtmmilinbpimfaaaW.PrintLast Go.Proofs.Ytmmilinbpimfaaa.Spec Go.Proofs.Ytmmilinbpimfaaa.PureLex Go.Proofs.Ytmmilinbpimfaaa.WalkTokens Go.Proofs.Ytmmilinbpimfaaa.WalkQuote Go.Proofs.Ytmmilinbpimfaaa.WalkBlanks Go.Proofs.Ytmmilinbpimfaaa.PlainNames Go.Proofs.Ytmmilinbpimfaaa.PureRef
set_option maxRecDepth 100000 in
theorem works_w {k : Nat} (hk : 100 ≤ k) : trammellaw03_works.f k = some true := by
  obtain ⟨k, rfl⟩ : ∃ q, k = q + 100 := ⟨k - 100, by omega⟩
  kernel_rfl
def nums (l : B) : List Int := l.map fun c => (c.toNat : Int)
theorem nums_app (l m : B) : nums l ++ nums m = nums (l ++ m) := by simp [nums]
theorem nums_str (l : B) : strOfNums (nums l) = ⟨l.toArray⟩ := by
  unfold strOfNums nums
  congr 1
  simp [List.map_map, Function.comp_def]
def hexB : ByteArray := ⟨#[48, 49, 50, 51, 52, 53, 54, 55, 56, 57, 97, 98, 99, 100, 101, 102]⟩
set_option maxRecDepth 100000 in
theorem hexes (c : UInt8) : 0 ≤ (Int.tdiv (c.toNat : Int) 16) % 256 ∧ (Int.tdiv (c.toNat : Int) 16) % 256 < (hexB.size : Int) ∧ 0 ≤ Int.tmod (c.toNat : Int) 16 ∧ Int.tmod (c.toNat : Int) 16 < (hexB.size : Int) ∧
    [92, 120, bt hexB ((Int.tdiv (c.toNat : Int) 16) % 256), bt hexB (Int.tmod (c.toNat : Int) 16)] = nums [92, 120, hexd (c.toNat / 16), hexd (c.toNat % 16)] := by
  revert c
  refine byAll ?_
  decide +kernel
theorem qr_step {a : ByteArray} (hn : a.size ≤ 1000000) {i k : Nat} {c : UInt8} {t : B} (hc : D a i = c :: t) (hb : bt a (i : Int) = (c.toNat : Int)) (hi : i < a.size) (acc : B) (hl : acc.length ≤ 10000000) :
    trammelref03_Quote.l0 (k + 1 + 1) a hexB (nums acc) (i : Int) = trammelref03_Quote.l0 k a hexB (nums (acc ++ qp c)) ((i + 1 : Nat) : Int) := by
  have n : ∀ m : UInt8, (c.toNat : Int) = (m.toNat : Int) ↔ c = m := fun m => by rw [← UInt8.toNat_inj]; omega
  have hnl : (nums acc).length = acc.length := by unfold nums; rw [List.length_map]
  have put : ∀ (x : List Int) (q : B), x = nums q → q.length ≤ 4 → qp c = q → ((some x).bind fun y => if (nums acc).length + y.length < 140737488355328 then trammelref03_Quote.l0 k a hexB (nums acc ++ y) (wrap64 ((i : Int) + 1)) else none) = trammelref03_Quote.l0 k a hexB (nums (acc ++ qp c)) ((i + 1 : Nat) : Int) := by
    rintro x q rfl hq rfl
    rw [Option.bind_some, if_pos (by rw [hnl]; unfold nums; rw [List.length_map]; omega), nums_app, up1 hn (by omega)]
  have hj : ∀ b : Bool, b = decide (c = 34 ∨ c = 92) → trammelref03_Quote.j1 (k + 1) a hexB (nums acc) (i : Int) (c.toNat : Int) b = trammelref03_Quote.l0 k a hexB (nums (acc ++ qp c)) ((i + 1 : Nat) : Int) := by
    rintro b rfl
    simp only [trammelref03_Quote.j1]
    by_cases h34 : c = 34
    · subst h34
      rw [if_pos (by decide)]
      exact put _ [92, 34] rfl (by decide) rfl
    by_cases h92 : c = 92
    · subst h92
      rw [if_pos (by decide)]
      exact put _ [92, 92] rfl (by decide) rfl
    rw [if_neg (by simp [h34, h92])]
    by_cases h10 : c = 10
    · subst h10
      rw [if_pos (by decide)]
      exact put _ [92, 110] rfl (by decide) rfl
    rw [if_neg (show ¬ (c.toNat : Int) = 10 from fun e => h10 ((n 10).1 e))]
    by_cases h9 : c = 9
    · subst h9
      rw [if_pos (by decide)]
      exact put _ [92, 116] rfl (by decide) rfl
    rw [if_neg (show ¬ (c.toNat : Int) = 9 from fun e => h9 ((n 9).1 e))]
    by_cases h13 : c = 13
    · subst h13
      rw [if_pos (by decide)]
      exact put _ [92, 114] rfl (by decide) rfl
    rw [if_neg (show ¬ (c.toNat : Int) = 13 from fun e => h13 ((n 13).1 e))]
    obtain ⟨x1, x2, x3, x4, x5⟩ := hexes c
    have hlt : (c.toNat : Int) < 32 ↔ c < 32 := by
      rw [UInt8.lt_iff_toNat_lt]
      show _ ↔ c.toNat < 32
      omega
    by_cases h32 : c < 32
    · rw [if_pos (hlt.2 h32), if_pos x1, if_pos x2, if_pos x3, if_pos x4]
      exact put _ _ x5 (by simp) (by simp [qp, h34, h92, h10, h9, h13, h32])
    rw [if_neg (fun e => h32 (hlt.1 e))]
    by_cases h127 : c = 127
    · rw [if_pos (show (c.toNat : Int) = 127 from (n 127).2 h127), if_pos x1, if_pos x2, if_pos x3, if_pos x4]
      exact put _ _ x5 (by simp) (by rw [h127]; rfl)
    rw [if_neg (show ¬ (c.toNat : Int) = 127 from fun e => h127 ((n 127).1 e)), if_pos (by rw [hnl]; omega), up1 hn (by omega)]
    have hq : qp c = [c] := by simp [qp, h34, h92, h10, h9, h13, h32, h127]
    rw [hq, ← nums_app]
    rfl
  rw [trammelref03_Quote.l0]
  rw [if_pos (by omega), if_pos (by omega), hb]
  by_cases h : (c.toNat : Int) = 34
  · rw [if_pos h]
    exact hj _ (by rw [(n 34).1 h]; rfl)
  · rw [if_neg h]
    refine hj _ ?_
    have h34 : c ≠ 34 := fun e => h ((n 34).2 e)
    rw [Bool.eq_iff_iff, beq_iff_eq, decide_eq_true_eq]
    constructor
    · exact fun e => Or.inr ((n 92).1 e)
    · rintro (e | e)
      · exact absurd e h34
      · exact (n 92).2 e
theorem qr_l0 {a : ByteArray} (hn : a.size ≤ 1000000) : ∀ (d i k : Nat) (acc : B), i + d = a.size → 2 * d < k → acc.length ≤ 4 * i + 1 →
    trammelref03_Quote.l0 k a hexB (nums acc) (i : Int) = some ⟨(acc ++ (D a i).flatMap qp ++ [34]).toArray⟩ := by
  intro d
  induction d with
  | zero =>
    intro i k acc hd hk hl
    obtain ⟨k, rfl⟩ : ∃ m, k = m + 1 := ⟨k - 1, by omega⟩
    rw [trammelref03_Quote.l0]
    rw [if_neg (by omega), if_pos (by unfold nums; rw [List.length_map]; omega), D_nil (by omega), show nums acc ++ [34] = nums (acc ++ [34]) from nums_app acc [34], nums_str]
    simp
  | succ d ih =>
    intro i k acc hd hk hl
    obtain ⟨k, rfl⟩ : ∃ m, k = m + 1 + 1 := ⟨k - 2, by omega⟩
    obtain ⟨c, hc, hb⟩ := D_cons (s := a) (i := i) (by omega)
    have hq := qp_len c
    rw [qr_step hn hc hb (by omega) acc (by omega), ih (i + 1) k _ (by omega) (by omega) (by rw [List.length_append]; omega), hc, List.flatMap_cons]
    simp only [List.append_assoc]
theorem quote_r {a : ByteArray} (hn : a.size ≤ 1000000) {k : Nat} (hk : 2 * a.size < k) : trammelref03_Quote.f k a = some ⟨(qt a.data.toList).toArray⟩ := by
  have := qr_l0 hn a.size 0 k [34] (by omega) hk (by decide)
  exact this
theorem kept_l0 (x : ByteArray) (l : List ByteArray) (hl : l.length ≤ 1000) : ∀ (d i k : Nat), i + d = l.length → d < k → trammelref03_Kept.l0 k x l (l.length : Int) (i : Int) = some (decide (x.data.toList ∈ (l.drop i).map fun y => y.data.toList)) := by
  intro d
  induction d with
  | zero =>
    intro i k hd hk
    obtain ⟨k, rfl⟩ : ∃ m, k = m + 1 := ⟨k - 1, by omega⟩
    simp only [trammelref03_Kept.l0]
    rw [if_neg (by omega), List.drop_eq_nil_of_le (by omega)]
    simp
  | succ d ih =>
    intro i k hd hk
    obtain ⟨k, rfl⟩ : ∃ m, k = m + 1 := ⟨k - 1, by omega⟩
    have hi : i < l.length := by omega
    have h1 : rdOf ByteArray.empty l (i : Int) = l[i] := by simp [rdOf, List.getD_eq_getElem?_getD, hi]
    simp only [trammelref03_Kept.l0]
    rw [if_pos (by omega), if_pos (by omega), if_pos (by omega), h1, w64 (by omega) (by omega), show (i : Int) + 1 = ((i + 1 : Nat) : Int) by omega, ih (i + 1) k (by omega) (by omega), List.drop_eq_getElem_cons hi, Lib.toList_data, Lib.toList_data, List.map_cons]
    by_cases h : x.data.toList = l[i].data.toList
    · rw [if_pos h, decide_eq_true (by rw [h]; exact List.mem_cons_self)]
    · rw [if_neg h]
      congr 1
      rw [Bool.eq_iff_iff, decide_eq_true_eq, decide_eq_true_eq, List.mem_cons]
      constructor
      · exact Or.inr
      · rintro (e | e)
        · exact absurd e h
        · exact e
theorem kept_r {k : Nat} (hk : 30 ≤ k) (a : ByteArray) : trammelref03_Kept.f k a = some (kept a.data.toList) := by
  show (trammelref03_Kept.l0 k a keptL (keptL.length : Int) 0) = _
  have := kept_l0 a keptL (by decide) 27 0 k rfl (by omega)
  exact this
theorem name_r {a : ByteArray} (hn : a.size ≤ 1000000) {k : Nat} (hk : a.size + 30 ≤ k) : trammelref03_Name.f k a = some (nameL a.data.toList && !kept a.data.toList) := by
  unfold trammelref03_Name.f
  rw [Lib.toList_data]
  have hw := words_r hn (i := 0) (k := k) (by omega) (by omega)
  have hD : D a 0 = a.data.toList := List.drop_zero
  cases h : a.data.toList with
  | nil => rw [if_pos rfl]; rfl
  | cons c t =>
    rw [hD, h] at hw
    have hs : a.size = t.length + 1 := by rw [size_len, h]; rfl
    have hb := bt_nat a 0 (by rw [h]; simp)
    have hb' : bt a 0 = (c.toNat : Int) := by simpa [h] using hb
    rw [if_neg (by simp), if_pos (by omega), hb', letter_r]
    simp only [Option.bind_some, nameL]
    cases hL : isL c with
    | false => rw [if_neg (by decide)]; rfl
    | true =>
      rw [if_pos rfl, show (0 : Int) = ((0 : Nat) : Int) from rfl, hw]
      simp only [Option.bind_some]
      by_cases hq : (c :: t).all isW = true
      · have := word_len_all.2 hq
        rw [if_pos (by rw [this, hs, Nat.zero_add]; rfl), kept_r (by omega), h, hq]
        rfl
      · have : ¬ (word (c :: t)).length = (c :: t).length := fun e => hq (word_len_all.1 e)
        rw [if_neg (fun e => this (by rw [hs] at e; rw [List.length_cons]; omega)), Bool.eq_false_iff.2 hq]
        rfl
theorem LexWords : trammellaw03_LexWords.Pure := by
  intro a0 _
  by_cases h : (a0.size : Int) > 8192
  · exact ⟨0, by unfold trammellaw03_LexWords.f; rw [if_pos h]⟩
  · refine ⟨20001, ?_⟩
    unfold trammellaw03_LexWords.f
    rw [if_neg h, show lex_Quote.f a0 = some ⟨(qt a0.data.toList).toArray⟩ from if_pos (by omega), quote_r (by omega) (by omega), name_f (by omega) (by omega), name_r (by omega) (by omega), kept_f (by omega), kept_r (by omega), works_w (by omega)]
    simp only [Option.bind_some]
    rw [if_pos trivial, if_pos (beq_self_eq_true _), if_pos (beq_self_eq_true _)]
end Go.Proofs.Ytmmilinbpimfaaa.Pure
