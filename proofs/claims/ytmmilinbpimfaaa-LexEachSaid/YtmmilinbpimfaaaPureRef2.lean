/- What the document's text, number and one answer, in plain Lean, over the printed functions. No conditions. -/
import Derived.Test.YtmmilinbpimfaaaPureRef
import Derived.Test.YtmmilinbpimfaaaWalkText
set_option linter.unusedSimpArgs false
namespace Go.Proofs.Ytmmilinbpimfaaa.PureRef
open Go.RowKit Go.Proofs.Ytmmilinbpimfaaa.PLexKnown Go.Proofs.YtmmilinbpimfaaaW.PrintWords Go.Proofs.Ytmmilinbpimfaaa.Spec Go.Proofs.Ytmmilinbpimfaaa.PureLex Go.Proofs.Ytmmilinbpimfaaa.WalkBlanks Go.Proofs.Ytmmilinbpimfaaa.WalkText
/-- A told token, at a place, as the document's functions hand it back. -/
def tup (at_ : Nat) : Res → Int × ByteArray × Int × Int × Int × Int × Int
  | .ok k t n m => ((k : Int), ⟨t.toArray⟩, (n : Int), (at_ : Int), ((at_ + m : Nat) : Int), 0, 0)
  | .bad d e => (0, ⟨#[]⟩, 0, 0, 0, ((at_ + d : Nat) : Int), (e : Int))
def nums8 (l : B) : List Int := l.map fun c => (c.toNat : Int)
theorem str_nums (l : B) : strOfNums (nums8 l) = ⟨l.toArray⟩ := by
  unfold strOfNums nums8
  congr 1
  simp [List.map_map, Function.comp_def]
theorem text_l0 (a : ByteArray) (hn : a.size ≤ 1000000) (at_ : Nat) : ∀ (d i k : Nat) (acc : B), i + d = a.size → at_ ≤ i → 10 + d < k → acc.length ≤ i →
    trammelref03_text.l0 k a (at_ : Int) (nums8 acc) (i : Int) = some (tup at_ (tx (D a i) (i - at_) acc)) := by
  intro d
  induction d using Nat.strongRecOn with
  | _ d ih =>
    intro i k acc hd ha hk hl
    obtain ⟨k, rfl⟩ : ∃ m, k = m + 1 := ⟨k - 1, by omega⟩
    simp only [trammelref03_text.l0]
    rw [ends_r]
    simp only [Option.bind_some]
    cases ho : opn (D a i) with
    | true =>
      rw [if_pos rfl, tx_end ho]
      simp [tup]
    | false =>
      have hlt : i < a.size := by
        rcases Nat.lt_or_ge i a.size with h | h
        · exact h
        · rw [D_nil h] at ho; cases ho
      obtain ⟨c, hc, hb⟩ := D_cons (s := a) (i := i) hlt
      rw [hc] at ho ⊢
      have hnl : (nums8 acc).length < 140737488355328 := by unfold nums8; rw [List.length_map]; omega
      have hsn : ∀ y : UInt8, nums8 acc ++ [(y.toNat : Int)] = nums8 (acc ++ [y]) := fun y => by simp [nums8]
      rw [if_neg (by simp), if_pos (by omega), if_pos (by omega), hb, up1 hn (by omega), plain_r]
      simp only [Option.bind_some]
      have n : ∀ m : UInt8, (c.toNat : Int) = (m.toNat : Int) ↔ c = m := fun m => by rw [← UInt8.toNat_inj]; omega
      have n34 := n 34
      simp only [show ((34 : UInt8).toNat : Int) = 34 from rfl] at n34
      by_cases h34 : c = 34
      · subst h34
        rw [if_pos (n34.2 rfl), tx_quote ho, str_nums]
        show _ = some (3, (⟨acc.toArray⟩ : ByteArray), 0, (at_ : Int), ((at_ + (i - at_ + 1) : Nat) : Int), 0, 0)
        rw [show at_ + (i - at_ + 1) = i + 1 by omega]
      · rw [if_neg (fun e => h34 (n34.1 e))]
        have ho1 : opn [c] = false := ho
        by_cases h92 : c = 92
        · subst h92
          rw [if_neg (by simp), esc_r hn (by omega) (by omega)]
          simp only [Option.bind_some]
          rw [tx_esc ho]
          cases hE : esc (D a (i + 1)) with
          | cut => rw [show escT .cut = (0, 0, 31) from rfl, if_pos rfl]; rfl
          | bad =>
            rw [show escT .bad = (0, 0, 32) from rfl, if_neg (by decide), if_neg (by decide)]
            show some _ = some (0, (⟨#[]⟩ : ByteArray), 0, 0, 0, ((at_ + (i - at_) : Nat) : Int), 32)
            rw [show at_ + (i - at_) = i by omega]
          | ok y m =>
            have hml := esc_len hE
            rw [D_len] at hml
            rw [show escT (.ok y m) = ((y.toNat : Int), ((m + 1 : Nat) : Int), 0) from rfl, if_neg (show ¬ ((0 : Int) = 31) by decide), if_pos rfl, if_pos hnl]
            simp only
            rw [hsn, w64 (by omega) (by omega), show (i : Int) + ((m + 1 : Nat) : Int) = ((i + 1 + m : Nat) : Int) by omega, ih (d - 1 - m) (by omega) (i + 1 + m) k _ (by omega) (by omega) (by omega) (by simp; omega), D_drop, show i + 1 + m - at_ = i - at_ + 1 + m by omega]
        · rw [if_pos (by simp [ho1, h34, h92]), if_pos hnl, hsn, ih (d - 1) (by omega) (i + 1) k _ (by omega) (by omega) (by omega) (by simp; omega), tx_other ho h34 h92, show i + 1 - at_ = i - at_ + 1 by omega]
theorem text_r {a : ByteArray} (hn : a.size ≤ 1000000) {at_ k : Nat} (hi : at_ < a.size) (hk : a.size + 11 < k) : trammelref03_text.f k a (at_ : Int) = some (tup at_ (tx (D a (at_ + 1)) 1 [])) := by
  unfold trammelref03_text.f
  rw [up1 hn (by omega)]
  have := text_l0 a hn at_ (a.size - (at_ + 1)) (at_ + 1) k [] (by omega) (by omega) (by omega) (by simp)
  rw [show at_ + 1 - at_ = 1 by omega] at this
  exact this
def tup6 (at_ : Nat) : Res → Int × ByteArray × Int × Int × Int × Int
  | .ok k t n m => ((k : Int), ⟨t.toArray⟩, (n : Int), (at_ : Int), ((at_ + m : Nat) : Int), 0)
  | .bad _ e => (0, ⟨#[]⟩, 0, 0, 0, (e : Int))
/-- What stands behind the digits. -/
def numEnd (at_ n j : Nat) (over : Bool) (s : B) : Int × ByteArray × Int × Int × Int × Int :=
  match top s with
  | none => (0, ⟨#[]⟩, 0, 0, 0, 33)
  | some m => if over = true ∨ m < n then (0, ⟨#[]⟩, 0, 0, 0, 33) else (2, ⟨s.toArray⟩, (n : Int), (at_ : Int), ((j + s.length : Nat) : Int), 0)
theorem ext_word {a : ByteArray} {j : Nat} (hj : j ≤ a.size) : a.extract j (j + (word (D a j)).length) = ⟨(word (D a j)).toArray⟩ ∧ j + (word (D a j)).length ≤ a.size := by
  have hl := word_le (D a j)
  rw [D_len] at hl
  refine ⟨?_, by omega⟩
  have e : (a.extract j (j + (word (D a j)).length)).data.toList = word (D a j) := by
    rw [Lib.extract_data, Nat.add_sub_cancel_left]
    exact (List.prefix_iff_eq_take.1 (List.takeWhile_prefix _)).symm
  exact WalkSign.str_eq e
theorem num_j1 {a : ByteArray} (hn : a.size ≤ 1000000) {at_ j k n : Nat} (hj : j ≤ a.size) (hk : a.size + 1 < k) (ov : Bool) :
    trammelref03_number.j1 k a (at_ : Int) (n : Int) ov (j : Int) false = some (numEnd at_ n j ov (word (D a j))) := by
  obtain ⟨k, rfl⟩ : ∃ m, k = m + 1 := ⟨k - 1, by omega⟩
  obtain ⟨he, hle⟩ := ext_word hj
  simp only [trammelref03_number.j1]
  rw [if_neg (by simp), words_r hn hj (by omega)]
  simp only [Option.bind_some]
  rw [if_pos (by omega), if_pos (by omega), if_pos (by omega), show ((j : Int)).toNat = j by omega, show (((j + (word (D a j)).length : Nat) : Int)).toNat = j + (word (D a j)).length by omega, he]
  unfold trammelref03_Top.f
  generalize word (D a j) = s
  simp only [Lib.toList_data]
  unfold numEnd top
  by_cases h0 : s = []
  · subst h0
    cases ov
    · by_cases hm : (18446744073709551615 : Int) < (n : Int)
      · simp [hm, show 18446744073709551615 < n by omega]
      · simp [hm, show ¬ 18446744073709551615 < n by omega]
    · simp
  · by_cases h8 : s = [105, 56]
    · subst h8
      cases ov
      · by_cases hm : (255 : Int) < (n : Int)
        · simp [hm, show 255 < n by omega]
        · simp [hm, show ¬ 255 < n by omega]
      · simp
    · by_cases h32 : s = [105, 51, 50]
      · subst h32
        cases ov
        · by_cases hm : (4294967295 : Int) < (n : Int)
          · simp [hm, show 4294967295 < n by omega]
          · simp [hm, show ¬ 4294967295 < n by omega]
        · simp
      · by_cases h64 : s = [105, 54, 52]
        · subst h64
          cases ov
          · by_cases hm : (18446744073709551615 : Int) < (n : Int)
            · simp [hm, show 18446744073709551615 < n by omega]
            · simp [hm, show ¬ 18446744073709551615 < n by omega]
          · simp
        · simp [h0, h8, h32, h64]
theorem num_l0 (a : ByteArray) (hn : a.size ≤ 1000000) (at_ : Nat) : ∀ (d i k n : Nat) (ov : Bool), i + d = a.size → a.size + 2 * d + 3 < k → n ≤ 18446744073709551615 →
    ∃ n' : Nat, trammelref03_number.l0 k a (at_ : Int) (n : Int) ov (i : Int) = some (numEnd at_ n' (i + (digits (D a i)).length) (ov || decide (18446744073709551615 < val n (digits (D a i)))) (word (D a (i + (digits (D a i)).length)))) ∧ (ov = false → val n (digits (D a i)) ≤ 18446744073709551615 → n' = val n (digits (D a i))) := by
  intro d
  induction d with
  | zero =>
    intro i k n ov hd hk hN
    obtain ⟨k, rfl⟩ : ∃ m, k = m + 1 := ⟨k - 1, by omega⟩
    refine ⟨n, ?_, fun _ _ => by rw [D_nil (by omega)]; rfl⟩
    simp only [trammelref03_number.l0]
    rw [if_neg (by omega), num_j1 hn (by omega) (by omega)]
    have e0 : digits (D a i) = [] := by rw [D_nil (by omega)]; rfl
    rw [e0]
    rw [List.length_nil, Nat.add_zero, val_nil, decide_eq_false (by omega), Bool.or_false]
  | succ d ih =>
    intro i k n ov hd hk hN
    obtain ⟨k, rfl⟩ : ∃ m, k = m + 1 := ⟨k - 1, by omega⟩
    obtain ⟨c, hc, hb⟩ := D_cons (s := a) (i := i) (by omega)
    simp only [trammelref03_number.l0]
    rw [if_pos (by omega), if_pos (by omega), hb, digit_r]
    simp only [Option.bind_some]
    by_cases hD : isD c = true
    · have hr := isD_r hD
      obtain ⟨k, rfl⟩ : ∃ m, k = m + 1 := ⟨k - 1, by omega⟩
      rw [hD]
      simp only [trammelref03_number.j1]
      rw [if_pos trivial, if_pos (by omega), if_pos (by omega), hb, show ((c.toNat : Int) - 48) % 256 = ((c.toNat - 48 : Nat) : Int) by omega, up1 hn (by omega)]
      rw [hc, digits_cons_yes hD, List.length_cons, val_cons]
      by_cases hov : (n : Int) > (18446744073709551615 - ((c.toNat - 48 : Nat) : Int)) / 10
      · rw [if_pos hov]
        obtain ⟨n', h1, h2⟩ := ih (i + 1) k n true (by omega) (by omega) hN
        have hbig : 18446744073709551615 < 10 * n + (c.toNat - 48) := by omega
        have hv := val_le (digits (D a (i + 1))) (10 * n + (c.toNat - 48))
        refine ⟨n', ?_, fun _ h => by omega⟩
        rw [h1, decide_eq_true (show 18446744073709551615 < val (10 * n + (c.toNat - 48)) (digits (D a (i + 1))) by omega), show i + ((digits (D a (i + 1))).length + 1) = i + 1 + (digits (D a (i + 1))).length by omega]
        simp
      · rw [if_neg hov]
        have hsm : 10 * n + (c.toNat - 48) ≤ 18446744073709551615 := by omega
        have hw : IntKind.u64.wrap (IntKind.u64.wrap ((n : Int) * 10) + ((c.toNat - 48 : Nat) : Int)) = ((10 * n + (c.toNat - 48) : Nat) : Int) := by
          have w : ∀ x : Int, 0 ≤ x → x ≤ 18446744073709551615 → IntKind.u64.wrap x = x := fun x h0 h1 => by
            show x % 18446744073709551616 = x
            omega
          rw [w ((n : Int) * 10) (by omega) (by omega), w _ (by omega) (by omega)]
          omega
        rw [hw]
        obtain ⟨n', h1, h2⟩ := ih (i + 1) k (10 * n + (c.toNat - 48)) ov (by omega) (by omega) hsm
        refine ⟨n', ?_, h2⟩
        rw [h1, show i + ((digits (D a (i + 1))).length + 1) = i + 1 + (digits (D a (i + 1))).length by omega]
    · have e0 : digits (D a i) = [] := by rw [hc]; exact digits_cons_no hD
      rw [show isD c = false by simpa using hD, num_j1 hn (by omega) (by omega)]
      refine ⟨n, ?_, fun _ _ => by rw [e0, val_nil]⟩
      rw [e0, List.length_nil, Nat.add_zero, val_nil, decide_eq_false (by omega), Bool.or_false]
theorem number_r {a : ByteArray} (hn : a.size ≤ 1000000) {at_ k : Nat} (hi : at_ ≤ a.size) (hk : 3 * a.size + 4 < k) : trammelref03_number.f k a (at_ : Int) = some (tup6 at_ (num (D a at_))) := by
  unfold trammelref03_number.f
  obtain ⟨n', h1, h2⟩ := num_l0 a hn at_ (a.size - at_) at_ k 0 false (by omega) (by omega) (by omega)
  rw [show ((0 : Nat) : Int) = 0 from rfl] at h1
  rw [h1]
  congr 1
  have hs := suffix_word (D a at_)
  rw [D_drop] at hs
  have hw := congrArg List.length (word_split (D a at_))
  rw [List.length_append, D_drop] at hw
  unfold num numEnd
  rw [hs]
  cases ht : top (word (D a (at_ + (digits (D a at_)).length))) with
  | none => rfl
  | some m =>
    have hm : 255 ≤ m ∧ m ≤ 18446744073709551615 := by
      unfold top at ht
      repeat' split at ht
      all_goals first | (injection ht with ht; omega) | cases ht
    rw [Bool.false_or]
    simp only
    rw [numv_val m (by omega) _ _ (digits_D _) (by omega)]
    by_cases hv : 18446744073709551615 < val 0 (digits (D a at_))
    · rw [decide_eq_true hv, if_pos (Or.inl rfl), if_neg (by omega)]
      rfl
    · rw [decide_eq_false hv]
      have hn' := h2 rfl (by omega)
      subst hn'
      by_cases hv2 : m < val 0 (digits (D a at_))
      · rw [if_pos (Or.inr hv2), if_neg (by omega)]
        rfl
      · rw [if_neg (by simp [hv2]), if_pos (by omega)]
        simp only [tup6]
        congr 5
        omega
end Go.Proofs.Ytmmilinbpimfaaa.PureRef
