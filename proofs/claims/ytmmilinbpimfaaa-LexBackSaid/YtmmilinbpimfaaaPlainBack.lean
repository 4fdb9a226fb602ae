/- A text, quoted, is one token that stands for it: in plain Lean. No conditions. -/
import Derived.Test.YtmmilinbpimfaaaWalkTokens
import Derived.Test.YtmmilinbpimfaaaWalkQuote
import Derived.Test.YtmmilinbpimfaaaPlainLex
set_option linter.unusedSimpArgs false
namespace Go.Proofs.Ytmmilinbpimfaaa.PlainBack
open Go.RowKit Go.Proofs.Ytmmilinbpimfaaa.PLexKnown Go.Proofs.Ytmmilinbpimfaaa.Spec Go.Proofs.Ytmmilinbpimfaaa.WalkText Go.Proofs.Ytmmilinbpimfaaa.WalkQuote Go.Proofs.Ytmmilinbpimfaaa.WalkTokens
theorem hexd_f : ∀ n : Fin 16, hexv (hexd n.1) = some n.1 ∧ opn [hexd n.1] = false := by decide +kernel
theorem esc_one {c y : UInt8} {t : B} (h : (c = 34 ∧ y = 34) ∨ (c = 92 ∧ y = 92) ∨ (c = 110 ∧ y = 10) ∨ (c = 116 ∧ y = 9) ∨ (c = 114 ∧ y = 13)) : esc (c :: t) = .ok y 1 := by
  rcases h with ⟨rfl, rfl⟩ | ⟨rfl, rfl⟩ | ⟨rfl, rfl⟩ | ⟨rfl, rfl⟩ | ⟨rfl, rfl⟩ <;> rfl
theorem esc_hex {d1 d2 : UInt8} {x y : Nat} {t : B} (h1 : hexv d1 = some x) (o1 : opn [d1] = false) (h2 : hexv d2 = some y) (o2 : opn [d2] = false) : esc (120 :: d1 :: d2 :: t) = .ok (UInt8.ofNat (16 * x + y)) 3 := by
  have o1' : opn (d1 :: d2 :: t) = false := o1
  have o2' : opn (d2 :: t) = false := o2
  simp only [esc]
  rw [if_neg (show ¬ opn (120 :: _) = true from fun e => by cases e), if_neg (by decide), if_neg (by decide), if_neg (by decide), if_neg (by decide), if_neg (by decide), if_pos trivial, if_neg (by rw [o1']; decide), h1]
  simp only
  rw [if_neg (by rw [o2']; decide), h2]
theorem tx_two {c y : UInt8} (h : (c = 34 ∧ y = 34) ∨ (c = 92 ∧ y = 92) ∨ (c = 110 ∧ y = 10) ∨ (c = 116 ∧ y = 9) ∨ (c = 114 ∧ y = 13)) (rest : B) (i : Nat) (acc : B) : tx ([92, c] ++ rest) i acc = tx rest (i + 2) (acc ++ [y]) := by
  show tx (92 :: c :: rest) i acc = _
  rw [tx_esc rfl, esc_one h]
  rfl
theorem tx_qp (c : UInt8) (rest : B) (i : Nat) (acc : B) : tx (qp c ++ rest) i acc = tx rest (i + (qp c).length) (acc ++ [c]) := by
  unfold qp
  by_cases h34 : c = 34
  · rw [if_pos h34]; exact tx_two (.inl ⟨rfl, h34⟩) rest i acc
  rw [if_neg h34]
  by_cases h92 : c = 92
  · rw [if_pos h92]; exact tx_two (.inr (.inl ⟨rfl, h92⟩)) rest i acc
  rw [if_neg h92]
  by_cases h10 : c = 10
  · rw [if_pos h10]; exact tx_two (.inr (.inr (.inl ⟨rfl, h10⟩))) rest i acc
  rw [if_neg h10]
  by_cases h9 : c = 9
  · rw [if_pos h9]; exact tx_two (.inr (.inr (.inr (.inl ⟨rfl, h9⟩)))) rest i acc
  rw [if_neg h9]
  by_cases h13 : c = 13
  · rw [if_pos h13]; exact tx_two (.inr (.inr (.inr (.inr ⟨rfl, h13⟩)))) rest i acc
  rw [if_neg h13]
  by_cases hx : c < 32 ∨ c = 127
  · rw [if_pos hx]
    have hc := c.toNat_lt
    obtain ⟨a1, a2⟩ := hexd_f ⟨c.toNat / 16, by omega⟩
    obtain ⟨b1, b2⟩ := hexd_f ⟨c.toNat % 16, by omega⟩
    show tx (92 :: 120 :: hexd (c.toNat / 16) :: hexd (c.toNat % 16) :: rest) i acc = _
    rw [tx_esc rfl, esc_hex a1 a2 b1 b2]
    show tx rest (i + 1 + 3) (acc ++ [UInt8.ofNat (16 * (c.toNat / 16) + c.toNat % 16)]) = _
    rw [show 16 * (c.toNat / 16) + c.toNat % 16 = c.toNat by omega, UInt8.ofNat_toNat]
    rfl
  · rw [if_neg hx]
    have ho : opn (c :: rest) = false := by
      unfold opn
      rw [Bool.eq_false_iff]
      intro e
      apply hx
      simpa using e
    show tx (c :: rest) i acc = _
    rw [tx_other ho h34 h92]
    rfl
theorem tx_flat : ∀ (s rest : B) (i : Nat) (acc : B), tx (s.flatMap qp ++ rest) i acc = tx rest (i + (s.flatMap qp).length) (acc ++ s)
  | [], rest, i, acc => by simp
  | c :: t, rest, i, acc => by
    rw [List.flatMap_cons, List.append_assoc, tx_qp, tx_flat t]
    simp [Nat.add_assoc]
theorem flat_len : ∀ s : B, (s.flatMap qp).length ≤ 4 * s.length
  | [] => by simp
  | c :: t => by
    have h1 := qp_len c
    have h2 := flat_len t
    rw [List.flatMap_cons, List.length_append, List.length_cons]
    omega
theorem nxt_quote (t : B) : nxt (34 :: t) = tx t 1 [] := rfl
theorem cmt_quote (t : B) : cmt (34 :: t) = false := by cases t <;> rfl
theorem sk_quote (t : B) : sk (34 :: t) = 34 :: t := sk_stop (cmt_quote t) rfl
theorem items_quote (f : Nat) (t : B) {k m : Nat} {x : B} {v : Nat} (h : tx t 1 [] = .ok k x v m) (hm : (34 :: t).drop m = []) : items (f + 2) 0 0 (34 :: t) = [(0, .ok k x v m)] := by
  rw [items, sk_quote]
  simp only
  rw [if_neg (by decide), nxt_quote, h]
  simp only
  rw [hm, items, sk_nil]
  simp
theorem items_quote_bad (f : Nat) (t : B) {d e : Nat} (h : tx t 1 [] = .bad d e) : items (f + 2) 0 0 (34 :: t) = [(0, .bad d e)] := by
  rw [items, sk_quote]
  simp only
  rw [if_neg (by decide), nxt_quote, h]
  simp
theorem toks_quote (s : B) (hs : s.length ≤ 8192) : toks (qt s) = ([⟨3, ⟨s.toArray⟩, 0, 0, ((qt s).length : Int)⟩], 0, 0) := by
  have hl := flat_len s
  have hq : (qt s).length = 1 + (s.flatMap qp).length + 1 := by unfold qt; simp; omega
  have ht : tx (s.flatMap qp ++ [34]) 1 [] = .ok 3 s 0 (qt s).length := by
    rw [tx_flat, tx_quote rfl, List.nil_append, hq]
  unfold toks
  rw [if_neg (by omega), show qt s = 34 :: (s.flatMap qp ++ [34]) from rfl, items_quote 32768 _ ht (by rw [show (34 :: (s.flatMap qp ++ [34]) : B) = qt s from rfl]; exact List.drop_length)]
  show ([_] , _, _) = _
  rw [Nat.zero_add]
  rfl
theorem toks_cut (s : B) (hs : s.length ≤ 8192) : toks (34 :: s.flatMap qp) = ([], 0, 31) := by
  have hl := flat_len s
  have ht : tx (s.flatMap qp) 1 [] = .bad 0 31 := by
    have := tx_flat s [] 1 []
    rw [List.append_nil] at this
    rw [this, tx_end rfl]
  unfold toks
  rw [if_neg (by rw [List.length_cons]; omega), items_quote_bad 32768 _ ht]
  rfl
end Go.Proofs.Ytmmilinbpimfaaa.PlainBack
