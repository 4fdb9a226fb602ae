/- What the lexer's small functions answer, in plain Lean, over the printed functions. No conditions. -/
import Derived.Test.YtmmilinbpimfaaaPLexKnownx6
import Derived.Test.YtmmilinbpimfaaaSpec
import Derived.Lib.IndexBytes
import Derived.Lib.Strings
import Derived.Lib.Bytealg
set_option linter.unusedSimpArgs false
namespace Go.Proofs.Ytmmilinbpimfaaa.PureLex
open Go.RowKit Go.Proofs.Ytmmilinbpimfaaa.PLexKnown Go.Proofs.YtmmilinbpimfaaaW.PrintWords Go.Proofs.Ytmmilinbpimfaaa.Spec
theorem w64 {x : Int} (h0 : -9223372036854775808 ≤ x) (h1 : x ≤ 9223372036854775807) : wrap64 x = x := by unfold wrap64; omega
theorem bt_nat (s : ByteArray) (i : Nat) (h : i < s.data.toList.length) : bt s (i : Int) = ((s.data.toList[i]).toNat : Int) := by
  have h' : i < s.size := by simpa using h
  simp [bt, h']
  rfl
theorem in2 (k : Nat) (x a b : Int) : lex_in.f (k + 3) x [a, b] = some (decide (a ≤ x ∧ x ≤ b)) := by
  simp only [lex_in.f, lex_in.l0, List.length_cons, List.length_nil]
  rw [w64 (by omega) (by omega)]
  simp [rd, w64]
  by_cases h1 : a ≤ x
  · by_cases h2 : x ≤ b <;> simp [h1, h2, lex_in.l0, wrap64]
  · simp [h1, lex_in.l0, wrap64]
theorem in4 (k : Nat) (x a b c d : Int) : lex_in.f (k + 4) x [a, b, c, d] = some (decide ((a ≤ x ∧ x ≤ b) ∨ (c ≤ x ∧ x ≤ d))) := by
  by_cases h1 : a ≤ x <;> by_cases h2 : x ≤ b <;> by_cases h3 : c ≤ x <;> by_cases h4 : x ≤ d <;> simp [lex_in.f, lex_in.l0, rd, wrap64, h1, h2, h3, h4]
theorem in6 (k : Nat) (x a b c d e f : Int) : lex_in.f (k + 5) x [a, b, c, d, e, f] = some (decide ((a ≤ x ∧ x ≤ b) ∨ (c ≤ x ∧ x ≤ d) ∨ (e ≤ x ∧ x ≤ f))) := by
  by_cases h1 : a ≤ x <;> by_cases h2 : x ≤ b <;> by_cases h3 : c ≤ x <;> by_cases h4 : x ≤ d <;> by_cases h5 : e ≤ x <;> by_cases h6 : x ≤ f <;> simp [lex_in.f, lex_in.l0, rd, wrap64, h1, h2, h3, h4, h5, h6]
theorem digit_f (k : Nat) (c : UInt8) : lex_digit.f (k + 3) (c.toNat : Int) = some (isD c) := by
  unfold lex_digit.f
  rw [in2]
  simp only [Option.bind_some, isD, UInt8.le_iff_toNat_le]
  congr 1
  rw [Bool.eq_iff_iff]
  simp
  omega
theorem letter_f (k : Nat) (c : UInt8) : lex_letter.f (k + 5) (c.toNat : Int) = some (isL c) := by
  unfold lex_letter.f
  rw [in6]
  simp only [Option.bind_some, isL, UInt8.le_iff_toNat_le]
  congr 1
  rw [Bool.eq_iff_iff]
  simp [← UInt8.toNat_inj]
  omega
theorem digit_k {k : Nat} (hk : 3 ≤ k) (c : UInt8) : lex_digit.f k (c.toNat : Int) = some (isD c) := by
  obtain ⟨m, rfl⟩ : ∃ m, k = m + 3 := ⟨k - 3, by omega⟩
  exact digit_f m c
theorem letter_k {k : Nat} (hk : 5 ≤ k) (c : UInt8) : lex_letter.f k (c.toNat : Int) = some (isL c) := by
  obtain ⟨m, rfl⟩ : ∃ m, k = m + 5 := ⟨k - 5, by omega⟩
  exact letter_f m c
theorem size_len (a : ByteArray) : a.size = a.data.toList.length := (data_length a).symm
theorem run_l0 (a : ByteArray) (hn : a.size ≤ 1000000000) : ∀ (d i k : Nat), i + d = a.size → d + 5 < k → lex_run.l0 k a (i : Int) = some (((i + (word (a.data.toList.drop i)).length : Nat)) : Int) := by
  intro d
  induction d with
  | zero =>
    intro i k hd hk
    obtain ⟨k, rfl⟩ : ∃ m, k = m + 1 := ⟨k - 1, by omega⟩
    simp only [lex_run.l0]
    rw [if_neg (by omega), List.drop_eq_nil_of_le (by rw [← size_len]; omega)]
    simp [word]
  | succ d ih =>
    intro i k hd hk
    obtain ⟨k, rfl⟩ : ∃ m, k = m + 1 := ⟨k - 1, by omega⟩
    have hi : i < a.data.toList.length := by rw [← size_len]; omega
    simp only [lex_run.l0]
    rw [if_pos (by omega), if_pos (by omega), bt_nat a i hi, letter_k (by omega), digit_k (by omega), w64 (by omega) (by omega), show (i : Int) + 1 = ((i + 1 : Nat) : Int) by omega, ih (i + 1) k (by omega) (by omega)]
    simp only [Option.bind_some]
    rw [List.drop_eq_getElem_cons hi]
    simp only [word, List.takeWhile_cons]
    generalize List.takeWhile isW (List.drop (i + 1) a.data.toList) = y
    generalize a.data.toList[i] = c
    by_cases h1 : isL c = true
    · rw [if_pos h1, if_pos (by simp [isW, h1]), List.length_cons]
      congr 1
      omega
    · rw [if_neg h1]
      by_cases h2 : isD c = true
      · rw [if_pos h2, if_pos (by simp [isW, h2]), List.length_cons]
        congr 1
        omega
      · rw [if_neg h2, if_neg (by simp [isW, h1, h2])]
        simp
theorem run_f (a : ByteArray) (hn : a.size ≤ 1000000000) {k : Nat} (hk : a.size + 5 < k) : lex_run.f k a = some (((word a.data.toList).length : Nat) : Int) := by
  unfold lex_run.f
  have := run_l0 a hn a.size 0 k (by omega) hk
  simpa using this
theorem open_f {k : Nat} (hk : 4 ≤ k) (a : ByteArray) : lex_open.f k a = some (opn a.data.toList) := by
  obtain ⟨k, rfl⟩ : ∃ m, k = m + 4 := ⟨k - 4, by omega⟩
  unfold lex_open.f
  rw [Lib.toList_data]
  cases h : a.data.toList with
  | nil => simp [opn]
  | cons c t =>
    have hs : a.size = t.length + 1 := by rw [size_len, h]; rfl
    have hb := bt_nat a 0 (by rw [h]; simp)
    have hb' : bt a 0 = (c.toNat : Int) := by simpa [h] using hb
    rw [if_neg (by simp), if_pos (by omega), hb', in4]
    simp only [Option.bind_some, opn]
    congr 1
    rw [Bool.eq_iff_iff]
    simp [← UInt8.toNat_inj, UInt8.lt_iff_toNat_lt]
    omega
theorem worth_f {k : Nat} (hk : 3 ≤ k) (c : UInt8) : lex_worth.f k (c.toNat : Int) = some (match hexv c with | none => -1 | some v => (v : Int)) := by
  obtain ⟨k, rfl⟩ : ∃ m, k = m + 3 := ⟨k - 3, by omega⟩
  have hc := c.toNat_lt
  unfold lex_worth.f
  rw [digit_f, in2, in2]
  simp only [Option.bind_some, hexv]
  by_cases h1 : 48 ≤ c.toNat ∧ c.toNat ≤ 57
  · have e1 : isD c = true := by unfold isD; simp [UInt8.le_iff_toNat_le, h1.1, h1.2]
    rw [if_pos e1, if_pos e1]
    show some (((c.toNat : Int) - 48) % 256) = some ((c.toNat - 48 : Nat) : Int)
    congr 1
    omega
  · have e1 : isD c = false := by unfold isD; simp [UInt8.le_iff_toNat_le]; omega
    by_cases h2 : 97 ≤ c.toNat ∧ c.toNat ≤ 102
    · have f1 : decide (97 ≤ (c.toNat : Int) ∧ (c.toNat : Int) ≤ 102) = true := decide_eq_true (by omega)
      have f2 : (decide (97 ≤ c) && decide (c ≤ 102)) = true := by simp [UInt8.le_iff_toNat_le, h2.1, h2.2]
      simp only [e1, f1, f2, Bool.false_eq_true, if_false, if_true]
      show some (((c.toNat : Int) - 97) % 256 + 10) = some ((c.toNat - 87 : Nat) : Int)
      congr 1
      omega
    · have f1 : decide (97 ≤ (c.toNat : Int) ∧ (c.toNat : Int) ≤ 102) = false := decide_eq_false (by omega)
      have f2 : (decide (97 ≤ c) && decide (c ≤ 102)) = false := by simp [UInt8.le_iff_toNat_le]; omega
      by_cases h3 : 65 ≤ c.toNat ∧ c.toNat ≤ 70
      · have g1 : decide (65 ≤ (c.toNat : Int) ∧ (c.toNat : Int) ≤ 70) = true := decide_eq_true (by omega)
        have g2 : (decide (65 ≤ c) && decide (c ≤ 70)) = true := by simp [UInt8.le_iff_toNat_le, h3.1, h3.2]
        simp only [e1, f1, f2, g1, g2, Bool.false_eq_true, if_false, if_true]
        show some (((c.toNat : Int) - 65) % 256 + 10) = some ((c.toNat - 55 : Nat) : Int)
        congr 1
        omega
      · have g1 : decide (65 ≤ (c.toNat : Int) ∧ (c.toNat : Int) ≤ 70) = false := decide_eq_false (by omega)
        have g2 : (decide (65 ≤ c) && decide (c ≤ 70)) = false := by simp [UInt8.le_iff_toNat_le]; omega
        simp only [e1, f1, f2, g1, g2, Bool.false_eq_true, if_false]
theorem hexv_le {c : UInt8} {v : Nat} (h : hexv c = some v) : v ≤ 15 := by
  unfold hexv isD at h
  simp only [Bool.and_eq_true, decide_eq_true_eq, UInt8.le_iff_toNat_le] at h
  split at h
  · rename_i g
    have := g.2
    simp at this h
    omega
  · split at h
    · rename_i g
      have := g.2
      simp at this h
      omega
    · split at h
      · rename_i g
        have := g.2
        simp at this h
        omega
      · cases h
theorem drop_data (a : ByteArray) (i : Nat) : (a.extract i a.size).data.toList = a.data.toList.drop i := Lib.extract_to_end a i
theorem prefix_f (a : ByteArray) : strings_HasPrefix.f a (⟨#[47, 47]⟩ : ByteArray) = some (cmt a.data.toList) := by
  unfold strings_HasPrefix.f stringslite_HasPrefix.f
  have h2 : (⟨#[47, 47]⟩ : ByteArray).size = 2 := rfl
  have h3 : (⟨#[47, 47]⟩ : ByteArray).toList = [47, 47] := by rw [Lib.toList_data]
  rw [h2, h3]
  by_cases h : 2 ≤ a.size
  · rw [if_pos (by omega), if_pos (by omega), if_pos (by omega), Lib.toList_data, show ((((2 : Nat) : Int)).toNat) = 2 from rfl, Lib.extract_data, List.drop_zero]
    simp only [Option.bind_some]
    congr 1
    rw [size_len] at h
    match e : a.data.toList, h with
    | c :: d :: t, _ =>
      simp only [List.take_succ_cons, List.take_zero, cmt]
      cases hc : (c == 47) <;> cases hd : (d == 47) <;> simp_all
  · rw [if_neg (by omega)]
    simp only [Option.bind_some]
    congr 1
    rw [size_len] at h
    match e : a.data.toList with
    | [] => rfl
    | [_] => rfl
    | c :: d :: t => rw [e] at h; simp at h
theorem index_line : ∀ l : B, (Lib.indexByte l 10 < 0 → line l = [] ) ∧ (0 ≤ Lib.indexByte l 10 → (Lib.indexByte l 10).toNat ≤ l.length ∧ line l = l.drop (Lib.indexByte l 10).toNat)
  | [] => by simp [Lib.indexByte, line]
  | c :: t => by
    have ih := index_line t
    have hg := Lib.indexByte_ge t 10
    simp only [Lib.indexByte]
    by_cases h : c = 10
    · subst h
      simp [line]
    · have hb : (c == 10) = false := by simpa using h
      have hl : line (c :: t) = line t := by simp [line, h]
      rw [hb, hl]
      by_cases h1 : Lib.indexByte t 10 = -1
      · have h1' : (Lib.indexByte t 10 == -1) = true := by simp [h1]
        simp only [h1', Bool.false_eq_true, if_false, if_true]
        exact ⟨fun _ => ih.1 (by omega), fun h => by omega⟩
      · have h1' : (Lib.indexByte t 10 == -1) = false := by simp [h1]
        simp only [h1', Bool.false_eq_true, if_false]
        have ih2 := ih.2 (by omega)
        refine ⟨fun h => by omega, fun _ => ⟨by simp; omega, ?_⟩⟩
        rw [show (Lib.indexByte t 10 + 1).toNat = (Lib.indexByte t 10).toNat + 1 by omega, List.drop_succ_cons]
        exact ih2.2
def escR : Esc → Int × Int × Int
  | .cut => (0, 0, 31)
  | .bad => (0, 0, 32)
  | .ok c n => ((c.toNat : Int), (n : Int), 0)
theorem index5 (c : UInt8) : Lib.indexByte [34, 92, 110, 116, 114] c = if c = 34 then 0 else if c = 92 then 1 else if c = 110 then 2 else if c = 116 then 3 else if c = 114 then 4 else -1 := by
  simp only [Lib.indexByte, beq_iff_eq, eq_comm (a := c)]
  repeat' split
  all_goals first | rfl | simp_all
theorem escape_f (a : ByteArray) (hn : a.size ≤ 1000000000) {k : Nat} (hk : 12 ≤ k) : lex_escape.f k a = some (escR (esc a.data.toList)) := by
  unfold lex_escape.f
  rw [open_f (by omega)]
  simp only [Option.bind_some]
  match e : a.data.toList with
  | [] => simp [opn, esc, escR]
  | c :: t =>
    have hs : a.size = t.length + 1 := by rw [size_len, e]; rfl
    by_cases ho : opn (c :: t) = true
    · rw [if_pos ho]
      simp only [esc, ho, if_true, escR]
    · rw [if_neg ho, if_pos (by omega)]
      have hb : bt a 0 = (c.toNat : Int) := by have := bt_nat a 0 (by rw [e]; simp); simpa [e] using this
      rw [hb]
      simp only [strings_IndexByte.f, Option.bind_some, Int.toNat_natCast, UInt8.ofNat_toNat, Nat.toUInt8_eq]
      rw [index5]
      simp only [esc, ho, Bool.false_eq_true, if_false]
      by_cases h1 : c = 34
      · subst h1; rfl
      by_cases h2 : c = 92
      · subst h2; rfl
      by_cases h3 : c = 110
      · subst h3; rfl
      by_cases h4 : c = 116
      · subst h4; rfl
      by_cases h5 : c = 114
      · subst h5; rfl
      simp only [h1, h2, h3, h4, h5, if_false]
      rw [if_neg (by omega)]
      by_cases h6 : c = 120
      · subst h6
        rw [if_pos (show ((UInt8.toNat 120 : Nat) : Int) = 120 from rfl)]
        obtain ⟨k, rfl⟩ : ∃ m, k = m + 3 := ⟨k - 3, by omega⟩
        rw [lex_escape.l0, if_pos (by omega), if_pos (by omega), if_pos (by omega), open_f (by omega)]
        simp only [Option.bind_some]
        rw [show ((1 : Int)).toNat = 1 from rfl, drop_data, e, List.drop_succ_cons, List.drop_zero]
        match t, hs with
        | [], _ => simp [opn, escR]
        | x :: t1, hs =>
          by_cases ho1 : opn (x :: t1) = true
          · rw [if_pos ho1, if_pos ho1]; rfl
          · rw [if_neg ho1, if_neg ho1, if_pos (by simp only [List.length_cons] at hs; omega)]
            have hb1 : bt a 1 = (x.toNat : Int) := by have := bt_nat a 1 (by rw [e]; simp); simpa [e] using this
            rw [hb1, worth_f (by omega)]
            simp only [Option.bind_some]
            cases hx : hexv x with
            | none => simp [escR]
            | some v =>
              have hv := hexv_le hx
              simp only []
              rw [if_neg (by omega), w64 (x := 16 * 0) (by omega) (by omega), w64 (x := 16 * 0 + (v : Int)) (by omega) (by omega), w64 (x := 1 + 1) (by omega) (by omega), lex_escape.l0, if_pos (by omega), if_pos (by omega), if_pos (by simp only [List.length_cons] at hs; omega), open_f (by omega)]
              simp only [Option.bind_some]
              rw [show ((1 : Int) + 1).toNat = 2 from rfl, drop_data, e, List.drop_succ_cons, List.drop_succ_cons, List.drop_zero]
              match t1, hs with
              | [], _ => simp [opn, escR]
              | y :: t2, hs =>
                by_cases ho2 : opn (y :: t2) = true
                · rw [if_pos ho2, if_pos ho2]; rfl
                · rw [if_neg ho2, if_neg ho2, if_pos (by simp only [List.length_cons] at hs; omega)]
                  have hb2 : bt a (1 + 1) = (y.toNat : Int) := by have := bt_nat a 2 (by rw [e]; simp); simpa [e] using this
                  rw [hb2, worth_f (by omega)]
                  simp only [Option.bind_some]
                  cases hy : hexv y with
                  | none => simp [escR]
                  | some u =>
                    have hu := hexv_le hy
                    simp only []
                    rw [if_neg (by omega), w64 (x := 16 * (16 * 0 + (v : Int))) (by omega) (by omega), w64 (x := 16 * (16 * 0 + (v : Int)) + (u : Int)) (by omega) (by omega), w64 (x := 1 + 1 + 1) (by omega) (by omega), lex_escape.l0, if_neg (by omega)]
                    have hz : (UInt8.ofNat (16 * v + u)).toNat = 16 * v + u := by rw [UInt8.toNat_ofNat']; omega
                    simp only [escR, hz]
                    congr 2
                    omega
      · rw [if_neg (by intro h; exact h6 (UInt8.toNat_inj.1 (by show c.toNat = 120; omega))), if_neg h6]
        rfl
end Go.Proofs.Ytmmilinbpimfaaa.PureLex
