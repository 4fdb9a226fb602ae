/- WordReckons: what the instructions answer is what the document's answer, in plain Lean, and the law's call. Under no conditions beyond the statement's own. -/
import Derived.Test.YtgomkbdemakndaaPWordReckonsx
import Derived.Test.YtgomkbdemakndaaPlainDiv
namespace Go.Proofs.Ytgomkbdemakndaa.Pure.WordReckonss
open Go.RowKit Go.Proofs.Ytgomkbdemakndaa.PWordReckons Go.Proofs.YtgomkbdemakndaaW.PrintWords Go.Proofs.YtgomkbdemakndaaW.PrintLast Go.Proofs.YtgomkbdemakndaaW.PrintMore Go.Proofs.Ytgomkbdemakndaa.Plain
theorem bits_f (w : Int) : word_Bits.f w = some (bitsW w) := by
  unfold word_Bits.f bitsW
  by_cases h1 : w = 1
  · rw [if_pos h1, if_pos h1]
  · by_cases h2 : w = 2
    · rw [if_neg h1, if_neg h1, if_pos h2, if_pos h2]
    · by_cases h3 : w = 3
      · rw [if_neg h1, if_neg h1, if_neg h2, if_neg h2, if_pos h3, if_pos h3]
      · rw [if_neg h1, if_neg h1, if_neg h2, if_neg h2, if_neg h3, if_neg h3]
theorem wrap_f (w n : Int) : word_Wrap.f w n = some (wrapW w n) := by
  unfold word_Wrap.f wrapW
  by_cases h1 : w = 1
  · rw [if_pos h1, if_pos h1, w8, back8]
  · by_cases h2 : w = 2
    · rw [if_neg h1, if_neg h1, if_pos h2, if_pos h2, w32, back32]
    · by_cases h3 : w = 3
      · rw [if_neg h1, if_neg h1, if_neg h2, if_neg h2, if_pos h3, if_pos h3]
      · rw [if_neg h1, if_neg h1, if_neg h2, if_neg h2, if_neg h3, if_neg h3]
theorem fits_f (w n : Int) : word_Fits.f w n = some (fitsW w n) := by
  unfold word_Fits.f
  rw [bits_f]
  simp only [obind]
  by_cases h : bitsW w > 0
  · rw [if_pos h, wrap_f]
    simp only [obind, fitsW]
    rw [decide_eq_true h, Bool.true_and]
  · rw [if_neg h]
    unfold fitsW
    rw [decide_eq_false h, Bool.false_and]
theorem two8F (k : Nat) (op a b : Int) : word_two_int8.f (k + 1) op a b 8 = (if op = 14 then (if b = 0 then some (0, 1) else some (wrap64 (IntKind.i8.wrap (Int.tdiv a b)), 0)) else if op = 15 then (if b = 0 then some (0, 1) else some (wrap64 (Int.tmod a b), 0))
    else if op = 12 then (some (wrap64 (IntKind.i8.wrap (a + (IntKind.i8.wrap (-b)))), 0)) else (if op = 11 then (some (wrap64 (IntKind.i8.wrap (a + b)), 0)) else (if op = 13 then (some (wrap64 (IntKind.i8.wrap (a * b)), 0)) else (if op = 16 then (some (wrap64 (Go.bits .and .i8 a b), 0)) else (if op = 17 then (some (wrap64 (Go.bits .or .i8 a b), 0)) else (if op = 18 then (some (wrap64 (Go.bits .xor .i8 a b), 0)) else (if op = 19 then (if (8 : Int) = 0 then (none) else (if 0 ≤ (Int.tmod (IntKind.u64.wrap (b)) 8) then (some (wrap64 (shl .i8 a (Int.tmod (IntKind.u64.wrap (b)) 8)), 0)) else (none))) else (if op = 20 then (if (8 : Int) = 0 then (none) else (if 0 ≤ (Int.tmod (IntKind.u64.wrap (b)) 8) then (some (wrap64 (shr .i8 a (Int.tmod (IntKind.u64.wrap (b)) 8)), 0)) else (none))) else (some (0, 0)))))))))) := by
  unfold word_two_int8.f
  simp only [word_two_int8.j0]
  by_cases h14 : op = 14
  · simp only [if_pos h14, if_pos (show (op == 14) = true by simp [h14])]
  · by_cases h15 : op = 15
    · simp only [if_neg h14, if_pos h15, if_pos (show (op == 15) = true by simp [h15])]
    · simp only [if_neg h14, if_neg h15, if_neg (show ¬ (op == 15) = true by simp [h15])]
theorem two8 (k : Nat) (op : Int) (A B : BitVec 8) : word_two_int8.f (k + 1) op A.toInt B.toInt 8 = some (twoB op A B) := by
  rw [two8F]
  unfold twoB
  by_cases h14 : op = 14
  · rw [if_pos h14, if_pos h14]
    by_cases hb : B = 0#8
    · rw [if_pos hb, if_pos ((toInt_eq_zero B).2 hb)]
    · rw [if_neg hb, if_neg (fun e => hb ((toInt_eq_zero B).1 e)), w8, BitVec.toInt_ofInt, ← BitVec.toInt_sdiv, back8]
  · rw [if_neg h14, if_neg h14]
    by_cases h15 : op = 15
    · rw [if_pos h15, if_pos h15]
      by_cases hb : B = 0#8
      · rw [if_pos hb, if_pos ((toInt_eq_zero B).2 hb)]
      · rw [if_neg hb, if_neg (fun e => hb ((toInt_eq_zero B).1 e)), ← BitVec.toInt_srem, back8]
    · rw [if_neg h15, if_neg h15]
      by_cases h12 : op = 12
      · rw [if_pos h12, if_pos h12, w8, w8, BitVec.ofInt_add, BitVec.ofInt_toInt, BitVec.ofInt_toInt, BitVec.ofInt_neg, BitVec.ofInt_toInt, ← BitVec.sub_eq_add_neg, back8]
      · rw [if_neg h12, if_neg h12]
        by_cases h11 : op = 11
        · rw [if_pos h11, if_pos h11, w8, BitVec.ofInt_add, BitVec.ofInt_toInt, BitVec.ofInt_toInt, back8]
        · rw [if_neg h11, if_neg h11]
          by_cases h13 : op = 13
          · rw [if_pos h13, if_pos h13, w8, BitVec.ofInt_mul, BitVec.ofInt_toInt, BitVec.ofInt_toInt, back8]
          · rw [if_neg h13, if_neg h13]
            by_cases h16 : op = 16
            · rw [if_pos h16, if_pos h16, show Go.bits .and .i8 A.toInt B.toInt = (A &&& B).toInt by rw [and_k s8]; exact congrArg BitVec.toInt (congr (congrArg _ BitVec.ofInt_toInt) BitVec.ofInt_toInt), back8]
            · rw [if_neg h16, if_neg h16]
              by_cases h17 : op = 17
              · rw [if_pos h17, if_pos h17, show Go.bits .or .i8 A.toInt B.toInt = (A ||| B).toInt by rw [or_k s8]; exact congrArg BitVec.toInt (congr (congrArg _ BitVec.ofInt_toInt) BitVec.ofInt_toInt), back8]
              · rw [if_neg h17, if_neg h17]
                by_cases h18 : op = 18
                · rw [if_pos h18, if_pos h18, show Go.bits .xor .i8 A.toInt B.toInt = (A ^^^ B).toInt by rw [xor_k s8]; exact congrArg BitVec.toInt (congr (congrArg _ BitVec.ofInt_toInt) BitVec.ofInt_toInt), back8]
                · rw [if_neg h18, if_neg h18, count8]
                  by_cases h19 : op = 19
                  · rw [if_pos h19, if_pos h19, if_neg (by decide), if_pos (by omega), show shl .i8 A.toInt ((B.toNat % 8 : Nat) : Int) = (A <<< (B.toNat % 8)).toInt from shl_k s8 A _ (Nat.le_of_lt (Nat.mod_lt _ (by decide))), back8]
                  · rw [if_neg h19, if_neg h19]
                    by_cases h20 : op = 20
                    · rw [if_pos h20, if_pos h20, if_neg (by decide), if_pos (by omega), show shr .i8 A.toInt ((B.toNat % 8 : Nat) : Int) = (A.sshiftRight (B.toNat % 8)).toInt from shr_k (k := .i8) A _ (Nat.le_of_lt (Nat.mod_lt _ (by decide))), back8]
                    · rw [if_neg h20, if_neg h20]
theorem two32F (k : Nat) (op a b : Int) : word_two_int32.f (k + 1) op a b 32 = (if op = 14 then (if b = 0 then some (0, 1) else some (wrap64 (wrap32 (Int.tdiv a b)), 0)) else if op = 15 then (if b = 0 then some (0, 1) else some (wrap64 (Int.tmod a b), 0))
    else if op = 12 then (some (wrap64 (wrap32 (a + (wrap32 (-b)))), 0)) else (if op = 11 then (some (wrap64 (wrap32 (a + b)), 0)) else (if op = 13 then (some (wrap64 (wrap32 (a * b)), 0)) else (if op = 16 then (some (wrap64 (Go.bits .and .i32 a b), 0)) else (if op = 17 then (some (wrap64 (Go.bits .or .i32 a b), 0)) else (if op = 18 then (some (wrap64 (Go.bits .xor .i32 a b), 0)) else (if op = 19 then (if (32 : Int) = 0 then (none) else (if 0 ≤ (Int.tmod (IntKind.u64.wrap (b)) 32) then (some (wrap64 (shl .i32 a (Int.tmod (IntKind.u64.wrap (b)) 32)), 0)) else (none))) else (if op = 20 then (if (32 : Int) = 0 then (none) else (if 0 ≤ (Int.tmod (IntKind.u64.wrap (b)) 32) then (some (wrap64 (shr .i32 a (Int.tmod (IntKind.u64.wrap (b)) 32)), 0)) else (none))) else (some (0, 0)))))))))) := by
  unfold word_two_int32.f
  simp only [word_two_int32.j0]
  by_cases h14 : op = 14
  · simp only [if_pos h14, if_pos (show (op == 14) = true by simp [h14])]
  · by_cases h15 : op = 15
    · simp only [if_neg h14, if_pos h15, if_pos (show (op == 15) = true by simp [h15])]
    · simp only [if_neg h14, if_neg h15, if_neg (show ¬ (op == 15) = true by simp [h15])]
theorem two32 (k : Nat) (op : Int) (A B : BitVec 32) : word_two_int32.f (k + 1) op A.toInt B.toInt 32 = some (twoB op A B) := by
  rw [two32F]
  unfold twoB
  by_cases h14 : op = 14
  · rw [if_pos h14, if_pos h14]
    by_cases hb : B = 0#32
    · rw [if_pos hb, if_pos ((toInt_eq_zero B).2 hb)]
    · rw [if_neg hb, if_neg (fun e => hb ((toInt_eq_zero B).1 e)), w32, BitVec.toInt_ofInt, ← BitVec.toInt_sdiv, back32]
  · rw [if_neg h14, if_neg h14]
    by_cases h15 : op = 15
    · rw [if_pos h15, if_pos h15]
      by_cases hb : B = 0#32
      · rw [if_pos hb, if_pos ((toInt_eq_zero B).2 hb)]
      · rw [if_neg hb, if_neg (fun e => hb ((toInt_eq_zero B).1 e)), ← BitVec.toInt_srem, back32]
    · rw [if_neg h15, if_neg h15]
      by_cases h12 : op = 12
      · rw [if_pos h12, if_pos h12, w32, w32, BitVec.ofInt_add, BitVec.ofInt_toInt, BitVec.ofInt_toInt, BitVec.ofInt_neg, BitVec.ofInt_toInt, ← BitVec.sub_eq_add_neg, back32]
      · rw [if_neg h12, if_neg h12]
        by_cases h11 : op = 11
        · rw [if_pos h11, if_pos h11, w32, BitVec.ofInt_add, BitVec.ofInt_toInt, BitVec.ofInt_toInt, back32]
        · rw [if_neg h11, if_neg h11]
          by_cases h13 : op = 13
          · rw [if_pos h13, if_pos h13, w32, BitVec.ofInt_mul, BitVec.ofInt_toInt, BitVec.ofInt_toInt, back32]
          · rw [if_neg h13, if_neg h13]
            by_cases h16 : op = 16
            · rw [if_pos h16, if_pos h16, show Go.bits .and .i32 A.toInt B.toInt = (A &&& B).toInt by rw [and_k s32]; exact congrArg BitVec.toInt (congr (congrArg _ BitVec.ofInt_toInt) BitVec.ofInt_toInt), back32]
            · rw [if_neg h16, if_neg h16]
              by_cases h17 : op = 17
              · rw [if_pos h17, if_pos h17, show Go.bits .or .i32 A.toInt B.toInt = (A ||| B).toInt by rw [or_k s32]; exact congrArg BitVec.toInt (congr (congrArg _ BitVec.ofInt_toInt) BitVec.ofInt_toInt), back32]
              · rw [if_neg h17, if_neg h17]
                by_cases h18 : op = 18
                · rw [if_pos h18, if_pos h18, show Go.bits .xor .i32 A.toInt B.toInt = (A ^^^ B).toInt by rw [xor_k s32]; exact congrArg BitVec.toInt (congr (congrArg _ BitVec.ofInt_toInt) BitVec.ofInt_toInt), back32]
                · rw [if_neg h18, if_neg h18, count32]
                  by_cases h19 : op = 19
                  · rw [if_pos h19, if_pos h19, if_neg (by decide), if_pos (by omega), show shl .i32 A.toInt ((B.toNat % 32 : Nat) : Int) = (A <<< (B.toNat % 32)).toInt from shl_k s32 A _ (Nat.le_of_lt (Nat.mod_lt _ (by decide))), back32]
                  · rw [if_neg h19, if_neg h19]
                    by_cases h20 : op = 20
                    · rw [if_pos h20, if_pos h20, if_neg (by decide), if_pos (by omega), show shr .i32 A.toInt ((B.toNat % 32 : Nat) : Int) = (A.sshiftRight (B.toNat % 32)).toInt from shr_k (k := .i32) A _ (Nat.le_of_lt (Nat.mod_lt _ (by decide))), back32]
                    · rw [if_neg h20, if_neg h20]
theorem two64F (k : Nat) (op a b : Int) : word_two_int64.f (k + 1) op a b 64 = (if op = 14 then (if b = 0 then some (0, 1) else some (wrap64 (Int.tdiv a b), 0)) else if op = 15 then (if b = 0 then some (0, 1) else some (Int.tmod a b, 0))
    else if op = 12 then (some (wrap64 (a + (wrap64 (-b))), 0)) else (if op = 11 then (some (wrap64 (a + b), 0)) else (if op = 13 then (some (wrap64 (a * b), 0)) else (if op = 16 then (some (Go.bits .and .i64 a b, 0)) else (if op = 17 then (some (Go.bits .or .i64 a b, 0)) else (if op = 18 then (some (Go.bits .xor .i64 a b, 0)) else (if op = 19 then (if (64 : Int) = 0 then (none) else (if 0 ≤ (Int.tmod (IntKind.u64.wrap (b)) 64) then (some (shl .i64 a (Int.tmod (IntKind.u64.wrap (b)) 64), 0)) else (none))) else (if op = 20 then (if (64 : Int) = 0 then (none) else (if 0 ≤ (Int.tmod (IntKind.u64.wrap (b)) 64) then (some (shr .i64 a (Int.tmod (IntKind.u64.wrap (b)) 64), 0)) else (none))) else (some (0, 0)))))))))) := by
  unfold word_two_int64.f
  simp only [word_two_int64.j0]
  by_cases h14 : op = 14
  · simp only [if_pos h14, if_pos (show (op == 14) = true by simp [h14])]
  · by_cases h15 : op = 15
    · simp only [if_neg h14, if_pos h15, if_pos (show (op == 15) = true by simp [h15])]
    · simp only [if_neg h14, if_neg h15, if_neg (show ¬ (op == 15) = true by simp [h15])]
theorem two64 (k : Nat) (op : Int) (A B : BitVec 64) : word_two_int64.f (k + 1) op A.toInt B.toInt 64 = some (twoB op A B) := by
  rw [two64F]
  unfold twoB
  by_cases h14 : op = 14
  · rw [if_pos h14, if_pos h14]
    by_cases hb : B = 0#64
    · rw [if_pos hb, if_pos ((toInt_eq_zero B).2 hb)]
    · rw [if_neg hb, if_neg (fun e => hb ((toInt_eq_zero B).1 e)), w64, BitVec.toInt_ofInt, ← BitVec.toInt_sdiv]
  · rw [if_neg h14, if_neg h14]
    by_cases h15 : op = 15
    · rw [if_pos h15, if_pos h15]
      by_cases hb : B = 0#64
      · rw [if_pos hb, if_pos ((toInt_eq_zero B).2 hb)]
      · rw [if_neg hb, if_neg (fun e => hb ((toInt_eq_zero B).1 e)), ← BitVec.toInt_srem]
    · rw [if_neg h15, if_neg h15]
      by_cases h12 : op = 12
      · rw [if_pos h12, if_pos h12, w64, w64, BitVec.ofInt_add, BitVec.ofInt_toInt, BitVec.ofInt_toInt, BitVec.ofInt_neg, BitVec.ofInt_toInt, ← BitVec.sub_eq_add_neg]
      · rw [if_neg h12, if_neg h12]
        by_cases h11 : op = 11
        · rw [if_pos h11, if_pos h11, w64, BitVec.ofInt_add, BitVec.ofInt_toInt, BitVec.ofInt_toInt]
        · rw [if_neg h11, if_neg h11]
          by_cases h13 : op = 13
          · rw [if_pos h13, if_pos h13, w64, BitVec.ofInt_mul, BitVec.ofInt_toInt, BitVec.ofInt_toInt]
          · rw [if_neg h13, if_neg h13]
            by_cases h16 : op = 16
            · rw [if_pos h16, if_pos h16, show Go.bits .and .i64 A.toInt B.toInt = (A &&& B).toInt by rw [and_k s64]; exact congrArg BitVec.toInt (congr (congrArg _ BitVec.ofInt_toInt) BitVec.ofInt_toInt)]
            · rw [if_neg h16, if_neg h16]
              by_cases h17 : op = 17
              · rw [if_pos h17, if_pos h17, show Go.bits .or .i64 A.toInt B.toInt = (A ||| B).toInt by rw [or_k s64]; exact congrArg BitVec.toInt (congr (congrArg _ BitVec.ofInt_toInt) BitVec.ofInt_toInt)]
              · rw [if_neg h17, if_neg h17]
                by_cases h18 : op = 18
                · rw [if_pos h18, if_pos h18, show Go.bits .xor .i64 A.toInt B.toInt = (A ^^^ B).toInt by rw [xor_k s64]; exact congrArg BitVec.toInt (congr (congrArg _ BitVec.ofInt_toInt) BitVec.ofInt_toInt)]
                · rw [if_neg h18, if_neg h18, count64]
                  by_cases h19 : op = 19
                  · rw [if_pos h19, if_pos h19, if_neg (by decide), if_pos (by omega), show shl .i64 A.toInt ((B.toNat % 64 : Nat) : Int) = (A <<< (B.toNat % 64)).toInt from shl_k s64 A _ (Nat.le_of_lt (Nat.mod_lt _ (by decide)))]
                  · rw [if_neg h19, if_neg h19]
                    by_cases h20 : op = 20
                    · rw [if_pos h20, if_pos h20, if_neg (by decide), if_pos (by omega), show shr .i64 A.toInt ((B.toNat % 64 : Nat) : Int) = (A.sshiftRight (B.toNat % 64)).toInt from shr_k (k := .i64) A _ (Nat.le_of_lt (Nat.mod_lt _ (by decide)))]
                    · rw [if_neg h20, if_neg h20]
theorem two_f (op w : Int) {a b : Int} (ha : Ok a) (hb : Ok b) {k : Nat} (hk : 1 ≤ k) : word_Two.f k op w a b = some (reck op w a b) := by
  obtain ⟨k, rfl⟩ : ∃ m, k = m + 1 := ⟨k - 1, by omega⟩
  unfold word_Two.f reck
  by_cases h1 : w = 1
  · rw [if_pos h1, if_pos h1, w8, w8, two8]
    simp only [obind]
  · by_cases h2 : w = 2
    · rw [if_neg h1, if_neg h1, if_pos h2, if_pos h2, w32, w32, two32]
      simp only [obind]
    · by_cases h3 : w = 3
      · have h := two64 k op (BitVec.ofInt 64 a) (BitVec.ofInt 64 b)
        rw [ha, hb] at h
        rw [if_neg h1, if_neg h1, if_neg h2, if_neg h2, if_pos h3, if_pos h3, h]
        simp only [obind]
      · rw [if_neg h1, if_neg h1, if_neg h2, if_neg h2, if_neg h3, if_neg h3]
theorem works_f {k : Nat} (hk : 1 ≤ k) : trammellaw02_works.f k = some true := by
  unfold trammellaw02_works.f
  rw [two_f 11 1 (by decide) (by decide) hk, show reck 11 1 100 100 = (-56, 0) by decide +kernel]
  simp only [obind]
  rw [if_pos trivial, if_pos trivial, fits_f, fits_f, show fitsW 1 127 = true by decide +kernel, show fitsW 1 128 = false by decide +kernel]
  rfl
theorem cmp8 (op a b : Int) : word_compare_int8.f op a b = some (cmp op a b) := by
  unfold word_compare_int8.f cmp
  repeat' split
  all_goals rfl
theorem cmp32 (op a b : Int) : word_compare_int32.f op a b = some (cmp op a b) := by
  unfold word_compare_int32.f cmp
  repeat' split
  all_goals rfl
theorem cmp64 (op a b : Int) : word_compare_int64.f op a b = some (cmp op a b) := by
  unfold word_compare_int64.f cmp
  repeat' split
  all_goals rfl
theorem test_f (op w a b : Int) : word_Test.f op w a b = some (testW op w a b) := by
  unfold word_Test.f testW wrapW
  by_cases h1 : w = 1
  · simp only [if_pos h1, if_pos (Or.inl h1), cmp8, w8, obind]
  · by_cases h2 : w = 2
    · simp only [if_neg h1, if_pos h2, if_pos (show w = 1 ∨ w = 2 ∨ w = 3 by omega), cmp32, w32, obind]
    · by_cases h3 : w = 3
      · simp only [if_neg h1, if_neg h2, if_pos h3, if_pos (show w = 1 ∨ w = 2 ∨ w = 3 by omega), cmp64, obind]
      · simp only [if_neg h1, if_neg h2, if_neg h3, if_neg (show ¬ (w = 1 ∨ w = 2 ∨ w = 3) by omega)]
theorem one_f (op v a : Int) : word_One.f op v a = some (oneW op v a) := by
  unfold word_One.f oneW
  by_cases h1 : op = 21
  · rw [if_pos h1, if_pos h1, wrap_f, w64, BitVec.ofInt_neg]
    simp only [obind]
  · by_cases h2 : op = 22
    · rw [if_neg h1, if_neg h1, if_pos h2, if_pos h2, wrap_f, xor_k s64]
      simp only [obind]
      congr 2
    · rw [if_neg h1, if_neg h1, if_neg h2, if_neg h2]
theorem refbits_f (w : Int) : trammelref02_Bits.f w = some (bitsW w) := by
  unfold trammelref02_Bits.f bitsW
  by_cases h1 : w = 1
  · rw [if_pos h1, if_pos h1]
  · by_cases h2 : w = 2
    · rw [if_neg h1, if_neg h1, if_pos h2, if_pos h2]
    · by_cases h3 : w = 3
      · rw [if_neg h1, if_neg h1, if_neg h2, if_neg h2, if_pos h3, if_pos h3]
      · rw [if_neg h1, if_neg h1, if_neg h2, if_neg h2, if_neg h3, if_neg h3]
theorem refwrap_l1 (n : Nat) (hn : n ≤ 64) (h0 : 0 < n) (x : Int) : ∀ (d i k : Nat) (X : BitVec 64), i + d = 64 → n ≤ i → d < k →
    (∀ j, j < 64 → X.getLsbD j = (decide (j < i) && if j < n then (BitVec.ofInt 64 x).getLsbD j else (BitVec.ofInt 64 x).getLsbD (n - 1))) →
    trammelref02_Wrap.l1 k x n (X.toNat : Int) i = some (BitVec.ofInt n x).toInt := by
  intro d
  induction d with
  | zero =>
    intro i k X hd hi hk hX
    obtain ⟨k, rfl⟩ : ∃ m, k = m + 1 := ⟨k - 1, by omega⟩
    simp only [trammelref02_Wrap.l1]
    rw [if_pos (by omega), if_neg (by omega), w64, u_self, ext_eq n hn h0 x X (fun j hj => by rw [hX j hj, decide_eq_true (by omega), Bool.true_and])]
  | succ d ih =>
    intro i k X hd hi hk hX
    obtain ⟨k, rfl⟩ : ∃ m, k = m + 1 := ⟨k - 1, by omega⟩
    simp only [trammelref02_Wrap.l1]
    rw [if_pos (by omega), if_pos (by omega), w64 ((n : Int) - 1), id64 (by omega) (by omega), show (n : Int) - 1 = ((n - 1 : Nat) : Int) by omega, if_pos (by omega), if_pos (by omega), u_of, u_shr _ _ (by omega)]
    rw [u_and1, u_shl _ _ (by omega), u_or, w64, id64 (by omega) (by omega), show (i : Int) + 1 = ((i + 1 : Nat) : Int) by omega]
    refine ih (i + 1) k _ (by omega) (by omega) (by omega) (fun j hj => ?_)
    rw [lay_bit _ _ _ _ _ (by omega) hj, hX j hj]
    by_cases e : j = i
    · subst e
      rw [decide_eq_false (by omega), decide_eq_true rfl, decide_eq_true (by omega), if_neg (by omega)]
      simp
    · by_cases e2 : j < i
      · rw [decide_eq_true e2, decide_eq_false e, decide_eq_true (by omega)]; simp
      · rw [decide_eq_false e2, decide_eq_false e, decide_eq_false (by omega)]; simp
theorem refwrap_l0 (n : Nat) (hn : n ≤ 64) (h0 : 0 < n) (x : Int) : ∀ (d i k : Nat) (X : BitVec 64), i + d = n → d + 66 < k →
    (∀ j, j < 64 → X.getLsbD j = (decide (j < i) && (BitVec.ofInt 64 x).getLsbD j)) →
    trammelref02_Wrap.l0 k x n (X.toNat : Int) i = some (BitVec.ofInt n x).toInt := by
  intro d
  induction d with
  | zero =>
    intro i k X hd hk hX
    obtain ⟨k, rfl⟩ : ∃ m, k = m + 1 := ⟨k - 1, by omega⟩
    simp only [trammelref02_Wrap.l0]
    rw [if_neg (by omega)]
    refine refwrap_l1 n hn h0 x (64 - n) n k X (by omega) (Nat.le_refl _) (by omega) (fun j hj => ?_)
    rw [hX j hj]
    obtain rfl : i = n := by omega
    by_cases e : j < i
    · rw [decide_eq_true e, if_pos e]
    · rw [decide_eq_false e]; simp
  | succ d ih =>
    intro i k X hd hk hX
    obtain ⟨k, rfl⟩ : ∃ m, k = m + 1 := ⟨k - 1, by omega⟩
    simp only [trammelref02_Wrap.l0]
    rw [if_pos (by omega), if_pos (by omega), u_of, u_shr _ _ (by omega)]
    rw [u_and1, u_shl _ _ (by omega), u_or, w64, id64 (by omega) (by omega), show (i : Int) + 1 = ((i + 1 : Nat) : Int) by omega]
    refine ih (i + 1) k _ (by omega) (by omega) (fun j hj => ?_)
    rw [lay_bit _ _ _ _ _ (by omega) hj, hX j hj]
    by_cases e : j = i
    · subst e
      rw [decide_eq_false (by omega), decide_eq_true rfl, decide_eq_true (by omega)]
      simp
    · by_cases e2 : j < i
      · rw [decide_eq_true e2, decide_eq_false e, decide_eq_true (by omega)]; simp
      · rw [decide_eq_false e2, decide_eq_false e, decide_eq_false (by omega)]; simp
theorem refwrap_n (n : Nat) (hn : n ≤ 64) (h0 : 0 < n) (x : Int) {k : Nat} (hk : 150 ≤ k) : trammelref02_Wrap.l0 k x n 0 0 = some (BitVec.ofInt n x).toInt :=
  refwrap_l0 n hn h0 x n 0 k 0#64 (by omega) (by omega) (fun j hj => by simp)
theorem refwrap_f (w : Int) {x : Int} (hx : Ok x) {k : Nat} (hk : 150 ≤ k) : trammelref02_Wrap.f k w x = some (wrapW w x) := by
  unfold trammelref02_Wrap.f
  rw [refbits_f]
  simp only [obind]
  unfold bitsW wrapW
  by_cases h1 : w = 1
  · rw [if_pos h1, if_pos h1]; exact refwrap_n 8 (by decide) (by decide) x hk
  · by_cases h2 : w = 2
    · rw [if_neg h1, if_neg h1, if_pos h2, if_pos h2]; exact refwrap_n 32 (by decide) (by decide) x hk
    · by_cases h3 : w = 3
      · rw [if_neg h1, if_neg h1, if_neg h2, if_neg h2, if_pos h3, if_pos h3]
        have := refwrap_n 64 (by decide) (by decide) x hk
        rw [hx] at this
        exact this
      · rw [if_neg h1, if_neg h1, if_neg h2, if_neg h2, if_neg h3, if_neg h3]
        obtain ⟨k, rfl⟩ : ∃ m, k = m + 1 + 1 := ⟨k - 2, by omega⟩
        simp only [trammelref02_Wrap.l0, trammelref02_Wrap.l1]
        rw [if_neg (by decide), if_neg (by decide), w64]
        rfl
/-! The document's long division. -/
theorem over_round (A B : Nat) (hA : A < 18446744073709551616) (hB : B < 18446744073709551616) (hb : 0 < B) (i k : Nat) (hi : i ≤ 63) :
    trammelref02_over.l0 (k + 1) A B ((A / 2 ^ (i + 1) / B * 2 ^ (i + 1) : Nat) : Int) ((A / 2 ^ (i + 1) % B : Nat) : Int) i = trammelref02_over.l0 k A B ((A / 2 ^ i / B * 2 ^ i : Nat) : Int) ((A / 2 ^ i % B : Nat) : Int) ((i : Int) - 1) := by
  have hs := half_step A i
  have hH : A / 2 ^ i < 18446744073709551616 := Nat.lt_of_le_of_lt (Nat.div_le_self _ _) hA
  have hbit : A / 2 ^ i % 2 < 2 := Nat.mod_lt _ (by decide)
  have st := long_step B (A / 2 ^ (i + 1)) (A / 2 ^ i % 2) hb hbit
  rw [← hs] at st
  have hrB := Nat.mod_lt (A / 2 ^ (i + 1)) hb
  have hq : A / 2 ^ (i + 1) / B * 2 ^ (i + 1) ≤ A := Nat.le_trans (Nat.mul_le_mul_right _ (Nat.div_le_self _ _)) (Nat.div_mul_le_self _ _)
  have hp := two63 hi
  have hp0 := two_pos i
  have hpc : ((2 ^ i : Nat) : Int) = 2 ^ i := by simp
  have hor : Go.bits .or .u64 ((A / 2 ^ (i + 1) / B * 2 ^ (i + 1) : Nat) : Int) (shl .u64 1 (i : Int)) = (((2 * (A / 2 ^ (i + 1) / B) + 1) * 2 ^ i : Nat) : Int) := by
    rw [shl_one hi, or_u64 (i + 1) _ _ (by omega) (by rw [show ((2 : Int) ^ (i + 1)) = ((2 ^ (i + 1) : Nat) : Int) by simp]; exact_mod_cast Nat.mul_mod_left _ _) (by omega) (by omega) (by rw [Int.pow_succ]; omega) (by omega)]
    rw [← hpc, Nat.add_mul, Nat.one_mul, Nat.pow_succ, Nat.mul_comm (2 ^ i) 2, ← Nat.mul_assoc, Nat.mul_comm (A / (2 * 2 ^ i) / B) 2]
    omega
  have hand : Go.bits .and .u64 (shr .u64 (A : Int) (i : Int)) 1 = ((A / 2 ^ i % 2 : Nat) : Int) := by
    rw [shr_nat (by omega), and_one (by omega) (by omega)]; omega
  have hr2 : Go.bits .or .u64 (IntKind.u64.wrap (((A / 2 ^ (i + 1) % B : Nat) : Int) * 2)) (Go.bits .and .u64 (shr .u64 (A : Int) (i : Int)) 1) = (((2 * (A / 2 ^ (i + 1) % B)) % 18446744073709551616 + A / 2 ^ i % 2 : Nat) : Int) := by
    rw [hand, u64_wrap, or_u64 1 _ _ (by omega) (by omega) (by omega) (by omega) (by omega) (by omega)]; omega
  simp only [trammelref02_over.l0]
  rw [if_pos (by omega), if_pos (by omega), hor, hr2, w64, id64 (by omega) (by omega)]
  generalize hu : A / 2 ^ (i + 1) / B = u at *
  generalize hr : A / 2 ^ (i + 1) % B = r at *
  generalize hbv : A / 2 ^ i % 2 = bit at *
  by_cases g : 2 * r + bit ≥ B
  · obtain ⟨s1, s2⟩ := st.1 g
    have e1 : IntKind.u64.wrap (((2 * r % 18446744073709551616 + bit : Nat) : Int) - (B : Int)) = ((2 * r + bit - B : Nat) : Int) := by rw [u64_wrap]; omega
    rw [s1, s2, e1]
    by_cases hh : ((r : Nat) : Int) / 9223372036854775808 = 1
    · rw [if_pos hh]
    · rw [if_neg hh, if_pos (by omega)]
  · obtain ⟨s1, s2⟩ := st.2 (by omega)
    have e2 : ((2 * r % 18446744073709551616 + bit : Nat) : Int) = ((2 * r + bit : Nat) : Int) := by omega
    rw [s1, s2, e2, if_neg (by omega), if_neg (by omega), Nat.pow_succ, Nat.mul_comm (2 ^ i) 2, ← Nat.mul_assoc, Nat.mul_comm u 2]
theorem over_l0 (A B : Nat) (hA : A < 18446744073709551616) (hB : B < 18446744073709551616) (hb : 0 < B) : ∀ (i k : Nat), i ≤ 63 → i + 1 < k →
    trammelref02_over.l0 k A B ((A / 2 ^ (i + 1) / B * 2 ^ (i + 1) : Nat) : Int) ((A / 2 ^ (i + 1) % B : Nat) : Int) i = some (((A / B : Nat) : Int), ((A % B : Nat) : Int)) := by
  intro i
  induction i with
  | zero =>
    intro k hi hk
    obtain ⟨k, rfl⟩ : ∃ m, k = m + 1 + 1 := ⟨k - 2, by omega⟩
    have := over_round A B hA hB hb 0 (k + 1) (by omega)
    rw [this]
    simp only [trammelref02_over.l0]
    rw [if_neg (by omega)]
    simp
  | succ i ih =>
    intro k hi hk
    obtain ⟨k, rfl⟩ : ∃ m, k = m + 1 := ⟨k - 1, by omega⟩
    rw [over_round A B hA hB hb (i + 1) k hi, show ((i + 1 : Nat) : Int) - 1 = (i : Int) by omega]
    exact ih k (by omega) (by omega)
theorem over_f {A B : Nat} (hA : A < 18446744073709551616) (hB : B < 18446744073709551616) (hb : 0 < B) {k : Nat} (hk : 70 ≤ k) : trammelref02_over.f k A B = some (((A / B : Nat) : Int), ((A % B : Nat) : Int)) := by
  unfold trammelref02_over.f
  have := over_l0 A B hA hB hb 63 k (by omega) (by omega)
  rw [Nat.div_eq_of_lt (show A < 2 ^ (63 + 1) by omega), Nat.zero_div, Nat.zero_mul, Nat.zero_mod] at this
  exact this
theorem worth_f {a : Int} (h : Ok a) : trammelref02_worth.f a = some ((a.natAbs : Nat) : Int) := by
  have hr : -9223372036854775808 ≤ a ∧ a ≤ 9223372036854775807 := by rw [← h]; exact range64 _
  unfold trammelref02_worth.f
  by_cases g : a < 0
  · rw [if_pos g, u64_wrap, u64_wrap]
    congr 1; omega
  · rw [if_neg g, u64_wrap]
    congr 1; omega
theorem divided_f {a b : Int} (ha : Ok a) (hb : Ok b) (h0 : b ≠ 0) {k : Nat} (hk : 70 ≤ k) : trammelref02_divided.f k a b = some (parted a b) := by
  have hra : -9223372036854775808 ≤ a ∧ a ≤ 9223372036854775807 := by rw [← ha]; exact range64 _
  have hrb : -9223372036854775808 ≤ b ∧ b ≤ 9223372036854775807 := by rw [← hb]; exact range64 _
  unfold trammelref02_divided.f parted
  rw [worth_f ha, worth_f hb]
  simp only [obind]
  rw [over_f (by omega) (by omega) (by omega) hk]
  simp only [obind]
  by_cases ga : a < 0
  · obtain ⟨n, hn⟩ := Int.eq_ofNat_of_zero_le (show 0 ≤ -a by omega)
    obtain rfl : a = -(n : Int) := by omega
    by_cases gb : b < 0
    · obtain ⟨m, hm⟩ := Int.eq_ofNat_of_zero_le (show 0 ≤ -b by omega)
      obtain rfl : b = -(m : Int) := by omega
      rw [if_pos ga, if_pos gb, Int.natAbs_neg, Int.natAbs_neg, Int.natAbs_natCast, Int.natAbs_natCast, Int.neg_tdiv, Int.tdiv_neg, Int.neg_neg, Int.neg_tmod, Int.tmod_neg, w64, w64, bv_u64, ← Int.ofNat_tdiv, ← Int.ofNat_tmod]
    · obtain ⟨m, rfl⟩ := Int.eq_ofNat_of_zero_le (show 0 ≤ b by omega)
      rw [if_pos ga, if_neg gb, Int.natAbs_neg, Int.natAbs_natCast, Int.natAbs_natCast, Int.neg_tdiv, Int.neg_tmod, w64, w64, bv_u64, bv_u64, ← Int.ofNat_tdiv, ← Int.ofNat_tmod]
  · obtain ⟨n, rfl⟩ := Int.eq_ofNat_of_zero_le (show 0 ≤ a by omega)
    by_cases gb : b < 0
    · obtain ⟨m, hm⟩ := Int.eq_ofNat_of_zero_le (show 0 ≤ -b by omega)
      obtain rfl : b = -(m : Int) := by omega
      rw [if_neg ga, if_pos gb, Int.natAbs_neg, Int.natAbs_natCast, Int.natAbs_natCast, Int.tdiv_neg, Int.tmod_neg, w64, w64, bv_u64, ← Int.ofNat_tdiv, ← Int.ofNat_tmod]
    · obtain ⟨m, rfl⟩ := Int.eq_ofNat_of_zero_le (show 0 ≤ b by omega)
      rw [if_neg ga, if_neg gb, Int.natAbs_natCast, Int.natAbs_natCast, w64, w64, ← Int.ofNat_tdiv, ← Int.ofNat_tmod]
/-! The document's bits, moves down. -/
theorem refdown_l0 : ∀ (d i k : Nat) (m : Nat) (x : Int), i + d = m → Ok x → d + 80 ≤ k → m ≤ 1000 → trammelref02_down.l0 k x m i = some (x / 2 ^ d) := by
  intro d
  induction d with
  | zero =>
    intro i k m x hd hx hk hm
    obtain ⟨k, rfl⟩ : ∃ m, k = m + 1 := ⟨k - 1, by omega⟩
    simp only [trammelref02_down.l0]
    rw [if_neg (by omega)]
    simp
  | succ d ih =>
    intro i k m x hd hx hk hm
    obtain ⟨k, rfl⟩ : ∃ m, k = m + 1 := ⟨k - 1, by omega⟩
    have hr : -9223372036854775808 ≤ x ∧ x ≤ 9223372036854775807 := by rw [← hx]; exact range64 _
    have h2 := down_two x
    have ht : -2 < Int.tmod x 2 ∧ Int.tmod x 2 < 2 := ⟨Int.lt_tmod_of_pos x (by decide), Int.tmod_lt_of_pos x (by decide)⟩
    have hq : -9223372036854775808 ≤ Int.tdiv x 2 ∧ Int.tdiv x 2 ≤ 9223372036854775807 := by
      have := Int.mul_tdiv_add_tmod x 2; omega
    have hx2 : Ok (x / 2) := id64 (by omega) (by omega)
    simp only [trammelref02_down.l0]
    rw [if_pos (by omega), divided_f hx (by decide) (by decide) (by omega)]
    simp only [obind, parted]
    rw [id64 hq.1 hq.2, id64 (x := Int.tmod x 2) (by omega) (by omega), w64 ((i : Int) + 1), id64 (by omega) (by omega), show (i : Int) + 1 = ((i + 1 : Nat) : Int) by omega]
    have e : x / 2 ^ (d + 1) = x / 2 / 2 ^ d := by
      rw [Int.pow_succ, Int.mul_comm, Int.ediv_ediv_of_nonneg (by decide)]
    rw [e]
    by_cases h : Int.tmod x 2 < 0
    · rw [if_pos h] at h2 ⊢
      rw [w64, id64 (by omega) (by omega), h2]
      exact ih (i + 1) k m _ (by omega) hx2 (by omega) hm
    · rw [if_neg h] at h2 ⊢
      rw [h2]
      exact ih (i + 1) k m _ (by omega) hx2 (by omega) hm
theorem refdown_f {x : Int} (hx : Ok x) (m : Nat) (hm : m ≤ 64) {k : Nat} (hk : 150 ≤ k) : trammelref02_down.f k x m = some (x / 2 ^ m) := by
  unfold trammelref02_down.f
  exact refdown_l0 m 0 k m x (by omega) hx (by omega) (by omega)
theorem refbitl (A B : BitVec 64) (a b : Int) (hA : IntKind.u64.wrap a = (A.toNat : Int)) (hB : IntKind.u64.wrap b = (B.toNat : Int)) (both one : Bool) : ∀ (d i k : Nat) (X : BitVec 64), i + d = 64 → d < k →
    (∀ j, j < 64 → X.getLsbD j = (decide (j < i) && ((both && (A.getLsbD j && B.getLsbD j)) || (one && (A.getLsbD j ^^ B.getLsbD j))))) →
    ∃ Y : BitVec 64, (∀ j, j < 64 → Y.getLsbD j = ((both && (A.getLsbD j && B.getLsbD j)) || (one && (A.getLsbD j ^^ B.getLsbD j)))) ∧ trammelref02_bits.l0 k a b both one (X.toNat : Int) i = some Y.toInt := by
  intro d
  induction d with
  | zero =>
    intro i k X hd hk hX
    obtain ⟨k, rfl⟩ : ∃ m, k = m + 1 := ⟨k - 1, by omega⟩
    refine ⟨X, fun j hj => by rw [hX j hj, decide_eq_true (by omega), Bool.true_and], ?_⟩
    simp only [trammelref02_bits.l0]
    rw [if_neg (by omega), w64, u_self]
  | succ d ih =>
    intro i k X hd hk hX
    obtain ⟨k, rfl⟩ : ∃ m, k = m + 1 := ⟨k - 1, by omega⟩
    have hw : wrap64 ((i : Int) + 1) = ((i + 1 : Nat) : Int) := by rw [w64, id64 (by omega) (by omega)]; omega
    have hl : Go.bits .or .u64 (X.toNat : Int) (shl .u64 1 (i : Int)) = ((X ||| (1#64 <<< i)).toNat : Int) := by rw [shl_one_bv i (by omega), u_or]
    have yes : ((both && (A.getLsbD i && B.getLsbD i)) || (one && (A.getLsbD i ^^ B.getLsbD i))) = true → ∀ j, j < 64 → (X ||| (1#64 <<< i)).getLsbD j = (decide (j < i + 1) && ((both && (A.getLsbD j && B.getLsbD j)) || (one && (A.getLsbD j ^^ B.getLsbD j)))) := by
      intro h j hj
      rw [lay_one X i j (by omega) hj, hX j hj]
      by_cases e : j = i
      · subst e; rw [h]; simp
      · by_cases e2 : j < i
        · rw [decide_eq_true e2, decide_eq_false e, decide_eq_true (by omega)]; simp
        · rw [decide_eq_false e2, decide_eq_false e, decide_eq_false (by omega)]; simp
    have no : ((both && (A.getLsbD i && B.getLsbD i)) || (one && (A.getLsbD i ^^ B.getLsbD i))) = false → ∀ j, j < 64 → X.getLsbD j = (decide (j < i + 1) && ((both && (A.getLsbD j && B.getLsbD j)) || (one && (A.getLsbD j ^^ B.getLsbD j)))) := by
      intro h j hj
      rw [hX j hj]
      by_cases e : j = i
      · subst e; rw [h]; simp
      · by_cases e2 : j < i
        · rw [decide_eq_true e2, decide_eq_true (by omega)]
        · rw [decide_eq_false e2, decide_eq_false (by omega)]
    simp only [trammelref02_bits.l0]
    have hs : IntKind.u64.wrap ((if A.getLsbD i then (1 : Int) else 0) + (if B.getLsbD i then 1 else 0)) = (if A.getLsbD i then 1 else 0) + (if B.getLsbD i then 1 else 0) := by
      rw [u64_wrap]; split <;> split <;> decide
    rw [if_pos (by omega), if_pos (by omega), hA, hB, and1_bit A i (by omega), and1_bit B i (by omega), hw, hl, hs]
    cases hx : A.getLsbD i <;> cases hy : B.getLsbD i <;> cases both <;> cases one <;> rw [hx, hy] at yes no <;> simp only [if_true, if_false, Bool.false_eq_true, Int.reduceAdd, Int.reduceEq] <;> first | exact ih (i + 1) k _ (by omega) (by omega) (yes rfl) | exact ih (i + 1) k _ (by omega) (by omega) (no rfl)
/-! The document's instructions. -/
theorem inv_w {w : Int} (h : ¬ (w = 1 ∨ w = 2 ∨ w = 3)) : bitsW w = 0 ∧ (∀ x, wrapW w x = 0) ∧ (∀ op a b, reck op w a b = (0, 0)) := by
  have h1 : w ≠ 1 := fun e => h (.inl e)
  have h2 : w ≠ 2 := fun e => h (.inr (.inl e))
  have h3 : w ≠ 3 := fun e => h (.inr (.inr e))
  refine ⟨?_, fun x => ?_, fun op a b => ?_⟩
  · unfold bitsW; rw [if_neg h1, if_neg h2, if_neg h3]
  · unfold wrapW; rw [if_neg h1, if_neg h2, if_neg h3]
  · unfold reck; rw [if_neg h1, if_neg h2, if_neg h3]
theorem refbits2_f {a b : Int} (both one : Bool) {k : Nat} (hk : 100 ≤ k) : ∃ Y : BitVec 64, (∀ j, j < 64 → Y.getLsbD j = ((both && ((BitVec.ofInt 64 a).getLsbD j && (BitVec.ofInt 64 b).getLsbD j)) || (one && ((BitVec.ofInt 64 a).getLsbD j ^^ (BitVec.ofInt 64 b).getLsbD j)))) ∧ trammelref02_bits.f k a b both one = some Y.toInt := by
  unfold trammelref02_bits.f
  exact refbitl (BitVec.ofInt 64 a) (BitVec.ofInt 64 b) a b (u_of a) (u_of b) both one 64 0 k 0#64 (by omega) (by omega) (fun j hj => by simp)
theorem refand_f {a b : Int} {k : Nat} (hk : 100 ≤ k) : trammelref02_bits.f k a b true false = some (BitVec.ofInt 64 a &&& BitVec.ofInt 64 b).toInt := by
  obtain ⟨Y, hY, h⟩ := refbits2_f (a := a) (b := b) true false hk
  rw [h, show Y = BitVec.ofInt 64 a &&& BitVec.ofInt 64 b from BitVec.eq_of_getLsbD_eq fun j hj => by rw [hY j hj, BitVec.getLsbD_and]; simp]
theorem refor_f {a b : Int} {k : Nat} (hk : 100 ≤ k) : trammelref02_bits.f k a b true true = some (BitVec.ofInt 64 a ||| BitVec.ofInt 64 b).toInt := by
  obtain ⟨Y, hY, h⟩ := refbits2_f (a := a) (b := b) true true hk
  rw [h, show Y = BitVec.ofInt 64 a ||| BitVec.ofInt 64 b from BitVec.eq_of_getLsbD_eq fun j hj => by rw [hY j hj, BitVec.getLsbD_or]; cases (BitVec.ofInt 64 a).getLsbD j <;> cases (BitVec.ofInt 64 b).getLsbD j <;> rfl]
theorem refxor_f {a b : Int} {k : Nat} (hk : 100 ≤ k) : trammelref02_bits.f k a b false true = some (BitVec.ofInt 64 a ^^^ BitVec.ofInt 64 b).toInt := by
  obtain ⟨Y, hY, h⟩ := refbits2_f (a := a) (b := b) false true hk
  rw [h, show Y = BitVec.ofInt 64 a ^^^ BitVec.ofInt 64 b from BitVec.eq_of_getLsbD_eq fun j hj => by rw [hY j hj, BitVec.getLsbD_xor]; simp]
/-- What a count comes to. -/
theorem count_u {n : Nat} (hn : n = 8 ∨ n = 32 ∨ n = 64) (B : BitVec n) : wrap64 (Int.tmod (IntKind.u64.wrap B.toInt) (IntKind.u64.wrap (n : Int))) = ((B.toNat % n : Nat) : Int) := by
  rcases hn with rfl | rfl | rfl
  · rw [show IntKind.u64.wrap ((8 : Nat) : Int) = 8 by rw [u64_wrap]; rfl, count8, w64, id64 (by omega) (by omega)]
  · rw [show IntKind.u64.wrap ((32 : Nat) : Int) = 32 by rw [u64_wrap]; rfl, count32, w64, id64 (by omega) (by omega)]
  · rw [show IntKind.u64.wrap ((64 : Nat) : Int) = 64 by rw [u64_wrap]; rfl, count64, w64, id64 (by omega) (by omega)]
theorem power_f (m : Nat) (hm : m < 64) : trammelref02_power.f (m : Int) = some (BitVec.twoPow 64 m).toInt := by
  unfold trammelref02_power.f
  rw [if_pos (by omega), shl_one (by omega), w64, ofInt_two_pow]
theorem ofInt_twoPow {n m : Nat} (hn : n ≤ 64) : BitVec.ofInt n (BitVec.twoPow 64 m).toInt = BitVec.twoPow n m := by
  rw [← ofInt_two_pow, cut64 hn, ofInt_two_pow]
theorem reftwo_v {v : Int} {n : Nat} (W : Wd v n) (hn : n = 8 ∨ n = 32 ∨ n = 64) (op : Int) {a b : Int} (ha : Ok a) (hb : Ok b) {k : Nat} (hk : 400 ≤ k) : trammelref02_Two.f k op v a b = some (reck op v a b) := by
  obtain ⟨k, rfl⟩ : ∃ m, k = m + 1 := ⟨k - 1, by omega⟩
  have hA := W.ok (BitVec.ofInt n a)
  have hB := W.ok (BitVec.ofInt n b)
  have hle := W.le
  have hpos := W.pos
  unfold trammelref02_Two.f
  rw [refbits_f, W.bits]
  simp only [obind]
  rw [if_neg (by omega), refwrap_f v ha (by omega), refwrap_f v hb (by omega), W.wrap ha, W.wrap hb]
  simp only [obind]
  have hu : ¬ IntKind.u64.wrap (n : Int) = 0 := by rw [u64_wrap]; omega
  rw [if_neg hu, count_u hn]
  have wr : ∀ x, Ok x → trammelref02_Wrap.f k v x = some (BitVec.ofInt n x).toInt := fun x hx => by rw [refwrap_f v hx (by omega), W.wrap hx]
  have wr1 : ∀ x, trammelref02_Wrap.f (k + 1) v (wrap64 x) = some (BitVec.ofInt n x).toInt := fun x => by
    have hx : Ok (wrap64 x) := by rw [w64]; exact ok64 _
    rw [refwrap_f v hx (by omega), W.wrap hx, w64, cut64 hle]
  have wr0 : ∀ x, trammelref02_Wrap.f k v (wrap64 x) = some (BitVec.ofInt n x).toInt := fun x => by
    have hx : Ok (wrap64 x) := by rw [w64]; exact ok64 _
    rw [wr _ hx, w64, cut64 hle]
  by_cases h11 : op = 11
  · subst h11
    rw [if_pos rfl, wr1, W.add, BitVec.ofInt_add, BitVec.ofInt_toInt, BitVec.ofInt_toInt]
    simp only [obind]
  · rw [if_neg h11]
    by_cases h12 : op = 12
    · subst h12
      rw [if_pos rfl, wr1, W.sub, Int.sub_eq_add_neg, BitVec.ofInt_add, BitVec.ofInt_neg, BitVec.ofInt_toInt, BitVec.ofInt_toInt, ← BitVec.sub_eq_add_neg]
      simp only [obind]
    · rw [if_neg h12]
      by_cases h13 : op = 13
      · subst h13
        rw [if_pos rfl, wr1, W.mul, BitVec.ofInt_mul, BitVec.ofInt_toInt, BitVec.ofInt_toInt]
        simp only [obind]
      · rw [if_neg h13]
        simp only [trammelref02_Two.j0]
        by_cases h14 : op = 14
        · subst h14
          rw [if_pos rfl, if_pos (by decide)]
          by_cases h0 : BitVec.ofInt n b = 0#n
          · rw [if_pos ((toInt_eq_zero _).2 h0), W.div0 a b h0]
          · have hz : (BitVec.ofInt n b).toInt ≠ 0 := fun e => h0 ((toInt_eq_zero _).1 e)
            rw [if_neg hz, divided_f hA hB hz (by omega), W.div a b h0]
            simp only [obind, parted]
            rw [if_neg (by decide), wr _ (ok64 _), cut64 hle, BitVec.toInt_ofInt, ← BitVec.toInt_sdiv]
            simp only [obind]
        · rw [if_neg h14]
          by_cases h15 : op = 15
          · subst h15
            rw [if_pos (by decide)]
            by_cases h0 : BitVec.ofInt n b = 0#n
            · rw [if_pos ((toInt_eq_zero _).2 h0), W.rem0 a b h0]
            · have hz : (BitVec.ofInt n b).toInt ≠ 0 := fun e => h0 ((toInt_eq_zero _).1 e)
              rw [if_neg hz, divided_f hA hB hz (by omega), W.rem a b h0]
              simp only [obind, parted]
              rw [if_pos trivial, wr _ (ok64 _), cut64 hle, ← BitVec.toInt_srem, BitVec.ofInt_toInt]
              simp only [obind]
          · rw [if_neg (by simpa using h15)]
            by_cases h16 : op = 16
            · subst h16
              rw [if_pos rfl, refand_f (by omega), W.and]
              simp only [obind]
              rw [wr _ (ok64 _), toInt_cut hle, BitVec.setWidth_and, ofInt_cut hle, ofInt_cut hle, BitVec.ofInt_toInt, BitVec.ofInt_toInt]
              simp only [obind]
            · rw [if_neg h16]
              by_cases h17 : op = 17
              · subst h17
                rw [if_pos rfl, refor_f (by omega), W.or]
                simp only [obind]
                rw [wr _ (ok64 _), toInt_cut hle, BitVec.setWidth_or, ofInt_cut hle, ofInt_cut hle, BitVec.ofInt_toInt, BitVec.ofInt_toInt]
                simp only [obind]
              · rw [if_neg h17]
                by_cases h18 : op = 18
                · subst h18
                  rw [if_pos rfl, refxor_f (by omega), W.xor]
                  simp only [obind]
                  rw [wr _ (ok64 _), toInt_cut hle, BitVec.setWidth_xor, ofInt_cut hle, ofInt_cut hle, BitVec.ofInt_toInt, BitVec.ofInt_toInt]
                  simp only [obind]
                · rw [if_neg h18]
                  have hm : (BitVec.ofInt n b).toNat % n < n := Nat.mod_lt _ hpos
                  by_cases h19 : op = 19
                  · subst h19
                    rw [if_pos rfl, power_f _ (by omega), W.shl]
                    simp only [obind]
                    rw [wr0, BitVec.ofInt_mul, BitVec.ofInt_toInt, ofInt_twoPow hle, ← BitVec.shiftLeft_eq_mul_twoPow]
                    simp only [obind]
                  · rw [if_neg h19]
                    by_cases h20 : op = 20
                    · subst h20
                      have e : (BitVec.ofInt n a).toInt / 2 ^ ((BitVec.ofInt n b).toNat % n) = ((BitVec.ofInt n a).sshiftRight ((BitVec.ofInt n b).toNat % n)).toInt := by
                        rw [BitVec.toInt_sshiftRight, Int.shiftRight_eq_div_pow]; simp
                      rw [if_pos rfl, refdown_f hA _ (by omega) (by omega), W.shr, e]
                      simp only [obind]
                      rw [wr _ (W.ok _), BitVec.ofInt_toInt]
                      simp only [obind]
                    · rw [if_neg h20, wr 0 (by decide), W.two]
                      simp only [obind]
                      unfold twoB
                      rw [if_neg h14, if_neg h15, if_neg h12, if_neg h11, if_neg h13, if_neg h16, if_neg h17, if_neg h18, if_neg h19, if_neg h20]
                      rw [show BitVec.ofInt n 0 = 0#n from rfl, BitVec.toInt_zero]
theorem reftwo_f (op w : Int) {a b : Int} (ha : Ok a) (hb : Ok b) {k : Nat} (hk : 400 ≤ k) : trammelref02_Two.f k op w a b = some (reck op w a b) := by
  by_cases h : w = 1 ∨ w = 2 ∨ w = 3
  · rcases h with rfl | rfl | rfl
    · exact reftwo_v wd1 (by omega) op ha hb hk
    · exact reftwo_v wd2 (by omega) op ha hb hk
    · exact reftwo_v wd3 (by omega) op ha hb hk
  · obtain ⟨h1, _, h3⟩ := inv_w h
    unfold trammelref02_Two.f
    rw [refbits_f, h1, h3]
    simp only [obind]
    rw [if_pos trivial]
theorem refone_f (op w : Int) {a : Int} (ha : Ok a) {k : Nat} (hk : 400 ≤ k) : trammelref02_One.f k op w a = some (oneW op w a) := by
  have neg : ∀ y, Ok (wrap64 y) := fun y => by rw [w64]; exact ok64 _
  have hok : Ok (wrapW w a) := by
    by_cases h : w = 1 ∨ w = 2 ∨ w = 3
    · obtain ⟨n, W⟩ := wd_of h; exact W.ok_wrap ha
    · rw [(inv_w h).2.1]; decide
  unfold trammelref02_One.f
  rw [refwrap_f w ha (by omega)]
  simp only [obind]
  rw [refwrap_f w (neg _) (by omega), refwrap_f w (neg _) (by omega)]
  simp only [obind]
  by_cases h21 : op = 21
  · subst h21
    rw [if_pos rfl]
    by_cases h : w = 1 ∨ w = 2 ∨ w = 3
    · obtain ⟨n, W⟩ := wd_of h
      rw [W.neg, W.wrap (neg _), W.wrap ha, w64, cut64 W.le, BitVec.ofInt_neg, BitVec.ofInt_toInt]
    · unfold oneW; rw [if_pos rfl, (inv_w h).2.1, (inv_w h).2.1]
  · rw [if_neg h21]
    by_cases h22 : op = 22
    · subst h22
      rw [if_pos rfl]
      by_cases h : w = 1 ∨ w = 2 ∨ w = 3
      · obtain ⟨n, W⟩ := wd_of h
        rw [W.not, W.wrap (neg _), W.wrap ha, w64, cut64 W.le, show (-1 : Int) - (BitVec.ofInt n a).toInt = -(BitVec.ofInt n a).toInt - 1 by omega, ofInt_not, BitVec.ofInt_toInt]
      · unfold oneW; rw [if_neg h21, if_pos rfl, (inv_w h).2.1, (inv_w h).2.1]
    · rw [if_neg h22]
      unfold oneW; rw [if_neg h21, if_neg h22]
theorem reftest_f (op w : Int) {a b : Int} (ha : Ok a) (hb : Ok b) {k : Nat} (hk : 400 ≤ k) : trammelref02_Test.f k op w a b = some (testW op w a b) := by
  unfold trammelref02_Test.f testW
  rw [refbits_f]
  simp only [obind]
  by_cases h : w = 1 ∨ w = 2 ∨ w = 3
  · have hz : ¬ bitsW w = 0 := by rcases h with rfl | rfl | rfl <;> decide
    rw [if_neg hz, if_pos h, refwrap_f w ha (by omega), refwrap_f w hb (by omega)]
    simp only [obind]
    unfold cmp
    repeat' split
    all_goals rfl
  · rw [if_neg h, (inv_w h).1, if_pos rfl]
/-- What the law's function answers. -/
theorem law_f (op w : Int) {a b : Int} (ha : Ok a) (hb : Ok b) : trammellaw02_WordReckons.f 500 op w a b = some true := by
  unfold trammellaw02_WordReckons.f
  rw [two_f op w ha hb (by decide), reftwo_f op w ha hb (by decide), one_f, refone_f op w ha (by decide), test_f, reftest_f op w ha hb (by decide), works_f (by decide)]
  simp only [obind]
  rw [if_pos trivial, if_pos trivial, if_pos trivial, if_pos (by simp)]
theorem walk (op w a b : Int) (W : World) (ha : Ok a) (hb : Ok b) : Calls Try.prog 9 #[.agg #[.int .u8 op, .int .u8 w, .int .i64 a, .int .i64 b]] W fun e w' => e = .returned (.bool true) ∧ Below W.heap.size W w' :=
  trammellaw02_WordReckons.calls 500 op w a b true W (law_f op w ha hb)
end Go.Proofs.Ytgomkbdemakndaa.Pure.WordReckonss
