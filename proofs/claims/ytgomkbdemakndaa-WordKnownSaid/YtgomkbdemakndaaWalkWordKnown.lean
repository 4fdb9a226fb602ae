/- WordKnown: the walk of the law. Under no conditions beyond the statement's own. -/
import Derived.Test.YtgomkbdemakndaaPWordKnownx2
import Derived.Test.YtgomkbdemakndaaPlainBits
namespace Go.Proofs.Ytgomkbdemakndaa.WalkWordKnown
open Go.RowKit Go.Proofs.Ytgomkbdemakndaa.PWordKnown Go.Proofs.YtgomkbdemakndaaW.PrintWords Go.Proofs.YtgomkbdemakndaaW.PrintLast Go.Proofs.YtgomkbdemakndaaW.PrintMore Go.Proofs.Ytgomkbdemakndaa.Plain
theorem bits_f (w : Int) : word_Bits.f w = some (bitsW w) := by
  unfold word_Bits.f bitsW
  by_cases h1 : w = 1
  · rw [if_pos h1, if_pos h1]
  · by_cases h2 : w = 2
    · rw [if_neg h1, if_neg h1, if_pos h2, if_pos h2]
    · by_cases h3 : w = 3
      · rw [if_neg h1, if_neg h1, if_neg h2, if_neg h2, if_pos h3, if_pos h3]
      · rw [if_neg h1, if_neg h1, if_neg h2, if_neg h2, if_neg h3, if_neg h3]
theorem wrap_f (w n : Int) : word_Wrap.f w n = some (wrapW w n) := by
  unfold word_Wrap.f wrapW
  by_cases h1 : w = 1
  · rw [if_pos h1, if_pos h1, w8, back8]
  · by_cases h2 : w = 2
    · rw [if_neg h1, if_neg h1, if_pos h2, if_pos h2, w32, back32]
    · by_cases h3 : w = 3
      · rw [if_neg h1, if_neg h1, if_neg h2, if_neg h2, if_pos h3, if_pos h3]
      · rw [if_neg h1, if_neg h1, if_neg h2, if_neg h2, if_neg h3, if_neg h3]
theorem fits_f (w n : Int) : word_Fits.f w n = some (fitsW w n) := by
  unfold word_Fits.f
  rw [bits_f]
  simp only [obind]
  by_cases h : bitsW w > 0
  · rw [if_pos h, wrap_f]
    simp only [obind, fitsW]
    rw [decide_eq_true h, Bool.true_and]
  · rw [if_neg h]
    unfold fitsW
    rw [decide_eq_false h, Bool.false_and]
theorem two8F (k : Nat) (op a b : Int) : word_two_int8.f (k + 1) op a b 8 = (if op = 14 then (if b = 0 then some (0, 1) else some (wrap64 (IntKind.i8.wrap (Int.tdiv a b)), 0)) else if op = 15 then (if b = 0 then some (0, 1) else some (wrap64 (Int.tmod a b), 0))
    else if op = 12 then (some (wrap64 (IntKind.i8.wrap (a + (IntKind.i8.wrap (-b)))), 0)) else (if op = 11 then (some (wrap64 (IntKind.i8.wrap (a + b)), 0)) else (if op = 13 then (some (wrap64 (IntKind.i8.wrap (a * b)), 0)) else (if op = 16 then (some (wrap64 (Go.bits .and .i8 a b), 0)) else (if op = 17 then (some (wrap64 (Go.bits .or .i8 a b), 0)) else (if op = 18 then (some (wrap64 (Go.bits .xor .i8 a b), 0)) else (if op = 19 then (if (8 : Int) = 0 then (none) else (if 0 ≤ (Int.tmod (IntKind.u64.wrap (b)) 8) then (some (wrap64 (shl .i8 a (Int.tmod (IntKind.u64.wrap (b)) 8)), 0)) else (none))) else (if op = 20 then (if (8 : Int) = 0 then (none) else (if 0 ≤ (Int.tmod (IntKind.u64.wrap (b)) 8) then (some (wrap64 (shr .i8 a (Int.tmod (IntKind.u64.wrap (b)) 8)), 0)) else (none))) else (some (0, 0)))))))))) := by
  unfold word_two_int8.f
  simp only [word_two_int8.j0]
  by_cases h14 : op = 14
  · simp only [if_pos h14, if_pos (show (op == 14) = true by simp [h14])]
  · by_cases h15 : op = 15
    · simp only [if_neg h14, if_pos h15, if_pos (show (op == 15) = true by simp [h15])]
    · simp only [if_neg h14, if_neg h15, if_neg (show ¬ (op == 15) = true by simp [h15])]
theorem two8 (k : Nat) (op : Int) (A B : BitVec 8) : word_two_int8.f (k + 1) op A.toInt B.toInt 8 = some (twoB op A B) := by
  rw [two8F]
  unfold twoB
  by_cases h14 : op = 14
  · rw [if_pos h14, if_pos h14]
    by_cases hb : B = 0#8
    · rw [if_pos hb, if_pos ((toInt_eq_zero B).2 hb)]
    · rw [if_neg hb, if_neg (fun e => hb ((toInt_eq_zero B).1 e)), w8, BitVec.toInt_ofInt, ← BitVec.toInt_sdiv, back8]
  · rw [if_neg h14, if_neg h14]
    by_cases h15 : op = 15
    · rw [if_pos h15, if_pos h15]
      by_cases hb : B = 0#8
      · rw [if_pos hb, if_pos ((toInt_eq_zero B).2 hb)]
      · rw [if_neg hb, if_neg (fun e => hb ((toInt_eq_zero B).1 e)), ← BitVec.toInt_srem, back8]
    · rw [if_neg h15, if_neg h15]
      by_cases h12 : op = 12
      · rw [if_pos h12, if_pos h12, w8, w8, BitVec.ofInt_add, BitVec.ofInt_toInt, BitVec.ofInt_toInt, BitVec.ofInt_neg, BitVec.ofInt_toInt, ← BitVec.sub_eq_add_neg, back8]
      · rw [if_neg h12, if_neg h12]
        by_cases h11 : op = 11
        · rw [if_pos h11, if_pos h11, w8, BitVec.ofInt_add, BitVec.ofInt_toInt, BitVec.ofInt_toInt, back8]
        · rw [if_neg h11, if_neg h11]
          by_cases h13 : op = 13
          · rw [if_pos h13, if_pos h13, w8, BitVec.ofInt_mul, BitVec.ofInt_toInt, BitVec.ofInt_toInt, back8]
          · rw [if_neg h13, if_neg h13]
            by_cases h16 : op = 16
            · rw [if_pos h16, if_pos h16, show Go.bits .and .i8 A.toInt B.toInt = (A &&& B).toInt by rw [and_k s8]; exact congrArg BitVec.toInt (congr (congrArg _ BitVec.ofInt_toInt) BitVec.ofInt_toInt), back8]
            · rw [if_neg h16, if_neg h16]
              by_cases h17 : op = 17
              · rw [if_pos h17, if_pos h17, show Go.bits .or .i8 A.toInt B.toInt = (A ||| B).toInt by rw [or_k s8]; exact congrArg BitVec.toInt (congr (congrArg _ BitVec.ofInt_toInt) BitVec.ofInt_toInt), back8]
              · rw [if_neg h17, if_neg h17]
                by_cases h18 : op = 18
                · rw [if_pos h18, if_pos h18, show Go.bits .xor .i8 A.toInt B.toInt = (A ^^^ B).toInt by rw [xor_k s8]; exact congrArg BitVec.toInt (congr (congrArg _ BitVec.ofInt_toInt) BitVec.ofInt_toInt), back8]
                · rw [if_neg h18, if_neg h18, count8]
                  by_cases h19 : op = 19
                  · rw [if_pos h19, if_pos h19, if_neg (by decide), if_pos (by omega), show shl .i8 A.toInt ((B.toNat % 8 : Nat) : Int) = (A <<< (B.toNat % 8)).toInt from shl_k s8 A _ (Nat.le_of_lt (Nat.mod_lt _ (by decide))), back8]
                  · rw [if_neg h19, if_neg h19]
                    by_cases h20 : op = 20
                    · rw [if_pos h20, if_pos h20, if_neg (by decide), if_pos (by omega), show shr .i8 A.toInt ((B.toNat % 8 : Nat) : Int) = (A.sshiftRight (B.toNat % 8)).toInt from shr_k (k := .i8) A _ (Nat.le_of_lt (Nat.mod_lt _ (by decide))), back8]
                    · rw [if_neg h20, if_neg h20]
theorem two32F (k : Nat) (op a b : Int) : word_two_int32.f (k + 1) op a b 32 = (if op = 14 then (if b = 0 then some (0, 1) else some (wrap64 (wrap32 (Int.tdiv a b)), 0)) else if op = 15 then (if b = 0 then some (0, 1) else some (wrap64 (Int.tmod a b), 0))
    else if op = 12 then (some (wrap64 (wrap32 (a + (wrap32 (-b)))), 0)) else (if op = 11 then (some (wrap64 (wrap32 (a + b)), 0)) else (if op = 13 then (some (wrap64 (wrap32 (a * b)), 0)) else (if op = 16 then (some (wrap64 (Go.bits .and .i32 a b), 0)) else (if op = 17 then (some (wrap64 (Go.bits .or .i32 a b), 0)) else (if op = 18 then (some (wrap64 (Go.bits .xor .i32 a b), 0)) else (if op = 19 then (if (32 : Int) = 0 then (none) else (if 0 ≤ (Int.tmod (IntKind.u64.wrap (b)) 32) then (some (wrap64 (shl .i32 a (Int.tmod (IntKind.u64.wrap (b)) 32)), 0)) else (none))) else (if op = 20 then (if (32 : Int) = 0 then (none) else (if 0 ≤ (Int.tmod (IntKind.u64.wrap (b)) 32) then (some (wrap64 (shr .i32 a (Int.tmod (IntKind.u64.wrap (b)) 32)), 0)) else (none))) else (some (0, 0)))))))))) := by
  unfold word_two_int32.f
  simp only [word_two_int32.j0]
  by_cases h14 : op = 14
  · simp only [if_pos h14, if_pos (show (op == 14) = true by simp [h14])]
  · by_cases h15 : op = 15
    · simp only [if_neg h14, if_pos h15, if_pos (show (op == 15) = true by simp [h15])]
    · simp only [if_neg h14, if_neg h15, if_neg (show ¬ (op == 15) = true by simp [h15])]
theorem two32 (k : Nat) (op : Int) (A B : BitVec 32) : word_two_int32.f (k + 1) op A.toInt B.toInt 32 = some (twoB op A B) := by
  rw [two32F]
  unfold twoB
  by_cases h14 : op = 14
  · rw [if_pos h14, if_pos h14]
    by_cases hb : B = 0#32
    · rw [if_pos hb, if_pos ((toInt_eq_zero B).2 hb)]
    · rw [if_neg hb, if_neg (fun e => hb ((toInt_eq_zero B).1 e)), w32, BitVec.toInt_ofInt, ← BitVec.toInt_sdiv, back32]
  · rw [if_neg h14, if_neg h14]
    by_cases h15 : op = 15
    · rw [if_pos h15, if_pos h15]
      by_cases hb : B = 0#32
      · rw [if_pos hb, if_pos ((toInt_eq_zero B).2 hb)]
      · rw [if_neg hb, if_neg (fun e => hb ((toInt_eq_zero B).1 e)), ← BitVec.toInt_srem, back32]
    · rw [if_neg h15, if_neg h15]
      by_cases h12 : op = 12
      · rw [if_pos h12, if_pos h12, w32, w32, BitVec.ofInt_add, BitVec.ofInt_toInt, BitVec.ofInt_toInt, BitVec.ofInt_neg, BitVec.ofInt_toInt, ← BitVec.sub_eq_add_neg, back32]
      · rw [if_neg h12, if_neg h12]
        by_cases h11 : op = 11
        · rw [if_pos h11, if_pos h11, w32, BitVec.ofInt_add, BitVec.ofInt_toInt, BitVec.ofInt_toInt, back32]
        · rw [if_neg h11, if_neg h11]
          by_cases h13 : op = 13
          · rw [if_pos h13, if_pos h13, w32, BitVec.ofInt_mul, BitVec.ofInt_toInt, BitVec.ofInt_toInt, back32]
          · rw [if_neg h13, if_neg h13]
            by_cases h16 : op = 16
            · rw [if_pos h16, if_pos h16, show Go.bits .and .i32 A.toInt B.toInt = (A &&& B).toInt by rw [and_k s32]; exact congrArg BitVec.toInt (congr (congrArg _ BitVec.ofInt_toInt) BitVec.ofInt_toInt), back32]
            · rw [if_neg h16, if_neg h16]
              by_cases h17 : op = 17
              · rw [if_pos h17, if_pos h17, show Go.bits .or .i32 A.toInt B.toInt = (A ||| B).toInt by rw [or_k s32]; exact congrArg BitVec.toInt (congr (congrArg _ BitVec.ofInt_toInt) BitVec.ofInt_toInt), back32]
              · rw [if_neg h17, if_neg h17]
                by_cases h18 : op = 18
                · rw [if_pos h18, if_pos h18, show Go.bits .xor .i32 A.toInt B.toInt = (A ^^^ B).toInt by rw [xor_k s32]; exact congrArg BitVec.toInt (congr (congrArg _ BitVec.ofInt_toInt) BitVec.ofInt_toInt), back32]
                · rw [if_neg h18, if_neg h18, count32]
                  by_cases h19 : op = 19
                  · rw [if_pos h19, if_pos h19, if_neg (by decide), if_pos (by omega), show shl .i32 A.toInt ((B.toNat % 32 : Nat) : Int) = (A <<< (B.toNat % 32)).toInt from shl_k s32 A _ (Nat.le_of_lt (Nat.mod_lt _ (by decide))), back32]
                  · rw [if_neg h19, if_neg h19]
                    by_cases h20 : op = 20
                    · rw [if_pos h20, if_pos h20, if_neg (by decide), if_pos (by omega), show shr .i32 A.toInt ((B.toNat % 32 : Nat) : Int) = (A.sshiftRight (B.toNat % 32)).toInt from shr_k (k := .i32) A _ (Nat.le_of_lt (Nat.mod_lt _ (by decide))), back32]
                    · rw [if_neg h20, if_neg h20]
theorem two64F (k : Nat) (op a b : Int) : word_two_int64.f (k + 1) op a b 64 = (if op = 14 then (if b = 0 then some (0, 1) else some (wrap64 (Int.tdiv a b), 0)) else if op = 15 then (if b = 0 then some (0, 1) else some (Int.tmod a b, 0))
    else if op = 12 then (some (wrap64 (a + (wrap64 (-b))), 0)) else (if op = 11 then (some (wrap64 (a + b), 0)) else (if op = 13 then (some (wrap64 (a * b), 0)) else (if op = 16 then (some (Go.bits .and .i64 a b, 0)) else (if op = 17 then (some (Go.bits .or .i64 a b, 0)) else (if op = 18 then (some (Go.bits .xor .i64 a b, 0)) else (if op = 19 then (if (64 : Int) = 0 then (none) else (if 0 ≤ (Int.tmod (IntKind.u64.wrap (b)) 64) then (some (shl .i64 a (Int.tmod (IntKind.u64.wrap (b)) 64), 0)) else (none))) else (if op = 20 then (if (64 : Int) = 0 then (none) else (if 0 ≤ (Int.tmod (IntKind.u64.wrap (b)) 64) then (some (shr .i64 a (Int.tmod (IntKind.u64.wrap (b)) 64), 0)) else (none))) else (some (0, 0)))))))))) := by
  unfold word_two_int64.f
  simp only [word_two_int64.j0]
  by_cases h14 : op = 14
  · simp only [if_pos h14, if_pos (show (op == 14) = true by simp [h14])]
  · by_cases h15 : op = 15
    · simp only [if_neg h14, if_pos h15, if_pos (show (op == 15) = true by simp [h15])]
    · simp only [if_neg h14, if_neg h15, if_neg (show ¬ (op == 15) = true by simp [h15])]
theorem two64 (k : Nat) (op : Int) (A B : BitVec 64) : word_two_int64.f (k + 1) op A.toInt B.toInt 64 = some (twoB op A B) := by
  rw [two64F]
  unfold twoB
  by_cases h14 : op = 14
  · rw [if_pos h14, if_pos h14]
    by_cases hb : B = 0#64
    · rw [if_pos hb, if_pos ((toInt_eq_zero B).2 hb)]
    · rw [if_neg hb, if_neg (fun e => hb ((toInt_eq_zero B).1 e)), w64, BitVec.toInt_ofInt, ← BitVec.toInt_sdiv]
  · rw [if_neg h14, if_neg h14]
    by_cases h15 : op = 15
    · rw [if_pos h15, if_pos h15]
      by_cases hb : B = 0#64
      · rw [if_pos hb, if_pos ((toInt_eq_zero B).2 hb)]
      · rw [if_neg hb, if_neg (fun e => hb ((toInt_eq_zero B).1 e)), ← BitVec.toInt_srem]
    · rw [if_neg h15, if_neg h15]
      by_cases h12 : op = 12
      · rw [if_pos h12, if_pos h12, w64, w64, BitVec.ofInt_add, BitVec.ofInt_toInt, BitVec.ofInt_toInt, BitVec.ofInt_neg, BitVec.ofInt_toInt, ← BitVec.sub_eq_add_neg]
      · rw [if_neg h12, if_neg h12]
        by_cases h11 : op = 11
        · rw [if_pos h11, if_pos h11, w64, BitVec.ofInt_add, BitVec.ofInt_toInt, BitVec.ofInt_toInt]
        · rw [if_neg h11, if_neg h11]
          by_cases h13 : op = 13
          · rw [if_pos h13, if_pos h13, w64, BitVec.ofInt_mul, BitVec.ofInt_toInt, BitVec.ofInt_toInt]
          · rw [if_neg h13, if_neg h13]
            by_cases h16 : op = 16
            · rw [if_pos h16, if_pos h16, show Go.bits .and .i64 A.toInt B.toInt = (A &&& B).toInt by rw [and_k s64]; exact congrArg BitVec.toInt (congr (congrArg _ BitVec.ofInt_toInt) BitVec.ofInt_toInt)]
            · rw [if_neg h16, if_neg h16]
              by_cases h17 : op = 17
              · rw [if_pos h17, if_pos h17, show Go.bits .or .i64 A.toInt B.toInt = (A ||| B).toInt by rw [or_k s64]; exact congrArg BitVec.toInt (congr (congrArg _ BitVec.ofInt_toInt) BitVec.ofInt_toInt)]
              · rw [if_neg h17, if_neg h17]
                by_cases h18 : op = 18
                · rw [if_pos h18, if_pos h18, show Go.bits .xor .i64 A.toInt B.toInt = (A ^^^ B).toInt by rw [xor_k s64]; exact congrArg BitVec.toInt (congr (congrArg _ BitVec.ofInt_toInt) BitVec.ofInt_toInt)]
                · rw [if_neg h18, if_neg h18, count64]
                  by_cases h19 : op = 19
                  · rw [if_pos h19, if_pos h19, if_neg (by decide), if_pos (by omega), show shl .i64 A.toInt ((B.toNat % 64 : Nat) : Int) = (A <<< (B.toNat % 64)).toInt from shl_k s64 A _ (Nat.le_of_lt (Nat.mod_lt _ (by decide)))]
                  · rw [if_neg h19, if_neg h19]
                    by_cases h20 : op = 20
                    · rw [if_pos h20, if_pos h20, if_neg (by decide), if_pos (by omega), show shr .i64 A.toInt ((B.toNat % 64 : Nat) : Int) = (A.sshiftRight (B.toNat % 64)).toInt from shr_k (k := .i64) A _ (Nat.le_of_lt (Nat.mod_lt _ (by decide)))]
                    · rw [if_neg h20, if_neg h20]
theorem two_f (op w : Int) {a b : Int} (ha : Ok a) (hb : Ok b) {k : Nat} (hk : 1 ≤ k) : word_Two.f k op w a b = some (reck op w a b) := by
  obtain ⟨k, rfl⟩ : ∃ m, k = m + 1 := ⟨k - 1, by omega⟩
  unfold word_Two.f reck
  by_cases h1 : w = 1
  · rw [if_pos h1, if_pos h1, w8, w8, two8]
    simp only [obind]
  · by_cases h2 : w = 2
    · rw [if_neg h1, if_neg h1, if_pos h2, if_pos h2, w32, w32, two32]
      simp only [obind]
    · by_cases h3 : w = 3
      · have h := two64 k op (BitVec.ofInt 64 a) (BitVec.ofInt 64 b)
        rw [ha, hb] at h
        rw [if_neg h1, if_neg h1, if_neg h2, if_neg h2, if_pos h3, if_pos h3, h]
        simp only [obind]
      · rw [if_neg h1, if_neg h1, if_neg h2, if_neg h2, if_neg h3, if_neg h3]
theorem works_f {k : Nat} (hk : 1 ≤ k) : trammellaw02_works.f k = some true := by
  unfold trammellaw02_works.f
  rw [two_f 11 1 (by decide) (by decide) hk, show reck 11 1 100 100 = (-56, 0) by decide +kernel]
  simp only [obind]
  rw [if_pos trivial, if_pos trivial, fits_f, fits_f, show fitsW 1 127 = true by decide +kernel, show fitsW 1 128 = false by decide +kernel]
  rfl
theorem cmp8 (op a b : Int) : word_compare_int8.f op a b = some (cmp op a b) := by
  unfold word_compare_int8.f cmp
  repeat' split
  all_goals rfl
theorem cmp32 (op a b : Int) : word_compare_int32.f op a b = some (cmp op a b) := by
  unfold word_compare_int32.f cmp
  repeat' split
  all_goals rfl
theorem cmp64 (op a b : Int) : word_compare_int64.f op a b = some (cmp op a b) := by
  unfold word_compare_int64.f cmp
  repeat' split
  all_goals rfl
theorem test_f (op w a b : Int) : word_Test.f op w a b = some (testW op w a b) := by
  unfold word_Test.f testW wrapW
  by_cases h1 : w = 1
  · simp only [if_pos h1, if_pos (Or.inl h1), cmp8, w8, obind]
  · by_cases h2 : w = 2
    · simp only [if_neg h1, if_pos h2, if_pos (show w = 1 ∨ w = 2 ∨ w = 3 by omega), cmp32, w32, obind]
    · by_cases h3 : w = 3
      · simp only [if_neg h1, if_neg h2, if_pos h3, if_pos (show w = 1 ∨ w = 2 ∨ w = 3 by omega), cmp64, obind]
      · simp only [if_neg h1, if_neg h2, if_neg h3, if_neg (show ¬ (w = 1 ∨ w = 2 ∨ w = 3) by omega)]
/-! The callees, by what they answer. -/
/-- The number of an instruction that does not trap. -/
def D (op v a b : Int) : Int := (reck op v a b).1
theorem wrap_c (v a : Int) (w : World) : Calls Try.prog 15 #[.int .u8 v, .int .i64 a] w fun e w' => e = .returned (.int .i64 (wrapW v a)) ∧ Drawn0 w w' := word_Wrap.calls v a _ w (wrap_f v a)
theorem fits_c (v a : Int) (w : World) : Calls Try.prog 13 #[.int .u8 v, .int .i64 a] w fun e w' => e = .returned (.bool (fitsW v a)) ∧ Drawn0 w w' := word_Fits.calls v a _ w (fits_f v a)
theorem works_c (w : World) : Calls Try.prog 17 #[] w fun e w' => e = .returned (.bool true) ∧ Drawn0 w w' := trammellaw02_works.calls 5 _ w (works_f (by decide))
theorem one_f (op v a : Int) : word_One.f op v a = some (oneW op v a) := by
  unfold word_One.f oneW
  by_cases h1 : op = 21
  · rw [if_pos h1, if_pos h1, wrap_f, w64, BitVec.ofInt_neg]
    simp only [obind]
  · by_cases h2 : op = 22
    · rw [if_neg h1, if_neg h1, if_pos h2, if_pos h2, wrap_f, xor_k s64]
      simp only [obind]
      congr 2
    · rw [if_neg h1, if_neg h1, if_neg h2, if_neg h2]
theorem one_c (op v a : Int) (w : World) : Calls Try.prog 21 #[.int .u8 op, .int .u8 v, .int .i64 a] w fun e w' => e = .returned (.int .i64 (oneW op v a)) ∧ Drawn0 w w' := word_One.calls op v a _ w (one_f op v a)
def toldW (op v a b n t : Int) : Bool := (reck op v a b).1 == n && (reck op v a b).2 == t
theorem told_f (op v : Int) {a b : Int} (n t : Int) (ha : Ok a) (hb : Ok b) : trammellaw02_told.f 5 op v a b n t = some (toldW op v a b n t) := by
  unfold trammellaw02_told.f toldW
  rw [two_f op v ha hb (by decide)]
  simp only [obind]
  by_cases h : (reck op v a b).1 = n
  · rw [if_pos h, beq_iff_eq.mpr h, Bool.true_and]
  · rw [if_neg h, beq_eq_false_iff_ne.mpr h, Bool.false_and]
theorem told_c (op v a b n t : Int) (ha : Ok a) (hb : Ok b) (h : toldW op v a b n t = true) (w : World) : Calls Try.prog 26 #[.int .u8 op, .int .u8 v, .int .i64 a, .int .i64 b, .int .i64 n, .int .i64 t] w fun e w' => e = .returned (.bool true) ∧ Drawn0 w w' :=
  trammellaw02_told.calls 5 op v a b n t _ w ((told_f op v n t ha hb).trans (congrArg some h))
theorem bits_c (v r : Int) (h : bitsW v = r) (w : World) : Calls Try.prog 11 #[.int .u8 v] w fun e w' => e = .returned (.int .i64 r) ∧ Drawn0 w w' := word_Bits.calls v r w ((bits_f v).trans (congrArg some h))
theorem wrapr_c (v a r : Int) (h : wrapW v a = r) (w : World) : Calls Try.prog 15 #[.int .u8 v, .int .i64 a] w fun e w' => e = .returned (.int .i64 r) ∧ Drawn0 w w' := word_Wrap.calls v a r w ((wrap_f v a).trans (congrArg some h))
theorem oner_c (op v a r : Int) (h : oneW op v a = r) (w : World) : Calls Try.prog 21 #[.int .u8 op, .int .u8 v, .int .i64 a] w fun e w' => e = .returned (.int .i64 r) ∧ Drawn0 w w' := word_One.calls op v a r w ((one_f op v a).trans (congrArg some h))
theorem fitsr_c (v a : Int) (r : Bool) (h : fitsW v a = r) (w : World) : Calls Try.prog 13 #[.int .u8 v, .int .i64 a] w fun e w' => e = .returned (.bool r) ∧ Drawn0 w w' := word_Fits.calls v a r w ((fits_f v a).trans (congrArg some h))
theorem testr_c (op v a b : Int) (r : Bool) (h : testW op v a b = r) (w : World) : Calls Try.prog 22 #[.int .u8 op, .int .u8 v, .int .i64 a, .int .i64 b] w fun e w' => e = .returned (.bool r) ∧ Drawn0 w w' := word_Test.calls op v a b r w ((test_f op v a b).trans (congrArg some h))
set_option maxHeartbeats 8000000 in
set_option maxRecDepth 100000 in
theorem known_c (w : World) : Calls Try.prog 10 #[] w fun e w' => e = .returned (.bool true) ∧ Drawn0 w w' := by
  go_enter Try.func10, Try.ntmps10
  go_wp2_with (first
    | (go_at_call 26; refine (told_c _ _ _ _ _ _ (by decide +kernel) (by decide +kernel) (by decide +kernel) _).mono ?_; rintro e w' ⟨rfl, ⟨nd, rfl⟩⟩)
    | (go_at_call 11; (first | refine (bits_c _ 0 (by decide +kernel) _).mono ?_ | refine (bits_c _ 8 (by decide +kernel) _).mono ?_ | refine (bits_c _ 32 (by decide +kernel) _).mono ?_ | refine (bits_c _ 64 (by decide +kernel) _).mono ?_); rintro e w' ⟨rfl, ⟨nd, rfl⟩⟩)
    | (go_at_call 15; (first | refine (wrapr_c _ _ (-128) (by decide +kernel) _).mono ?_ | refine (wrapr_c _ _ (-2147483648) (by decide +kernel) _).mono ?_ | refine (wrapr_c _ _ 0 (by decide +kernel) _).mono ?_ | refine (wrapr_c _ _ (-9223372036854775808) (by decide +kernel) _).mono ?_); rintro e w' ⟨rfl, ⟨nd, rfl⟩⟩)
    | (go_at_call 21; (first | refine (oner_c _ _ _ (-128) (by decide +kernel) _).mono ?_ | refine (oner_c _ _ _ (-1) (by decide +kernel) _).mono ?_ | refine (oner_c _ _ _ 0 (by decide +kernel) _).mono ?_); rintro e w' ⟨rfl, ⟨nd, rfl⟩⟩)
    | (go_at_call 13; (first | refine (fitsr_c _ _ true (by decide +kernel) _).mono ?_ | refine (fitsr_c _ _ false (by decide +kernel) _).mono ?_); rintro e w' ⟨rfl, ⟨nd, rfl⟩⟩)
    | (go_at_call 22; (first | refine (testr_c _ _ _ _ true (by decide +kernel) _).mono ?_ | refine (testr_c _ _ _ _ false (by decide +kernel) _).mono ?_); rintro e w' ⟨rfl, ⟨nd, rfl⟩⟩)
    | (go_at_call 17; refine (works_c _).mono ?_; rintro e w' ⟨rfl, ⟨nd, rfl⟩⟩))
  go_ret
  exact ⟨by first | rfl | (simp; done), by repeat (first | exact Drawn0.refl _ | apply Drawn0.step)⟩
theorem walk (w : World) : Calls Try.prog 10 #[] w fun e w' => e = .returned (.bool true) ∧ Below w.heap.size w w' :=
  (known_c w).mono fun _ _ ⟨he, hd⟩ => ⟨he, hd.below⟩
end Go.Proofs.Ytgomkbdemakndaa.WalkWordKnown
