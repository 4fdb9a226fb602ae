/- WordOrder: numbers of a width are in order, in plain Lean. Under no conditions beyond the statement's own. -/
import Derived.Test.YtgomkbdemakndaaPWordOrderx
import Derived.Test.YtgomkbdemakndaaPlainTest
namespace Go.Proofs.Ytgomkbdemakndaa.Pure.WordOrders
open Go.RowKit Go.Proofs.Ytgomkbdemakndaa.PWordOrder Go.Proofs.YtgomkbdemakndaaW.PrintWords Go.Proofs.YtgomkbdemakndaaW.PrintLast Go.Proofs.YtgomkbdemakndaaW.PrintMore Go.Proofs.Ytgomkbdemakndaa.Plain
theorem bits_f (w : Int) : word_Bits.f w = some (bitsW w) := by
  unfold word_Bits.f bitsW
  by_cases h1 : w = 1
  · rw [if_pos h1, if_pos h1]
  · by_cases h2 : w = 2
    · rw [if_neg h1, if_neg h1, if_pos h2, if_pos h2]
    · by_cases h3 : w = 3
      · rw [if_neg h1, if_neg h1, if_neg h2, if_neg h2, if_pos h3, if_pos h3]
      · rw [if_neg h1, if_neg h1, if_neg h2, if_neg h2, if_neg h3, if_neg h3]
theorem wrap_f (w n : Int) : word_Wrap.f w n = some (wrapW w n) := by
  unfold word_Wrap.f wrapW
  by_cases h1 : w = 1
  · rw [if_pos h1, if_pos h1, w8, back8]
  · by_cases h2 : w = 2
    · rw [if_neg h1, if_neg h1, if_pos h2, if_pos h2, w32, back32]
    · by_cases h3 : w = 3
      · rw [if_neg h1, if_neg h1, if_neg h2, if_neg h2, if_pos h3, if_pos h3]
      · rw [if_neg h1, if_neg h1, if_neg h2, if_neg h2, if_neg h3, if_neg h3]
theorem fits_f (w n : Int) : word_Fits.f w n = some (fitsW w n) := by
  unfold word_Fits.f
  rw [bits_f]
  simp only [obind]
  by_cases h : bitsW w > 0
  · rw [if_pos h, wrap_f]
    simp only [obind, fitsW]
    rw [decide_eq_true h, Bool.true_and]
  · rw [if_neg h]
    unfold fitsW
    rw [decide_eq_false h, Bool.false_and]
theorem two8F (k : Nat) (op a b : Int) : word_two_int8.f (k + 1) op a b 8 = (if op = 14 then (if b = 0 then some (0, 1) else some (wrap64 (IntKind.i8.wrap (Int.tdiv a b)), 0)) else if op = 15 then (if b = 0 then some (0, 1) else some (wrap64 (Int.tmod a b), 0))
    else if op = 12 then (some (wrap64 (IntKind.i8.wrap (a + (IntKind.i8.wrap (-b)))), 0)) else (if op = 11 then (some (wrap64 (IntKind.i8.wrap (a + b)), 0)) else (if op = 13 then (some (wrap64 (IntKind.i8.wrap (a * b)), 0)) else (if op = 16 then (some (wrap64 (Go.bits .and .i8 a b), 0)) else (if op = 17 then (some (wrap64 (Go.bits .or .i8 a b), 0)) else (if op = 18 then (some (wrap64 (Go.bits .xor .i8 a b), 0)) else (if op = 19 then (if (8 : Int) = 0 then (none) else (if 0 ≤ (Int.tmod (IntKind.u64.wrap (b)) 8) then (some (wrap64 (shl .i8 a (Int.tmod (IntKind.u64.wrap (b)) 8)), 0)) else (none))) else (if op = 20 then (if (8 : Int) = 0 then (none) else (if 0 ≤ (Int.tmod (IntKind.u64.wrap (b)) 8) then (some (wrap64 (shr .i8 a (Int.tmod (IntKind.u64.wrap (b)) 8)), 0)) else (none))) else (some (0, 0)))))))))) := by
  unfold word_two_int8.f
  simp only [word_two_int8.j0]
  by_cases h14 : op = 14
  · simp only [if_pos h14, if_pos (show (op == 14) = true by simp [h14])]
  · by_cases h15 : op = 15
    · simp only [if_neg h14, if_pos h15, if_pos (show (op == 15) = true by simp [h15])]
    · simp only [if_neg h14, if_neg h15, if_neg (show ¬ (op == 15) = true by simp [h15])]
theorem two8 (k : Nat) (op : Int) (A B : BitVec 8) : word_two_int8.f (k + 1) op A.toInt B.toInt 8 = some (twoB op A B) := by
  rw [two8F]
  unfold twoB
  by_cases h14 : op = 14
  · rw [if_pos h14, if_pos h14]
    by_cases hb : B = 0#8
    · rw [if_pos hb, if_pos ((toInt_eq_zero B).2 hb)]
    · rw [if_neg hb, if_neg (fun e => hb ((toInt_eq_zero B).1 e)), w8, BitVec.toInt_ofInt, ← BitVec.toInt_sdiv, back8]
  · rw [if_neg h14, if_neg h14]
    by_cases h15 : op = 15
    · rw [if_pos h15, if_pos h15]
      by_cases hb : B = 0#8
      · rw [if_pos hb, if_pos ((toInt_eq_zero B).2 hb)]
      · rw [if_neg hb, if_neg (fun e => hb ((toInt_eq_zero B).1 e)), ← BitVec.toInt_srem, back8]
    · rw [if_neg h15, if_neg h15]
      by_cases h12 : op = 12
      · rw [if_pos h12, if_pos h12, w8, w8, BitVec.ofInt_add, BitVec.ofInt_toInt, BitVec.ofInt_toInt, BitVec.ofInt_neg, BitVec.ofInt_toInt, ← BitVec.sub_eq_add_neg, back8]
      · rw [if_neg h12, if_neg h12]
        by_cases h11 : op = 11
        · rw [if_pos h11, if_pos h11, w8, BitVec.ofInt_add, BitVec.ofInt_toInt, BitVec.ofInt_toInt, back8]
        · rw [if_neg h11, if_neg h11]
          by_cases h13 : op = 13
          · rw [if_pos h13, if_pos h13, w8, BitVec.ofInt_mul, BitVec.ofInt_toInt, BitVec.ofInt_toInt, back8]
          · rw [if_neg h13, if_neg h13]
            by_cases h16 : op = 16
            · rw [if_pos h16, if_pos h16, show Go.bits .and .i8 A.toInt B.toInt = (A &&& B).toInt by rw [and_k s8]; exact congrArg BitVec.toInt (congr (congrArg _ BitVec.ofInt_toInt) BitVec.ofInt_toInt), back8]
            · rw [if_neg h16, if_neg h16]
              by_cases h17 : op = 17
              · rw [if_pos h17, if_pos h17, show Go.bits .or .i8 A.toInt B.toInt = (A ||| B).toInt by rw [or_k s8]; exact congrArg BitVec.toInt (congr (congrArg _ BitVec.ofInt_toInt) BitVec.ofInt_toInt), back8]
              · rw [if_neg h17, if_neg h17]
                by_cases h18 : op = 18
                · rw [if_pos h18, if_pos h18, show Go.bits .xor .i8 A.toInt B.toInt = (A ^^^ B).toInt by rw [xor_k s8]; exact congrArg BitVec.toInt (congr (congrArg _ BitVec.ofInt_toInt) BitVec.ofInt_toInt), back8]
                · rw [if_neg h18, if_neg h18, count8]
                  by_cases h19 : op = 19
                  · rw [if_pos h19, if_pos h19, if_neg (by decide), if_pos (by omega), show shl .i8 A.toInt ((B.toNat % 8 : Nat) : Int) = (A <<< (B.toNat % 8)).toInt from shl_k s8 A _ (Nat.le_of_lt (Nat.mod_lt _ (by decide))), back8]
                  · rw [if_neg h19, if_neg h19]
                    by_cases h20 : op = 20
                    · rw [if_pos h20, if_pos h20, if_neg (by decide), if_pos (by omega), show shr .i8 A.toInt ((B.toNat % 8 : Nat) : Int) = (A.sshiftRight (B.toNat % 8)).toInt from shr_k (k := .i8) A _ (Nat.le_of_lt (Nat.mod_lt _ (by decide))), back8]
                    · rw [if_neg h20, if_neg h20]
theorem two32F (k : Nat) (op a b : Int) : word_two_int32.f (k + 1) op a b 32 = (if op = 14 then (if b = 0 then some (0, 1) else some (wrap64 (wrap32 (Int.tdiv a b)), 0)) else if op = 15 then (if b = 0 then some (0, 1) else some (wrap64 (Int.tmod a b), 0))
    else if op = 12 then (some (wrap64 (wrap32 (a + (wrap32 (-b)))), 0)) else (if op = 11 then (some (wrap64 (wrap32 (a + b)), 0)) else (if op = 13 then (some (wrap64 (wrap32 (a * b)), 0)) else (if op = 16 then (some (wrap64 (Go.bits .and .i32 a b), 0)) else (if op = 17 then (some (wrap64 (Go.bits .or .i32 a b), 0)) else (if op = 18 then (some (wrap64 (Go.bits .xor .i32 a b), 0)) else (if op = 19 then (if (32 : Int) = 0 then (none) else (if 0 ≤ (Int.tmod (IntKind.u64.wrap (b)) 32) then (some (wrap64 (shl .i32 a (Int.tmod (IntKind.u64.wrap (b)) 32)), 0)) else (none))) else (if op = 20 then (if (32 : Int) = 0 then (none) else (if 0 ≤ (Int.tmod (IntKind.u64.wrap (b)) 32) then (some (wrap64 (shr .i32 a (Int.tmod (IntKind.u64.wrap (b)) 32)), 0)) else (none))) else (some (0, 0)))))))))) := by
  unfold word_two_int32.f
  simp only [word_two_int32.j0]
  by_cases h14 : op = 14
  · simp only [if_pos h14, if_pos (show (op == 14) = true by simp [h14])]
  · by_cases h15 : op = 15
    · simp only [if_neg h14, if_pos h15, if_pos (show (op == 15) = true by simp [h15])]
    · simp only [if_neg h14, if_neg h15, if_neg (show ¬ (op == 15) = true by simp [h15])]
theorem two32 (k : Nat) (op : Int) (A B : BitVec 32) : word_two_int32.f (k + 1) op A.toInt B.toInt 32 = some (twoB op A B) := by
  rw [two32F]
  unfold twoB
  by_cases h14 : op = 14
  · rw [if_pos h14, if_pos h14]
    by_cases hb : B = 0#32
    · rw [if_pos hb, if_pos ((toInt_eq_zero B).2 hb)]
    · rw [if_neg hb, if_neg (fun e => hb ((toInt_eq_zero B).1 e)), w32, BitVec.toInt_ofInt, ← BitVec.toInt_sdiv, back32]
  · rw [if_neg h14, if_neg h14]
    by_cases h15 : op = 15
    · rw [if_pos h15, if_pos h15]
      by_cases hb : B = 0#32
      · rw [if_pos hb, if_pos ((toInt_eq_zero B).2 hb)]
      · rw [if_neg hb, if_neg (fun e => hb ((toInt_eq_zero B).1 e)), ← BitVec.toInt_srem, back32]
    · rw [if_neg h15, if_neg h15]
      by_cases h12 : op = 12
      · rw [if_pos h12, if_pos h12, w32, w32, BitVec.ofInt_add, BitVec.ofInt_toInt, BitVec.ofInt_toInt, BitVec.ofInt_neg, BitVec.ofInt_toInt, ← BitVec.sub_eq_add_neg, back32]
      · rw [if_neg h12, if_neg h12]
        by_cases h11 : op = 11
        · rw [if_pos h11, if_pos h11, w32, BitVec.ofInt_add, BitVec.ofInt_toInt, BitVec.ofInt_toInt, back32]
        · rw [if_neg h11, if_neg h11]
          by_cases h13 : op = 13
          · rw [if_pos h13, if_pos h13, w32, BitVec.ofInt_mul, BitVec.ofInt_toInt, BitVec.ofInt_toInt, back32]
          · rw [if_neg h13, if_neg h13]
            by_cases h16 : op = 16
            · rw [if_pos h16, if_pos h16, show Go.bits .and .i32 A.toInt B.toInt = (A &&& B).toInt by rw [and_k s32]; exact congrArg BitVec.toInt (congr (congrArg _ BitVec.ofInt_toInt) BitVec.ofInt_toInt), back32]
            · rw [if_neg h16, if_neg h16]
              by_cases h17 : op = 17
              · rw [if_pos h17, if_pos h17, show Go.bits .or .i32 A.toInt B.toInt = (A ||| B).toInt by rw [or_k s32]; exact congrArg BitVec.toInt (congr (congrArg _ BitVec.ofInt_toInt) BitVec.ofInt_toInt), back32]
              · rw [if_neg h17, if_neg h17]
                by_cases h18 : op = 18
                · rw [if_pos h18, if_pos h18, show Go.bits .xor .i32 A.toInt B.toInt = (A ^^^ B).toInt by rw [xor_k s32]; exact congrArg BitVec.toInt (congr (congrArg _ BitVec.ofInt_toInt) BitVec.ofInt_toInt), back32]
                · rw [if_neg h18, if_neg h18, count32]
                  by_cases h19 : op = 19
                  · rw [if_pos h19, if_pos h19, if_neg (by decide), if_pos (by omega), show shl .i32 A.toInt ((B.toNat % 32 : Nat) : Int) = (A <<< (B.toNat % 32)).toInt from shl_k s32 A _ (Nat.le_of_lt (Nat.mod_lt _ (by decide))), back32]
                  · rw [if_neg h19, if_neg h19]
                    by_cases h20 : op = 20
                    · rw [if_pos h20, if_pos h20, if_neg (by decide), if_pos (by omega), show shr .i32 A.toInt ((B.toNat % 32 : Nat) : Int) = (A.sshiftRight (B.toNat % 32)).toInt from shr_k (k := .i32) A _ (Nat.le_of_lt (Nat.mod_lt _ (by decide))), back32]
                    · rw [if_neg h20, if_neg h20]
theorem two64F (k : Nat) (op a b : Int) : word_two_int64.f (k + 1) op a b 64 = (if op = 14 then (if b = 0 then some (0, 1) else some (wrap64 (Int.tdiv a b), 0)) else if op = 15 then (if b = 0 then some (0, 1) else some (Int.tmod a b, 0))
    else if op = 12 then (some (wrap64 (a + (wrap64 (-b))), 0)) else (if op = 11 then (some (wrap64 (a + b), 0)) else (if op = 13 then (some (wrap64 (a * b), 0)) else (if op = 16 then (some (Go.bits .and .i64 a b, 0)) else (if op = 17 then (some (Go.bits .or .i64 a b, 0)) else (if op = 18 then (some (Go.bits .xor .i64 a b, 0)) else (if op = 19 then (if (64 : Int) = 0 then (none) else (if 0 ≤ (Int.tmod (IntKind.u64.wrap (b)) 64) then (some (shl .i64 a (Int.tmod (IntKind.u64.wrap (b)) 64), 0)) else (none))) else (if op = 20 then (if (64 : Int) = 0 then (none) else (if 0 ≤ (Int.tmod (IntKind.u64.wrap (b)) 64) then (some (shr .i64 a (Int.tmod (IntKind.u64.wrap (b)) 64), 0)) else (none))) else (some (0, 0)))))))))) := by
  unfold word_two_int64.f
  simp only [word_two_int64.j0]
  by_cases h14 : op = 14
  · simp only [if_pos h14, if_pos (show (op == 14) = true by simp [h14])]
  · by_cases h15 : op = 15
    · simp only [if_neg h14, if_pos h15, if_pos (show (op == 15) = true by simp [h15])]
    · simp only [if_neg h14, if_neg h15, if_neg (show ¬ (op == 15) = true by simp [h15])]
theorem two64 (k : Nat) (op : Int) (A B : BitVec 64) : word_two_int64.f (k + 1) op A.toInt B.toInt 64 = some (twoB op A B) := by
  rw [two64F]
  unfold twoB
  by_cases h14 : op = 14
  · rw [if_pos h14, if_pos h14]
    by_cases hb : B = 0#64
    · rw [if_pos hb, if_pos ((toInt_eq_zero B).2 hb)]
    · rw [if_neg hb, if_neg (fun e => hb ((toInt_eq_zero B).1 e)), w64, BitVec.toInt_ofInt, ← BitVec.toInt_sdiv]
  · rw [if_neg h14, if_neg h14]
    by_cases h15 : op = 15
    · rw [if_pos h15, if_pos h15]
      by_cases hb : B = 0#64
      · rw [if_pos hb, if_pos ((toInt_eq_zero B).2 hb)]
      · rw [if_neg hb, if_neg (fun e => hb ((toInt_eq_zero B).1 e)), ← BitVec.toInt_srem]
    · rw [if_neg h15, if_neg h15]
      by_cases h12 : op = 12
      · rw [if_pos h12, if_pos h12, w64, w64, BitVec.ofInt_add, BitVec.ofInt_toInt, BitVec.ofInt_toInt, BitVec.ofInt_neg, BitVec.ofInt_toInt, ← BitVec.sub_eq_add_neg]
      · rw [if_neg h12, if_neg h12]
        by_cases h11 : op = 11
        · rw [if_pos h11, if_pos h11, w64, BitVec.ofInt_add, BitVec.ofInt_toInt, BitVec.ofInt_toInt]
        · rw [if_neg h11, if_neg h11]
          by_cases h13 : op = 13
          · rw [if_pos h13, if_pos h13, w64, BitVec.ofInt_mul, BitVec.ofInt_toInt, BitVec.ofInt_toInt]
          · rw [if_neg h13, if_neg h13]
            by_cases h16 : op = 16
            · rw [if_pos h16, if_pos h16, show Go.bits .and .i64 A.toInt B.toInt = (A &&& B).toInt by rw [and_k s64]; exact congrArg BitVec.toInt (congr (congrArg _ BitVec.ofInt_toInt) BitVec.ofInt_toInt)]
            · rw [if_neg h16, if_neg h16]
              by_cases h17 : op = 17
              · rw [if_pos h17, if_pos h17, show Go.bits .or .i64 A.toInt B.toInt = (A ||| B).toInt by rw [or_k s64]; exact congrArg BitVec.toInt (congr (congrArg _ BitVec.ofInt_toInt) BitVec.ofInt_toInt)]
              · rw [if_neg h17, if_neg h17]
                by_cases h18 : op = 18
                · rw [if_pos h18, if_pos h18, show Go.bits .xor .i64 A.toInt B.toInt = (A ^^^ B).toInt by rw [xor_k s64]; exact congrArg BitVec.toInt (congr (congrArg _ BitVec.ofInt_toInt) BitVec.ofInt_toInt)]
                · rw [if_neg h18, if_neg h18, count64]
                  by_cases h19 : op = 19
                  · rw [if_pos h19, if_pos h19, if_neg (by decide), if_pos (by omega), show shl .i64 A.toInt ((B.toNat % 64 : Nat) : Int) = (A <<< (B.toNat % 64)).toInt from shl_k s64 A _ (Nat.le_of_lt (Nat.mod_lt _ (by decide)))]
                  · rw [if_neg h19, if_neg h19]
                    by_cases h20 : op = 20
                    · rw [if_pos h20, if_pos h20, if_neg (by decide), if_pos (by omega), show shr .i64 A.toInt ((B.toNat % 64 : Nat) : Int) = (A.sshiftRight (B.toNat % 64)).toInt from shr_k (k := .i64) A _ (Nat.le_of_lt (Nat.mod_lt _ (by decide)))]
                    · rw [if_neg h20, if_neg h20]
theorem two_f (op w : Int) {a b : Int} (ha : Ok a) (hb : Ok b) {k : Nat} (hk : 1 ≤ k) : word_Two.f k op w a b = some (reck op w a b) := by
  obtain ⟨k, rfl⟩ : ∃ m, k = m + 1 := ⟨k - 1, by omega⟩
  unfold word_Two.f reck
  by_cases h1 : w = 1
  · rw [if_pos h1, if_pos h1, w8, w8, two8]
    simp only [obind]
  · by_cases h2 : w = 2
    · rw [if_neg h1, if_neg h1, if_pos h2, if_pos h2, w32, w32, two32]
      simp only [obind]
    · by_cases h3 : w = 3
      · have h := two64 k op (BitVec.ofInt 64 a) (BitVec.ofInt 64 b)
        rw [ha, hb] at h
        rw [if_neg h1, if_neg h1, if_neg h2, if_neg h2, if_pos h3, if_pos h3, h]
        simp only [obind]
      · rw [if_neg h1, if_neg h1, if_neg h2, if_neg h2, if_neg h3, if_neg h3]
theorem works_f {k : Nat} (hk : 1 ≤ k) : trammellaw02_works.f k = some true := by
  unfold trammellaw02_works.f
  rw [two_f 11 1 (by decide) (by decide) hk, show reck 11 1 100 100 = (-56, 0) by decide +kernel]
  simp only [obind]
  rw [if_pos trivial, if_pos trivial, fits_f, fits_f, show fitsW 1 127 = true by decide +kernel, show fitsW 1 128 = false by decide +kernel]
  rfl
theorem width_f {w : Int} (h0 : 0 ≤ w) : ∃ v, trammellaw02_width.f w = some v ∧ (v = 1 ∨ v = 2 ∨ v = 3) := by
  refine ⟨_, rfl, ?_⟩
  rw [Int.tmod_eq_emod_of_nonneg h0]
  omega
theorem cmp8 (op a b : Int) : word_compare_int8.f op a b = some (cmp op a b) := by
  unfold word_compare_int8.f cmp
  repeat' split
  all_goals rfl
theorem cmp32 (op a b : Int) : word_compare_int32.f op a b = some (cmp op a b) := by
  unfold word_compare_int32.f cmp
  repeat' split
  all_goals rfl
theorem cmp64 (op a b : Int) : word_compare_int64.f op a b = some (cmp op a b) := by
  unfold word_compare_int64.f cmp
  repeat' split
  all_goals rfl
theorem test_f (op w a b : Int) : word_Test.f op w a b = some (testW op w a b) := by
  unfold word_Test.f testW wrapW
  by_cases h1 : w = 1
  · simp only [if_pos h1, if_pos (Or.inl h1), cmp8, w8, obind]
  · by_cases h2 : w = 2
    · simp only [if_neg h1, if_pos h2, if_pos (show w = 1 ∨ w = 2 ∨ w = 3 by omega), cmp32, w32, obind]
    · by_cases h3 : w = 3
      · simp only [if_neg h1, if_neg h2, if_pos h3, if_pos (show w = 1 ∨ w = 2 ∨ w = 3 by omega), cmp64, obind]
      · simp only [if_neg h1, if_neg h2, if_neg h3, if_neg (show ¬ (w = 1 ∨ w = 2 ∨ w = 3) by omega)]
theorem tst {op v a b : Int} (hv : v = 1 ∨ v = 2 ∨ v = 3) : testW op v a b = cmp op (wrapW v a) (wrapW v b) := if_pos hv
theorem j3_f (v a b c : Int) (hv : v = 1 ∨ v = 2 ∨ v = 3) {k : Nat} (hk : 2 ≤ k) : trammellaw02_WordOrder.j3 k v a b c (decide (wrapW v a < wrapW v b)) (wrapW v a == wrapW v b) false = some true := by
  obtain ⟨k, rfl⟩ : ∃ m, k = m + 1 := ⟨k - 1, by omega⟩
  simp only [trammellaw02_WordOrder.j3]
  rw [if_neg (by decide), test_f, test_f, wrap_f, wrap_f, works_f (by omega)]
  simp only [obind]
  rw [tst hv, tst hv]
  generalize wrapW v a = x
  generalize wrapW v b = y
  generalize wrapW v c = z
  have hxy : ((x == y) == (x == y)) = true := by simp
  by_cases h1 : x < y
  · rw [if_pos (by simpa using h1)]
    by_cases h2 : y < z
    · rw [if_pos (show cmp 25 y z = true from decide_eq_true h2), if_pos (show cmp 25 x z = true from decide_eq_true (by omega)), if_pos hxy]
    · rw [if_neg (show ¬ cmp 25 y z = true from by rw [show cmp 25 y z = decide (y < z) from rfl, decide_eq_true_iff]; exact h2), if_pos hxy]
  · rw [if_neg (by simpa using h1), if_pos hxy]
theorem j2_f (v a b c : Int) (hv : v = 1 ∨ v = 2 ∨ v = 3) {k : Nat} (hk : 3 ≤ k) : trammellaw02_WordOrder.j2 k v a b c (decide (wrapW v a < wrapW v b)) (wrapW v a == wrapW v b) (decide (wrapW v a > wrapW v b)) 1 = some true := by
  obtain ⟨k, rfl⟩ : ∃ m, k = m + 1 := ⟨k - 1, by omega⟩
  simp only [trammellaw02_WordOrder.j2]
  rw [if_pos trivial, test_f, test_f, test_f, test_f, tst hv, tst hv, tst hv, tst hv]
  simp only [obind]
  have h1 : ¬ ((cmp 24 (wrapW v a) (wrapW v b) == (wrapW v a == wrapW v b)) = true) := by
    rw [show cmp 24 (wrapW v a) (wrapW v b) = !(wrapW v a == wrapW v b) from rfl]
    cases (wrapW v a == wrapW v b) <;> decide
  have h2 : ¬ ((cmp 26 (wrapW v a) (wrapW v b) == decide (wrapW v a > wrapW v b)) = true) := by
    simp [cmp]; omega
  have h3 : ¬ ((cmp 28 (wrapW v a) (wrapW v b) == decide (wrapW v a < wrapW v b)) = true) := by
    simp [cmp]; omega
  have h4 : (cmp 27 (wrapW v b) (wrapW v a) != decide (wrapW v a < wrapW v b)) = false := by
    simp [cmp]
  rw [if_neg h1, if_neg h2, if_neg h3, h4]
  exact j3_f v a b c hv (by omega)
end Go.Proofs.Ytgomkbdemakndaa.Pure.WordOrders
namespace Go.Proofs.Ytgomkbdemakndaa.Pure
open WordOrders Go.RowKit Go.Proofs.Ytgomkbdemakndaa.PWordOrder Go.Proofs.YtgomkbdemakndaaW.PrintWords Go.Proofs.YtgomkbdemakndaaW.PrintLast Go.Proofs.YtgomkbdemakndaaW.PrintMore Go.Proofs.Ytgomkbdemakndaa.Plain
theorem WordOrder : trammellaw02_WordOrder.Pure := by
  intro w a b c hw _ _ _
  obtain ⟨v, hv, hv3⟩ := width_f (wfu8 hw).1
  refine ⟨6, ?_⟩
  unfold trammellaw02_WordOrder.f
  rw [hv]
  simp only [obind]
  rw [test_f, test_f, test_f, tst hv3, tst hv3, tst hv3]
  simp only [obind]
  have e1 : cmp 25 (wrapW v a) (wrapW v b) = decide (wrapW v a < wrapW v b) := rfl
  have e2 : cmp 23 (wrapW v a) (wrapW v b) = (wrapW v a == wrapW v b) := rfl
  have e3 : cmp 27 (wrapW v a) (wrapW v b) = decide (wrapW v a > wrapW v b) := rfl
  rw [e1, e2, e3]
  have key := j2_f v a b c hv3 (k := 4) (by omega)
  simp only [trammellaw02_WordOrder.j0, trammellaw02_WordOrder.j1]
  have q1 : wrap64 (0 + 1) = 1 := by unfold wrap64; decide
  rcases Int.lt_trichotomy (wrapW v a) (wrapW v b) with h | h | h
  · have g2 : (wrapW v a == wrapW v b) = false := beq_eq_false_iff_ne.mpr (by omega)
    have g3 : decide (wrapW v a > wrapW v b) = false := decide_eq_false (by omega)
    rw [g2, g3] at key ⊢
    rw [if_pos (decide_eq_true h), if_neg (by decide), if_neg (by decide)]
    exact key
  · have g1 : decide (wrapW v a < wrapW v b) = false := decide_eq_false (by omega)
    have g2 : (wrapW v a == wrapW v b) = true := beq_iff_eq.mpr h
    have g3 : decide (wrapW v a > wrapW v b) = false := decide_eq_false (by omega)
    rw [g1, g2, g3] at key ⊢
    rw [if_neg (by decide), if_pos rfl, if_neg (by decide)]
    rw [q1]
    exact key
  · have g1 : decide (wrapW v a < wrapW v b) = false := decide_eq_false (by omega)
    have g2 : (wrapW v a == wrapW v b) = false := beq_eq_false_iff_ne.mpr (by omega)
    have g3 : decide (wrapW v a > wrapW v b) = true := decide_eq_true (by omega)
    rw [g1, g2, g3] at key ⊢
    rw [if_neg (by decide), if_neg (by decide), if_pos rfl]
    rw [q1]
    exact key
end Go.Proofs.Ytgomkbdemakndaa.Pure
