/- WordLaws: the walk of the law. Under no conditions beyond the statement's own. -/
import Derived.Test.YtgomkbdemakndaaPWordLawsx2
import Derived.Test.YtgomkbdemakndaaPlainBits
namespace Go.Proofs.Ytgomkbdemakndaa.WalkWordLaws
open Go.RowKit Go.Proofs.Ytgomkbdemakndaa.PWordLaws Go.Proofs.YtgomkbdemakndaaW.PrintWords Go.Proofs.YtgomkbdemakndaaW.PrintLast Go.Proofs.YtgomkbdemakndaaW.PrintMore Go.Proofs.Ytgomkbdemakndaa.Plain
theorem bits_f (w : Int) : word_Bits.f w = some (bitsW w) := by
  unfold word_Bits.f bitsW
  by_cases h1 : w = 1
  · rw [if_pos h1, if_pos h1]
  · by_cases h2 : w = 2
    · rw [if_neg h1, if_neg h1, if_pos h2, if_pos h2]
    · by_cases h3 : w = 3
      · rw [if_neg h1, if_neg h1, if_neg h2, if_neg h2, if_pos h3, if_pos h3]
      · rw [if_neg h1, if_neg h1, if_neg h2, if_neg h2, if_neg h3, if_neg h3]
theorem wrap_f (w n : Int) : word_Wrap.f w n = some (wrapW w n) := by
  unfold word_Wrap.f wrapW
  by_cases h1 : w = 1
  · rw [if_pos h1, if_pos h1, w8, back8]
  · by_cases h2 : w = 2
    · rw [if_neg h1, if_neg h1, if_pos h2, if_pos h2, w32, back32]
    · by_cases h3 : w = 3
      · rw [if_neg h1, if_neg h1, if_neg h2, if_neg h2, if_pos h3, if_pos h3]
      · rw [if_neg h1, if_neg h1, if_neg h2, if_neg h2, if_neg h3, if_neg h3]
theorem fits_f (w n : Int) : word_Fits.f w n = some (fitsW w n) := by
  unfold word_Fits.f
  rw [bits_f]
  simp only [obind]
  by_cases h : bitsW w > 0
  · rw [if_pos h, wrap_f]
    simp only [obind, fitsW]
    rw [decide_eq_true h, Bool.true_and]
  · rw [if_neg h]
    unfold fitsW
    rw [decide_eq_false h, Bool.false_and]
theorem two8F (k : Nat) (op a b : Int) : word_two_int8.f (k + 1) op a b 8 = (if op = 14 then (if b = 0 then some (0, 1) else some (wrap64 (IntKind.i8.wrap (Int.tdiv a b)), 0)) else if op = 15 then (if b = 0 then some (0, 1) else some (wrap64 (Int.tmod a b), 0))
    else if op = 12 then (some (wrap64 (IntKind.i8.wrap (a + (IntKind.i8.wrap (-b)))), 0)) else (if op = 11 then (some (wrap64 (IntKind.i8.wrap (a + b)), 0)) else (if op = 13 then (some (wrap64 (IntKind.i8.wrap (a * b)), 0)) else (if op = 16 then (some (wrap64 (Go.bits .and .i8 a b), 0)) else (if op = 17 then (some (wrap64 (Go.bits .or .i8 a b), 0)) else (if op = 18 then (some (wrap64 (Go.bits .xor .i8 a b), 0)) else (if op = 19 then (if (8 : Int) = 0 then (none) else (if 0 ≤ (Int.tmod (IntKind.u64.wrap (b)) 8) then (some (wrap64 (shl .i8 a (Int.tmod (IntKind.u64.wrap (b)) 8)), 0)) else (none))) else (if op = 20 then (if (8 : Int) = 0 then (none) else (if 0 ≤ (Int.tmod (IntKind.u64.wrap (b)) 8) then (some (wrap64 (shr .i8 a (Int.tmod (IntKind.u64.wrap (b)) 8)), 0)) else (none))) else (some (0, 0)))))))))) := by
  unfold word_two_int8.f
  simp only [word_two_int8.j0]
  by_cases h14 : op = 14
  · simp only [if_pos h14, if_pos (show (op == 14) = true by simp [h14])]
  · by_cases h15 : op = 15
    · simp only [if_neg h14, if_pos h15, if_pos (show (op == 15) = true by simp [h15])]
    · simp only [if_neg h14, if_neg h15, if_neg (show ¬ (op == 15) = true by simp [h15])]
theorem two8 (k : Nat) (op : Int) (A B : BitVec 8) : word_two_int8.f (k + 1) op A.toInt B.toInt 8 = some (twoB op A B) := by
  rw [two8F]
  unfold twoB
  by_cases h14 : op = 14
  · rw [if_pos h14, if_pos h14]
    by_cases hb : B = 0#8
    · rw [if_pos hb, if_pos ((toInt_eq_zero B).2 hb)]
    · rw [if_neg hb, if_neg (fun e => hb ((toInt_eq_zero B).1 e)), w8, BitVec.toInt_ofInt, ← BitVec.toInt_sdiv, back8]
  · rw [if_neg h14, if_neg h14]
    by_cases h15 : op = 15
    · rw [if_pos h15, if_pos h15]
      by_cases hb : B = 0#8
      · rw [if_pos hb, if_pos ((toInt_eq_zero B).2 hb)]
      · rw [if_neg hb, if_neg (fun e => hb ((toInt_eq_zero B).1 e)), ← BitVec.toInt_srem, back8]
    · rw [if_neg h15, if_neg h15]
      by_cases h12 : op = 12
      · rw [if_pos h12, if_pos h12, w8, w8, BitVec.ofInt_add, BitVec.ofInt_toInt, BitVec.ofInt_toInt, BitVec.ofInt_neg, BitVec.ofInt_toInt, ← BitVec.sub_eq_add_neg, back8]
      · rw [if_neg h12, if_neg h12]
        by_cases h11 : op = 11
        · rw [if_pos h11, if_pos h11, w8, BitVec.ofInt_add, BitVec.ofInt_toInt, BitVec.ofInt_toInt, back8]
        · rw [if_neg h11, if_neg h11]
          by_cases h13 : op = 13
          · rw [if_pos h13, if_pos h13, w8, BitVec.ofInt_mul, BitVec.ofInt_toInt, BitVec.ofInt_toInt, back8]
          · rw [if_neg h13, if_neg h13]
            by_cases h16 : op = 16
            · rw [if_pos h16, if_pos h16, show Go.bits .and .i8 A.toInt B.toInt = (A &&& B).toInt by rw [and_k s8]; exact congrArg BitVec.toInt (congr (congrArg _ BitVec.ofInt_toInt) BitVec.ofInt_toInt), back8]
            · rw [if_neg h16, if_neg h16]
              by_cases h17 : op = 17
              · rw [if_pos h17, if_pos h17, show Go.bits .or .i8 A.toInt B.toInt = (A ||| B).toInt by rw [or_k s8]; exact congrArg BitVec.toInt (congr (congrArg _ BitVec.ofInt_toInt) BitVec.ofInt_toInt), back8]
              · rw [if_neg h17, if_neg h17]
                by_cases h18 : op = 18
                · rw [if_pos h18, if_pos h18, show Go.bits .xor .i8 A.toInt B.toInt = (A ^^^ B).toInt by rw [xor_k s8]; exact congrArg BitVec.toInt (congr (congrArg _ BitVec.ofInt_toInt) BitVec.ofInt_toInt), back8]
                · rw [if_neg h18, if_neg h18, count8]
                  by_cases h19 : op = 19
                  · rw [if_pos h19, if_pos h19, if_neg (by decide), if_pos (by omega), show shl .i8 A.toInt ((B.toNat % 8 : Nat) : Int) = (A <<< (B.toNat % 8)).toInt from shl_k s8 A _ (Nat.le_of_lt (Nat.mod_lt _ (by decide))), back8]
                  · rw [if_neg h19, if_neg h19]
                    by_cases h20 : op = 20
                    · rw [if_pos h20, if_pos h20, if_neg (by decide), if_pos (by omega), show shr .i8 A.toInt ((B.toNat % 8 : Nat) : Int) = (A.sshiftRight (B.toNat % 8)).toInt from shr_k (k := .i8) A _ (Nat.le_of_lt (Nat.mod_lt _ (by decide))), back8]
                    · rw [if_neg h20, if_neg h20]
theorem two32F (k : Nat) (op a b : Int) : word_two_int32.f (k + 1) op a b 32 = (if op = 14 then (if b = 0 then some (0, 1) else some (wrap64 (wrap32 (Int.tdiv a b)), 0)) else if op = 15 then (if b = 0 then some (0, 1) else some (wrap64 (Int.tmod a b), 0))
    else if op = 12 then (some (wrap64 (wrap32 (a + (wrap32 (-b)))), 0)) else (if op = 11 then (some (wrap64 (wrap32 (a + b)), 0)) else (if op = 13 then (some (wrap64 (wrap32 (a * b)), 0)) else (if op = 16 then (some (wrap64 (Go.bits .and .i32 a b), 0)) else (if op = 17 then (some (wrap64 (Go.bits .or .i32 a b), 0)) else (if op = 18 then (some (wrap64 (Go.bits .xor .i32 a b), 0)) else (if op = 19 then (if (32 : Int) = 0 then (none) else (if 0 ≤ (Int.tmod (IntKind.u64.wrap (b)) 32) then (some (wrap64 (shl .i32 a (Int.tmod (IntKind.u64.wrap (b)) 32)), 0)) else (none))) else (if op = 20 then (if (32 : Int) = 0 then (none) else (if 0 ≤ (Int.tmod (IntKind.u64.wrap (b)) 32) then (some (wrap64 (shr .i32 a (Int.tmod (IntKind.u64.wrap (b)) 32)), 0)) else (none))) else (some (0, 0)))))))))) := by
  unfold word_two_int32.f
  simp only [word_two_int32.j0]
  by_cases h14 : op = 14
  · simp only [if_pos h14, if_pos (show (op == 14) = true by simp [h14])]
  · by_cases h15 : op = 15
    · simp only [if_neg h14, if_pos h15, if_pos (show (op == 15) = true by simp [h15])]
    · simp only [if_neg h14, if_neg h15, if_neg (show ¬ (op == 15) = true by simp [h15])]
theorem two32 (k : Nat) (op : Int) (A B : BitVec 32) : word_two_int32.f (k + 1) op A.toInt B.toInt 32 = some (twoB op A B) := by
  rw [two32F]
  unfold twoB
  by_cases h14 : op = 14
  · rw [if_pos h14, if_pos h14]
    by_cases hb : B = 0#32
    · rw [if_pos hb, if_pos ((toInt_eq_zero B).2 hb)]
    · rw [if_neg hb, if_neg (fun e => hb ((toInt_eq_zero B).1 e)), w32, BitVec.toInt_ofInt, ← BitVec.toInt_sdiv, back32]
  · rw [if_neg h14, if_neg h14]
    by_cases h15 : op = 15
    · rw [if_pos h15, if_pos h15]
      by_cases hb : B = 0#32
      · rw [if_pos hb, if_pos ((toInt_eq_zero B).2 hb)]
      · rw [if_neg hb, if_neg (fun e => hb ((toInt_eq_zero B).1 e)), ← BitVec.toInt_srem, back32]
    · rw [if_neg h15, if_neg h15]
      by_cases h12 : op = 12
      · rw [if_pos h12, if_pos h12, w32, w32, BitVec.ofInt_add, BitVec.ofInt_toInt, BitVec.ofInt_toInt, BitVec.ofInt_neg, BitVec.ofInt_toInt, ← BitVec.sub_eq_add_neg, back32]
      · rw [if_neg h12, if_neg h12]
        by_cases h11 : op = 11
        · rw [if_pos h11, if_pos h11, w32, BitVec.ofInt_add, BitVec.ofInt_toInt, BitVec.ofInt_toInt, back32]
        · rw [if_neg h11, if_neg h11]
          by_cases h13 : op = 13
          · rw [if_pos h13, if_pos h13, w32, BitVec.ofInt_mul, BitVec.ofInt_toInt, BitVec.ofInt_toInt, back32]
          · rw [if_neg h13, if_neg h13]
            by_cases h16 : op = 16
            · rw [if_pos h16, if_pos h16, show Go.bits .and .i32 A.toInt B.toInt = (A &&& B).toInt by rw [and_k s32]; exact congrArg BitVec.toInt (congr (congrArg _ BitVec.ofInt_toInt) BitVec.ofInt_toInt), back32]
            · rw [if_neg h16, if_neg h16]
              by_cases h17 : op = 17
              · rw [if_pos h17, if_pos h17, show Go.bits .or .i32 A.toInt B.toInt = (A ||| B).toInt by rw [or_k s32]; exact congrArg BitVec.toInt (congr (congrArg _ BitVec.ofInt_toInt) BitVec.ofInt_toInt), back32]
              · rw [if_neg h17, if_neg h17]
                by_cases h18 : op = 18
                · rw [if_pos h18, if_pos h18, show Go.bits .xor .i32 A.toInt B.toInt = (A ^^^ B).toInt by rw [xor_k s32]; exact congrArg BitVec.toInt (congr (congrArg _ BitVec.ofInt_toInt) BitVec.ofInt_toInt), back32]
                · rw [if_neg h18, if_neg h18, count32]
                  by_cases h19 : op = 19
                  · rw [if_pos h19, if_pos h19, if_neg (by decide), if_pos (by omega), show shl .i32 A.toInt ((B.toNat % 32 : Nat) : Int) = (A <<< (B.toNat % 32)).toInt from shl_k s32 A _ (Nat.le_of_lt (Nat.mod_lt _ (by decide))), back32]
                  · rw [if_neg h19, if_neg h19]
                    by_cases h20 : op = 20
                    · rw [if_pos h20, if_pos h20, if_neg (by decide), if_pos (by omega), show shr .i32 A.toInt ((B.toNat % 32 : Nat) : Int) = (A.sshiftRight (B.toNat % 32)).toInt from shr_k (k := .i32) A _ (Nat.le_of_lt (Nat.mod_lt _ (by decide))), back32]
                    · rw [if_neg h20, if_neg h20]
theorem two64F (k : Nat) (op a b : Int) : word_two_int64.f (k + 1) op a b 64 = (if op = 14 then (if b = 0 then some (0, 1) else some (wrap64 (Int.tdiv a b), 0)) else if op = 15 then (if b = 0 then some (0, 1) else some (Int.tmod a b, 0))
    else if op = 12 then (some (wrap64 (a + (wrap64 (-b))), 0)) else (if op = 11 then (some (wrap64 (a + b), 0)) else (if op = 13 then (some (wrap64 (a * b), 0)) else (if op = 16 then (some (Go.bits .and .i64 a b, 0)) else (if op = 17 then (some (Go.bits .or .i64 a b, 0)) else (if op = 18 then (some (Go.bits .xor .i64 a b, 0)) else (if op = 19 then (if (64 : Int) = 0 then (none) else (if 0 ≤ (Int.tmod (IntKind.u64.wrap (b)) 64) then (some (shl .i64 a (Int.tmod (IntKind.u64.wrap (b)) 64), 0)) else (none))) else (if op = 20 then (if (64 : Int) = 0 then (none) else (if 0 ≤ (Int.tmod (IntKind.u64.wrap (b)) 64) then (some (shr .i64 a (Int.tmod (IntKind.u64.wrap (b)) 64), 0)) else (none))) else (some (0, 0)))))))))) := by
  unfold word_two_int64.f
  simp only [word_two_int64.j0]
  by_cases h14 : op = 14
  · simp only [if_pos h14, if_pos (show (op == 14) = true by simp [h14])]
  · by_cases h15 : op = 15
    · simp only [if_neg h14, if_pos h15, if_pos (show (op == 15) = true by simp [h15])]
    · simp only [if_neg h14, if_neg h15, if_neg (show ¬ (op == 15) = true by simp [h15])]
theorem two64 (k : Nat) (op : Int) (A B : BitVec 64) : word_two_int64.f (k + 1) op A.toInt B.toInt 64 = some (twoB op A B) := by
  rw [two64F]
  unfold twoB
  by_cases h14 : op = 14
  · rw [if_pos h14, if_pos h14]
    by_cases hb : B = 0#64
    · rw [if_pos hb, if_pos ((toInt_eq_zero B).2 hb)]
    · rw [if_neg hb, if_neg (fun e => hb ((toInt_eq_zero B).1 e)), w64, BitVec.toInt_ofInt, ← BitVec.toInt_sdiv]
  · rw [if_neg h14, if_neg h14]
    by_cases h15 : op = 15
    · rw [if_pos h15, if_pos h15]
      by_cases hb : B = 0#64
      · rw [if_pos hb, if_pos ((toInt_eq_zero B).2 hb)]
      · rw [if_neg hb, if_neg (fun e => hb ((toInt_eq_zero B).1 e)), ← BitVec.toInt_srem]
    · rw [if_neg h15, if_neg h15]
      by_cases h12 : op = 12
      · rw [if_pos h12, if_pos h12, w64, w64, BitVec.ofInt_add, BitVec.ofInt_toInt, BitVec.ofInt_toInt, BitVec.ofInt_neg, BitVec.ofInt_toInt, ← BitVec.sub_eq_add_neg]
      · rw [if_neg h12, if_neg h12]
        by_cases h11 : op = 11
        · rw [if_pos h11, if_pos h11, w64, BitVec.ofInt_add, BitVec.ofInt_toInt, BitVec.ofInt_toInt]
        · rw [if_neg h11, if_neg h11]
          by_cases h13 : op = 13
          · rw [if_pos h13, if_pos h13, w64, BitVec.ofInt_mul, BitVec.ofInt_toInt, BitVec.ofInt_toInt]
          · rw [if_neg h13, if_neg h13]
            by_cases h16 : op = 16
            · rw [if_pos h16, if_pos h16, show Go.bits .and .i64 A.toInt B.toInt = (A &&& B).toInt by rw [and_k s64]; exact congrArg BitVec.toInt (congr (congrArg _ BitVec.ofInt_toInt) BitVec.ofInt_toInt)]
            · rw [if_neg h16, if_neg h16]
              by_cases h17 : op = 17
              · rw [if_pos h17, if_pos h17, show Go.bits .or .i64 A.toInt B.toInt = (A ||| B).toInt by rw [or_k s64]; exact congrArg BitVec.toInt (congr (congrArg _ BitVec.ofInt_toInt) BitVec.ofInt_toInt)]
              · rw [if_neg h17, if_neg h17]
                by_cases h18 : op = 18
                · rw [if_pos h18, if_pos h18, show Go.bits .xor .i64 A.toInt B.toInt = (A ^^^ B).toInt by rw [xor_k s64]; exact congrArg BitVec.toInt (congr (congrArg _ BitVec.ofInt_toInt) BitVec.ofInt_toInt)]
                · rw [if_neg h18, if_neg h18, count64]
                  by_cases h19 : op = 19
                  · rw [if_pos h19, if_pos h19, if_neg (by decide), if_pos (by omega), show shl .i64 A.toInt ((B.toNat % 64 : Nat) : Int) = (A <<< (B.toNat % 64)).toInt from shl_k s64 A _ (Nat.le_of_lt (Nat.mod_lt _ (by decide)))]
                  · rw [if_neg h19, if_neg h19]
                    by_cases h20 : op = 20
                    · rw [if_pos h20, if_pos h20, if_neg (by decide), if_pos (by omega), show shr .i64 A.toInt ((B.toNat % 64 : Nat) : Int) = (A.sshiftRight (B.toNat % 64)).toInt from shr_k (k := .i64) A _ (Nat.le_of_lt (Nat.mod_lt _ (by decide)))]
                    · rw [if_neg h20, if_neg h20]
theorem two_f (op w : Int) {a b : Int} (ha : Ok a) (hb : Ok b) {k : Nat} (hk : 1 ≤ k) : word_Two.f k op w a b = some (reck op w a b) := by
  obtain ⟨k, rfl⟩ : ∃ m, k = m + 1 := ⟨k - 1, by omega⟩
  unfold word_Two.f reck
  by_cases h1 : w = 1
  · rw [if_pos h1, if_pos h1, w8, w8, two8]
    simp only [obind]
  · by_cases h2 : w = 2
    · rw [if_neg h1, if_neg h1, if_pos h2, if_pos h2, w32, w32, two32]
      simp only [obind]
    · by_cases h3 : w = 3
      · have h := two64 k op (BitVec.ofInt 64 a) (BitVec.ofInt 64 b)
        rw [ha, hb] at h
        rw [if_neg h1, if_neg h1, if_neg h2, if_neg h2, if_pos h3, if_pos h3, h]
        simp only [obind]
      · rw [if_neg h1, if_neg h1, if_neg h2, if_neg h2, if_neg h3, if_neg h3]
theorem works_f {k : Nat} (hk : 1 ≤ k) : trammellaw02_works.f k = some true := by
  unfold trammellaw02_works.f
  rw [two_f 11 1 (by decide) (by decide) hk, show reck 11 1 100 100 = (-56, 0) by decide +kernel]
  simp only [obind]
  rw [if_pos trivial, if_pos trivial, fits_f, fits_f, show fitsW 1 127 = true by decide +kernel, show fitsW 1 128 = false by decide +kernel]
  rfl
theorem width_f {w : Int} (h0 : 0 ≤ w) : ∃ v, trammellaw02_width.f w = some v ∧ (v = 1 ∨ v = 2 ∨ v = 3) := by
  refine ⟨_, rfl, ?_⟩
  rw [Int.tmod_eq_emod_of_nonneg h0]
  omega
theorem do_f (op w : Int) {a b : Int} (ha : Ok a) (hb : Ok b) {k : Nat} (hk : 1 ≤ k) : trammellaw02_do.f k op w a b = some (reck op w a b).1 := by
  unfold trammellaw02_do.f
  rw [two_f op w ha hb hk]
  simp only [obind]
/-! The callees, by what they answer. -/
/-- The number of an instruction that does not trap. -/
def D (op v a b : Int) : Int := (reck op v a b).1
theorem wrap_c (v a : Int) (w : World) : Calls Try.prog 15 #[.int .u8 v, .int .i64 a] w fun e w' => e = .returned (.int .i64 (wrapW v a)) ∧ Drawn0 w w' := word_Wrap.calls v a _ w (wrap_f v a)
theorem fits_c (v a : Int) (w : World) : Calls Try.prog 13 #[.int .u8 v, .int .i64 a] w fun e w' => e = .returned (.bool (fitsW v a)) ∧ Drawn0 w w' := word_Fits.calls v a _ w (fits_f v a)
theorem works_c (w : World) : Calls Try.prog 17 #[] w fun e w' => e = .returned (.bool true) ∧ Drawn0 w w' := trammellaw02_works.calls 5 _ w (works_f (by decide))
theorem do_c (op v a b : Int) (ha : Ok a) (hb : Ok b) (w : World) : Calls Try.prog 20 #[.int .u8 op, .int .u8 v, .int .i64 a, .int .i64 b] w fun e w' => e = .returned (.int .i64 (D op v a b)) ∧ Drawn0 w w' :=
  trammellaw02_do.calls 5 op v a b _ w (do_f op v ha hb (by decide))
theorem one_f (op v a : Int) : word_One.f op v a = some (oneW op v a) := by
  unfold word_One.f oneW
  by_cases h1 : op = 21
  · rw [if_pos h1, if_pos h1, wrap_f, w64, BitVec.ofInt_neg]
    simp only [obind]
  · by_cases h2 : op = 22
    · rw [if_neg h1, if_neg h1, if_pos h2, if_pos h2, wrap_f, xor_k s64]
      simp only [obind]
      congr 2
    · rw [if_neg h1, if_neg h1, if_neg h2, if_neg h2]
theorem one_c (op v a : Int) (w : World) : Calls Try.prog 21 #[.int .u8 op, .int .u8 v, .int .i64 a] w fun e w' => e = .returned (.int .i64 (oneW op v a)) ∧ Drawn0 w w' := word_One.calls op v a _ w (one_f op v a)
theorem no {x y : Int} (h : x = y) : (x != y) = false := by rw [h]; exact bne_self_eq_false _
theorem width_c (a : Int) (h0 : 0 ≤ a) : ∃ v, (v = 1 ∨ v = 2 ∨ v = 3) ∧ ∀ w, Calls Try.prog 18 #[.int .u8 a] w fun e w' => e = .returned (.int .u8 v) ∧ Drawn0 w w' := by
  obtain ⟨v, hv, h3⟩ := width_f h0
  exact ⟨v, h3, fun w => trammellaw02_width.calls a v w hv⟩
set_option maxHeartbeats 8000000 in
set_option maxRecDepth 100000 in
theorem laws_c (a0 a b c : Int) (h0 : 0 ≤ a0) (ha : Ok a) (hb : Ok b) (hc : Ok c) (w : World) :
    Calls Try.prog 6 #[.int .u8 a0, .int .i64 a, .int .i64 b, .int .i64 c] w fun e w' => e = .returned (.bool true) ∧ Drawn0 w w' := by
  obtain ⟨v, hv3, hw⟩ := width_c a0 h0
  obtain ⟨n, W⟩ := wd_of hv3
  have o : ∀ op x y, Ok (D op v x y) := fun op x y => W.ok_two x y op
  have om : Ok (-1) := by decide
  have oz : Ok 0 := by decide
  have f1 : (D 11 v a b != D 11 v b a) = false := no (by unfold D; rw [W.add, W.add, BitVec.add_comm])
  have f2 : (D 13 v a b != D 13 v b a) = false := no (by unfold D; rw [W.mul, W.mul, BitVec.mul_comm])
  have f3 : (D 11 v (D 11 v a b) c != D 11 v a (D 11 v b c)) = false := no (by unfold D; simp only [W.add, BitVec.ofInt_toInt, BitVec.add_assoc])
  have f4 : (D 13 v (D 13 v a b) c != D 13 v a (D 13 v b c)) = false := no (by unfold D; simp only [W.mul, BitVec.ofInt_toInt, BitVec.mul_assoc])
  have f5 : (D 13 v a (D 11 v b c) != D 11 v (D 13 v a b) (D 13 v a c)) = false := no (by unfold D; simp only [W.mul, W.add, BitVec.ofInt_toInt, BitVec.mul_add])
  have f6 : (D 12 v (D 11 v a b) b != wrapW v a) = false := no (by unfold D; simp only [W.sub, W.add, BitVec.ofInt_toInt, BitVec.add_sub_cancel, W.wrap ha])
  have f7 : (D 18 v (D 18 v a b) b != wrapW v a) = false := no (by unfold D; simp only [W.xor, BitVec.ofInt_toInt, BitVec.xor_assoc, BitVec.xor_self, BitVec.xor_zero, W.wrap ha])
  have f8 : (oneW 22 v a != D 18 v a (-1)) = false := no (by unfold D; rw [W.not, W.xor, show BitVec.ofInt n (-1) = BitVec.allOnes n from by rw [BitVec.ofInt_neg, ← BitVec.neg_one_eq_allOnes]; rfl, BitVec.xor_allOnes])
  have f9 : (oneW 21 v a != D 12 v 0 a) = false := no (by unfold D; rw [W.neg, W.sub, show BitVec.ofInt n 0 = 0#n from rfl, BitVec.zero_sub])
  have f10 : (D 11 v (D 16 v a b) (D 17 v a b) != D 11 v a b) = false := no (by unfold D; simp only [W.and, W.or, W.add, BitVec.ofInt_toInt, and_add_or])
  have f11 : fitsW v (wrapW v a) = true := W.wrap_fits ha
  have f12 : ∀ i, fitsW v (D i v a b) = true := fun i => W.two_fits a b i
  clear W hv3 h0
  have F1 := Aside0.mk f11
  have F2 := Aside0.mk f12
  have HW := Aside0.mk hw
  have HO := Aside0.mk o
  clear f11 f12 hw o
  go_enter Try.func6, Try.ntmps6
  go_wp2_with (first
    | (go_at_call 18; refine (HW.out _).mono ?_; rintro e w' ⟨rfl, ⟨nd, rfl⟩⟩)
    | (go_at_call 20; refine (do_c _ _ _ _ (by first | assumption | exact HO.out _ _ _) (by first | assumption | exact HO.out _ _ _) _).mono ?_; rintro e w' ⟨rfl, ⟨nd, rfl⟩⟩)
    | (go_at_call 15; refine (wrap_c _ _ _).mono ?_; rintro e w' ⟨rfl, ⟨nd, rfl⟩⟩)
    | (go_at_call 21; refine (one_c _ _ _ _).mono ?_; rintro e w' ⟨rfl, ⟨nd, rfl⟩⟩))
  go_loopw [12] (fun x wr => ∃ i : Nat, 11 ≤ i ∧ i ≤ 21 ∧ x = .int .u8 i ∧ Drawn0 w wr) (fun x _ => 21 - (intOf x).toNat)
  case atStart => exact ⟨11, by omega, by omega, rfl, by repeat (first | exact Drawn0.refl _ | apply Drawn0.step)⟩
  case round =>
    clear f1 f2 f3 f4 f5 f6 f7 f8 f9 f10
    obtain ⟨i, h1, h2, rfl, ⟨m, rfl⟩⟩ := hrel
    by_cases hlt : i ≤ 20
    · have g := F2.out (i : Int)
      go_wp2_with (first
        | (go_at_call 20; refine (do_c _ _ _ _ (by first | assumption | exact HO.out _ _ _) (by first | assumption | exact HO.out _ _ _) _).mono ?_; rintro e w' ⟨rfl, ⟨nd, rfl⟩⟩)
        | (go_at_call 13; refine (fits_c _ _ _).mono ?_; rintro e w' ⟨rfl, ⟨nd, rfl⟩⟩))
      go_roundw
      case rel => exact ⟨i + 1, by omega, by omega, by go_num, by repeat (first | exact Drawn0.refl _ | apply Drawn0.step)⟩
      case measure => simp [intOf]; omega
    · obtain rfl : i = 21 := by omega
      have g := F1.out
      go_wp2_with (first
        | (go_at_call 15; refine (wrap_c _ _ _).mono ?_; rintro e w' ⟨rfl, ⟨nd, rfl⟩⟩)
        | (go_at_call 13; refine (fits_c _ _ _).mono ?_; rintro e w' ⟨rfl, ⟨nd, rfl⟩⟩)
        | (go_at_call 17; refine (works_c _).mono ?_; rintro e w' ⟨rfl, ⟨nd, rfl⟩⟩))
      go_ret
      exact ⟨by first | rfl | (simp; done), by repeat (first | exact Drawn0.refl _ | apply Drawn0.step)⟩
theorem walk (a0 a b c : Int) (w : World) (w0 : (Lit.int .u8 a0).wf = true) (w1 : (Lit.int .i64 a).wf = true) (w2 : (Lit.int .i64 b).wf = true) (w3 : (Lit.int .i64 c).wf = true) :
    Calls Try.prog 6 #[.int .u8 a0, .int .i64 a, .int .i64 b, .int .i64 c] w fun e w' => e = .returned (.bool true) ∧ Below w.heap.size w w' :=
  (laws_c a0 a b c (wfu8 w0).1 (ok_of (wf64 w1)) (ok_of (wf64 w2)) (ok_of (wf64 w3)) w).mono fun _ _ ⟨he, hd⟩ => ⟨he, hd.below⟩
end Go.Proofs.Ytgomkbdemakndaa.WalkWordLaws
