/- WordParts: the quotient and the rest of two numbers, in plain Lean. Under no conditions beyond the statement's own. -/
import Derived.Test.YtgomkbdemakndaaPWordPartsx
import Derived.Test.YtgomkbdemakndaaPlainWd
namespace Go.Proofs.Ytgomkbdemakndaa.Pure.WordPartss
open Go.RowKit Go.Proofs.Ytgomkbdemakndaa.PWordParts Go.Proofs.YtgomkbdemakndaaW.PrintWords Go.Proofs.YtgomkbdemakndaaW.PrintLast Go.Proofs.YtgomkbdemakndaaW.PrintMore Go.Proofs.Ytgomkbdemakndaa.Plain
theorem bits_f (w : Int) : word_Bits.f w = some (bitsW w) := by
  unfold word_Bits.f bitsW
  by_cases h1 : w = 1
  · rw [if_pos h1, if_pos h1]
  · by_cases h2 : w = 2
    · rw [if_neg h1, if_neg h1, if_pos h2, if_pos h2]
    · by_cases h3 : w = 3
      · rw [if_neg h1, if_neg h1, if_neg h2, if_neg h2, if_pos h3, if_pos h3]
      · rw [if_neg h1, if_neg h1, if_neg h2, if_neg h2, if_neg h3, if_neg h3]
theorem wrap_f (w n : Int) : word_Wrap.f w n = some (wrapW w n) := by
  unfold word_Wrap.f wrapW
  by_cases h1 : w = 1
  · rw [if_pos h1, if_pos h1, w8, back8]
  · by_cases h2 : w = 2
    · rw [if_neg h1, if_neg h1, if_pos h2, if_pos h2, w32, back32]
    · by_cases h3 : w = 3
      · rw [if_neg h1, if_neg h1, if_neg h2, if_neg h2, if_pos h3, if_pos h3]
      · rw [if_neg h1, if_neg h1, if_neg h2, if_neg h2, if_neg h3, if_neg h3]
theorem fits_f (w n : Int) : word_Fits.f w n = some (fitsW w n) := by
  unfold word_Fits.f
  rw [bits_f]
  simp only [obind]
  by_cases h : bitsW w > 0
  · rw [if_pos h, wrap_f]
    simp only [obind, fitsW]
    rw [decide_eq_true h, Bool.true_and]
  · rw [if_neg h]
    unfold fitsW
    rw [decide_eq_false h, Bool.false_and]
theorem two8F (k : Nat) (op a b : Int) : word_two_int8.f (k + 1) op a b 8 = (if op = 14 then (if b = 0 then some (0, 1) else some (wrap64 (IntKind.i8.wrap (Int.tdiv a b)), 0)) else if op = 15 then (if b = 0 then some (0, 1) else some (wrap64 (Int.tmod a b), 0))
    else if op = 12 then (some (wrap64 (IntKind.i8.wrap (a + (IntKind.i8.wrap (-b)))), 0)) else (if op = 11 then (some (wrap64 (IntKind.i8.wrap (a + b)), 0)) else (if op = 13 then (some (wrap64 (IntKind.i8.wrap (a * b)), 0)) else (if op = 16 then (some (wrap64 (Go.bits .and .i8 a b), 0)) else (if op = 17 then (some (wrap64 (Go.bits .or .i8 a b), 0)) else (if op = 18 then (some (wrap64 (Go.bits .xor .i8 a b), 0)) else (if op = 19 then (if (8 : Int) = 0 then (none) else (if 0 ≤ (Int.tmod (IntKind.u64.wrap (b)) 8) then (some (wrap64 (shl .i8 a (Int.tmod (IntKind.u64.wrap (b)) 8)), 0)) else (none))) else (if op = 20 then (if (8 : Int) = 0 then (none) else (if 0 ≤ (Int.tmod (IntKind.u64.wrap (b)) 8) then (some (wrap64 (shr .i8 a (Int.tmod (IntKind.u64.wrap (b)) 8)), 0)) else (none))) else (some (0, 0)))))))))) := by
  unfold word_two_int8.f
  simp only [word_two_int8.j0]
  by_cases h14 : op = 14
  · simp only [if_pos h14, if_pos (show (op == 14) = true by simp [h14])]
  · by_cases h15 : op = 15
    · simp only [if_neg h14, if_pos h15, if_pos (show (op == 15) = true by simp [h15])]
    · simp only [if_neg h14, if_neg h15, if_neg (show ¬ (op == 15) = true by simp [h15])]
theorem two8 (k : Nat) (op : Int) (A B : BitVec 8) : word_two_int8.f (k + 1) op A.toInt B.toInt 8 = some (twoB op A B) := by
  rw [two8F]
  unfold twoB
  by_cases h14 : op = 14
  · rw [if_pos h14, if_pos h14]
    by_cases hb : B = 0#8
    · rw [if_pos hb, if_pos ((toInt_eq_zero B).2 hb)]
    · rw [if_neg hb, if_neg (fun e => hb ((toInt_eq_zero B).1 e)), w8, BitVec.toInt_ofInt, ← BitVec.toInt_sdiv, back8]
  · rw [if_neg h14, if_neg h14]
    by_cases h15 : op = 15
    · rw [if_pos h15, if_pos h15]
      by_cases hb : B = 0#8
      · rw [if_pos hb, if_pos ((toInt_eq_zero B).2 hb)]
      · rw [if_neg hb, if_neg (fun e => hb ((toInt_eq_zero B).1 e)), ← BitVec.toInt_srem, back8]
    · rw [if_neg h15, if_neg h15]
      by_cases h12 : op = 12
      · rw [if_pos h12, if_pos h12, w8, w8, BitVec.ofInt_add, BitVec.ofInt_toInt, BitVec.ofInt_toInt, BitVec.ofInt_neg, BitVec.ofInt_toInt, ← BitVec.sub_eq_add_neg, back8]
      · rw [if_neg h12, if_neg h12]
        by_cases h11 : op = 11
        · rw [if_pos h11, if_pos h11, w8, BitVec.ofInt_add, BitVec.ofInt_toInt, BitVec.ofInt_toInt, back8]
        · rw [if_neg h11, if_neg h11]
          by_cases h13 : op = 13
          · rw [if_pos h13, if_pos h13, w8, BitVec.ofInt_mul, BitVec.ofInt_toInt, BitVec.ofInt_toInt, back8]
          · rw [if_neg h13, if_neg h13]
            by_cases h16 : op = 16
            · rw [if_pos h16, if_pos h16, show Go.bits .and .i8 A.toInt B.toInt = (A &&& B).toInt by rw [and_k s8]; exact congrArg BitVec.toInt (congr (congrArg _ BitVec.ofInt_toInt) BitVec.ofInt_toInt), back8]
            · rw [if_neg h16, if_neg h16]
              by_cases h17 : op = 17
              · rw [if_pos h17, if_pos h17, show Go.bits .or .i8 A.toInt B.toInt = (A ||| B).toInt by rw [or_k s8]; exact congrArg BitVec.toInt (congr (congrArg _ BitVec.ofInt_toInt) BitVec.ofInt_toInt), back8]
              · rw [if_neg h17, if_neg h17]
                by_cases h18 : op = 18
                · rw [if_pos h18, if_pos h18, show Go.bits .xor .i8 A.toInt B.toInt = (A ^^^ B).toInt by rw [xor_k s8]; exact congrArg BitVec.toInt (congr (congrArg _ BitVec.ofInt_toInt) BitVec.ofInt_toInt), back8]
                · rw [if_neg h18, if_neg h18, count8]
                  by_cases h19 : op = 19
                  · rw [if_pos h19, if_pos h19, if_neg (by decide), if_pos (by omega), show shl .i8 A.toInt ((B.toNat % 8 : Nat) : Int) = (A <<< (B.toNat % 8)).toInt from shl_k s8 A _ (Nat.le_of_lt (Nat.mod_lt _ (by decide))), back8]
                  · rw [if_neg h19, if_neg h19]
                    by_cases h20 : op = 20
                    · rw [if_pos h20, if_pos h20, if_neg (by decide), if_pos (by omega), show shr .i8 A.toInt ((B.toNat % 8 : Nat) : Int) = (A.sshiftRight (B.toNat % 8)).toInt from shr_k (k := .i8) A _ (Nat.le_of_lt (Nat.mod_lt _ (by decide))), back8]
                    · rw [if_neg h20, if_neg h20]
theorem two32F (k : Nat) (op a b : Int) : word_two_int32.f (k + 1) op a b 32 = (if op = 14 then (if b = 0 then some (0, 1) else some (wrap64 (wrap32 (Int.tdiv a b)), 0)) else if op = 15 then (if b = 0 then some (0, 1) else some (wrap64 (Int.tmod a b), 0))
    else if op = 12 then (some (wrap64 (wrap32 (a + (wrap32 (-b)))), 0)) else (if op = 11 then (some (wrap64 (wrap32 (a + b)), 0)) else (if op = 13 then (some (wrap64 (wrap32 (a * b)), 0)) else (if op = 16 then (some (wrap64 (Go.bits .and .i32 a b), 0)) else (if op = 17 then (some (wrap64 (Go.bits .or .i32 a b), 0)) else (if op = 18 then (some (wrap64 (Go.bits .xor .i32 a b), 0)) else (if op = 19 then (if (32 : Int) = 0 then (none) else (if 0 ≤ (Int.tmod (IntKind.u64.wrap (b)) 32) then (some (wrap64 (shl .i32 a (Int.tmod (IntKind.u64.wrap (b)) 32)), 0)) else (none))) else (if op = 20 then (if (32 : Int) = 0 then (none) else (if 0 ≤ (Int.tmod (IntKind.u64.wrap (b)) 32) then (some (wrap64 (shr .i32 a (Int.tmod (IntKind.u64.wrap (b)) 32)), 0)) else (none))) else (some (0, 0)))))))))) := by
  unfold word_two_int32.f
  simp only [word_two_int32.j0]
  by_cases h14 : op = 14
  · simp only [if_pos h14, if_pos (show (op == 14) = true by simp [h14])]
  · by_cases h15 : op = 15
    · simp only [if_neg h14, if_pos h15, if_pos (show (op == 15) = true by simp [h15])]
    · simp only [if_neg h14, if_neg h15, if_neg (show ¬ (op == 15) = true by simp [h15])]
theorem two32 (k : Nat) (op : Int) (A B : BitVec 32) : word_two_int32.f (k + 1) op A.toInt B.toInt 32 = some (twoB op A B) := by
  rw [two32F]
  unfold twoB
  by_cases h14 : op = 14
  · rw [if_pos h14, if_pos h14]
    by_cases hb : B = 0#32
    · rw [if_pos hb, if_pos ((toInt_eq_zero B).2 hb)]
    · rw [if_neg hb, if_neg (fun e => hb ((toInt_eq_zero B).1 e)), w32, BitVec.toInt_ofInt, ← BitVec.toInt_sdiv, back32]
  · rw [if_neg h14, if_neg h14]
    by_cases h15 : op = 15
    · rw [if_pos h15, if_pos h15]
      by_cases hb : B = 0#32
      · rw [if_pos hb, if_pos ((toInt_eq_zero B).2 hb)]
      · rw [if_neg hb, if_neg (fun e => hb ((toInt_eq_zero B).1 e)), ← BitVec.toInt_srem, back32]
    · rw [if_neg h15, if_neg h15]
      by_cases h12 : op = 12
      · rw [if_pos h12, if_pos h12, w32, w32, BitVec.ofInt_add, BitVec.ofInt_toInt, BitVec.ofInt_toInt, BitVec.ofInt_neg, BitVec.ofInt_toInt, ← BitVec.sub_eq_add_neg, back32]
      · rw [if_neg h12, if_neg h12]
        by_cases h11 : op = 11
        · rw [if_pos h11, if_pos h11, w32, BitVec.ofInt_add, BitVec.ofInt_toInt, BitVec.ofInt_toInt, back32]
        · rw [if_neg h11, if_neg h11]
          by_cases h13 : op = 13
          · rw [if_pos h13, if_pos h13, w32, BitVec.ofInt_mul, BitVec.ofInt_toInt, BitVec.ofInt_toInt, back32]
          · rw [if_neg h13, if_neg h13]
            by_cases h16 : op = 16
            · rw [if_pos h16, if_pos h16, show Go.bits .and .i32 A.toInt B.toInt = (A &&& B).toInt by rw [and_k s32]; exact congrArg BitVec.toInt (congr (congrArg _ BitVec.ofInt_toInt) BitVec.ofInt_toInt), back32]
            · rw [if_neg h16, if_neg h16]
              by_cases h17 : op = 17
              · rw [if_pos h17, if_pos h17, show Go.bits .or .i32 A.toInt B.toInt = (A ||| B).toInt by rw [or_k s32]; exact congrArg BitVec.toInt (congr (congrArg _ BitVec.ofInt_toInt) BitVec.ofInt_toInt), back32]
              · rw [if_neg h17, if_neg h17]
                by_cases h18 : op = 18
                · rw [if_pos h18, if_pos h18, show Go.bits .xor .i32 A.toInt B.toInt = (A ^^^ B).toInt by rw [xor_k s32]; exact congrArg BitVec.toInt (congr (congrArg _ BitVec.ofInt_toInt) BitVec.ofInt_toInt), back32]
                · rw [if_neg h18, if_neg h18, count32]
                  by_cases h19 : op = 19
                  · rw [if_pos h19, if_pos h19, if_neg (by decide), if_pos (by omega), show shl .i32 A.toInt ((B.toNat % 32 : Nat) : Int) = (A <<< (B.toNat % 32)).toInt from shl_k s32 A _ (Nat.le_of_lt (Nat.mod_lt _ (by decide))), back32]
                  · rw [if_neg h19, if_neg h19]
                    by_cases h20 : op = 20
                    · rw [if_pos h20, if_pos h20, if_neg (by decide), if_pos (by omega), show shr .i32 A.toInt ((B.toNat % 32 : Nat) : Int) = (A.sshiftRight (B.toNat % 32)).toInt from shr_k (k := .i32) A _ (Nat.le_of_lt (Nat.mod_lt _ (by decide))), back32]
                    · rw [if_neg h20, if_neg h20]
theorem two64F (k : Nat) (op a b : Int) : word_two_int64.f (k + 1) op a b 64 = (if op = 14 then (if b = 0 then some (0, 1) else some (wrap64 (Int.tdiv a b), 0)) else if op = 15 then (if b = 0 then some (0, 1) else some (Int.tmod a b, 0))
    else if op = 12 then (some (wrap64 (a + (wrap64 (-b))), 0)) else (if op = 11 then (some (wrap64 (a + b), 0)) else (if op = 13 then (some (wrap64 (a * b), 0)) else (if op = 16 then (some (Go.bits .and .i64 a b, 0)) else (if op = 17 then (some (Go.bits .or .i64 a b, 0)) else (if op = 18 then (some (Go.bits .xor .i64 a b, 0)) else (if op = 19 then (if (64 : Int) = 0 then (none) else (if 0 ≤ (Int.tmod (IntKind.u64.wrap (b)) 64) then (some (shl .i64 a (Int.tmod (IntKind.u64.wrap (b)) 64), 0)) else (none))) else (if op = 20 then (if (64 : Int) = 0 then (none) else (if 0 ≤ (Int.tmod (IntKind.u64.wrap (b)) 64) then (some (shr .i64 a (Int.tmod (IntKind.u64.wrap (b)) 64), 0)) else (none))) else (some (0, 0)))))))))) := by
  unfold word_two_int64.f
  simp only [word_two_int64.j0]
  by_cases h14 : op = 14
  · simp only [if_pos h14, if_pos (show (op == 14) = true by simp [h14])]
  · by_cases h15 : op = 15
    · simp only [if_neg h14, if_pos h15, if_pos (show (op == 15) = true by simp [h15])]
    · simp only [if_neg h14, if_neg h15, if_neg (show ¬ (op == 15) = true by simp [h15])]
theorem two64 (k : Nat) (op : Int) (A B : BitVec 64) : word_two_int64.f (k + 1) op A.toInt B.toInt 64 = some (twoB op A B) := by
  rw [two64F]
  unfold twoB
  by_cases h14 : op = 14
  · rw [if_pos h14, if_pos h14]
    by_cases hb : B = 0#64
    · rw [if_pos hb, if_pos ((toInt_eq_zero B).2 hb)]
    · rw [if_neg hb, if_neg (fun e => hb ((toInt_eq_zero B).1 e)), w64, BitVec.toInt_ofInt, ← BitVec.toInt_sdiv]
  · rw [if_neg h14, if_neg h14]
    by_cases h15 : op = 15
    · rw [if_pos h15, if_pos h15]
      by_cases hb : B = 0#64
      · rw [if_pos hb, if_pos ((toInt_eq_zero B).2 hb)]
      · rw [if_neg hb, if_neg (fun e => hb ((toInt_eq_zero B).1 e)), ← BitVec.toInt_srem]
    · rw [if_neg h15, if_neg h15]
      by_cases h12 : op = 12
      · rw [if_pos h12, if_pos h12, w64, w64, BitVec.ofInt_add, BitVec.ofInt_toInt, BitVec.ofInt_toInt, BitVec.ofInt_neg, BitVec.ofInt_toInt, ← BitVec.sub_eq_add_neg]
      · rw [if_neg h12, if_neg h12]
        by_cases h11 : op = 11
        · rw [if_pos h11, if_pos h11, w64, BitVec.ofInt_add, BitVec.ofInt_toInt, BitVec.ofInt_toInt]
        · rw [if_neg h11, if_neg h11]
          by_cases h13 : op = 13
          · rw [if_pos h13, if_pos h13, w64, BitVec.ofInt_mul, BitVec.ofInt_toInt, BitVec.ofInt_toInt]
          · rw [if_neg h13, if_neg h13]
            by_cases h16 : op = 16
            · rw [if_pos h16, if_pos h16, show Go.bits .and .i64 A.toInt B.toInt = (A &&& B).toInt by rw [and_k s64]; exact congrArg BitVec.toInt (congr (congrArg _ BitVec.ofInt_toInt) BitVec.ofInt_toInt)]
            · rw [if_neg h16, if_neg h16]
              by_cases h17 : op = 17
              · rw [if_pos h17, if_pos h17, show Go.bits .or .i64 A.toInt B.toInt = (A ||| B).toInt by rw [or_k s64]; exact congrArg BitVec.toInt (congr (congrArg _ BitVec.ofInt_toInt) BitVec.ofInt_toInt)]
              · rw [if_neg h17, if_neg h17]
                by_cases h18 : op = 18
                · rw [if_pos h18, if_pos h18, show Go.bits .xor .i64 A.toInt B.toInt = (A ^^^ B).toInt by rw [xor_k s64]; exact congrArg BitVec.toInt (congr (congrArg _ BitVec.ofInt_toInt) BitVec.ofInt_toInt)]
                · rw [if_neg h18, if_neg h18, count64]
                  by_cases h19 : op = 19
                  · rw [if_pos h19, if_pos h19, if_neg (by decide), if_pos (by omega), show shl .i64 A.toInt ((B.toNat % 64 : Nat) : Int) = (A <<< (B.toNat % 64)).toInt from shl_k s64 A _ (Nat.le_of_lt (Nat.mod_lt _ (by decide)))]
                  · rw [if_neg h19, if_neg h19]
                    by_cases h20 : op = 20
                    · rw [if_pos h20, if_pos h20, if_neg (by decide), if_pos (by omega), show shr .i64 A.toInt ((B.toNat % 64 : Nat) : Int) = (A.sshiftRight (B.toNat % 64)).toInt from shr_k (k := .i64) A _ (Nat.le_of_lt (Nat.mod_lt _ (by decide)))]
                    · rw [if_neg h20, if_neg h20]
theorem two_f (op w : Int) {a b : Int} (ha : Ok a) (hb : Ok b) {k : Nat} (hk : 1 ≤ k) : word_Two.f k op w a b = some (reck op w a b) := by
  obtain ⟨k, rfl⟩ : ∃ m, k = m + 1 := ⟨k - 1, by omega⟩
  unfold word_Two.f reck
  by_cases h1 : w = 1
  · rw [if_pos h1, if_pos h1, w8, w8, two8]
    simp only [obind]
  · by_cases h2 : w = 2
    · rw [if_neg h1, if_neg h1, if_pos h2, if_pos h2, w32, w32, two32]
      simp only [obind]
    · by_cases h3 : w = 3
      · have h := two64 k op (BitVec.ofInt 64 a) (BitVec.ofInt 64 b)
        rw [ha, hb] at h
        rw [if_neg h1, if_neg h1, if_neg h2, if_neg h2, if_pos h3, if_pos h3, h]
        simp only [obind]
      · rw [if_neg h1, if_neg h1, if_neg h2, if_neg h2, if_neg h3, if_neg h3]
theorem works_f {k : Nat} (hk : 1 ≤ k) : trammellaw02_works.f k = some true := by
  unfold trammellaw02_works.f
  rw [two_f 11 1 (by decide) (by decide) hk, show reck 11 1 100 100 = (-56, 0) by decide +kernel]
  simp only [obind]
  rw [if_pos trivial, if_pos trivial, fits_f, fits_f, show fitsW 1 127 = true by decide +kernel, show fitsW 1 128 = false by decide +kernel]
  rfl
theorem width_f {w : Int} (h0 : 0 ≤ w) : ∃ v, trammellaw02_width.f w = some v ∧ (v = 1 ∨ v = 2 ∨ v = 3) := by
  refine ⟨_, rfl, ?_⟩
  rw [Int.tmod_eq_emod_of_nonneg h0]
  omega
theorem do_f (op w : Int) {a b : Int} (ha : Ok a) (hb : Ok b) {k : Nat} (hk : 1 ≤ k) : trammellaw02_do.f k op w a b = some (reck op w a b).1 := by
  unfold trammellaw02_do.f
  rw [two_f op w ha hb hk]
  simp only [obind]
theorem neg_ok {r : Int} (h : r.natAbs < 9223372036854775808) : wrap64 (-r) = -r := by rw [w64, id64 (by omega) (by omega)]
end Go.Proofs.Ytgomkbdemakndaa.Pure.WordPartss
namespace Go.Proofs.Ytgomkbdemakndaa.Pure
open WordPartss Go.RowKit Go.Proofs.Ytgomkbdemakndaa.PWordParts Go.Proofs.YtgomkbdemakndaaW.PrintWords Go.Proofs.YtgomkbdemakndaaW.PrintLast Go.Proofs.YtgomkbdemakndaaW.PrintMore Go.Proofs.Ytgomkbdemakndaa.Plain
theorem WordParts : trammellaw02_WordParts.Pure := by
  intro w a b hw ha hb
  have ha' := ok_of (wf64 ha)
  have hb' := ok_of (wf64 hb)
  obtain ⟨v, hv, hv3⟩ := width_f (wfu8 hw).1
  obtain ⟨n, W⟩ := wd_of hv3
  refine ⟨5, ?_⟩
  unfold trammellaw02_WordParts.f
  rw [hv]
  simp only [obind]
  rw [wrap_f, wrap_f, two_f 14 v ha' hb' (by decide), two_f 15 v ha' hb' (by decide), works_f (by decide), W.wrap ha', W.wrap hb']
  simp only [obind]
  by_cases h0 : BitVec.ofInt n b = 0#n
  · rw [W.div0 a b h0, W.rem0 a b h0, if_pos ((toInt_eq_zero _).2 h0)]
    rfl
  · have hl := rest_lt (BitVec.ofInt n a) (BitVec.ofInt n b) h0
    have hs := rest_sign (BitVec.ofInt n a) (BitVec.ofInt n b)
    have hp := parts (BitVec.ofInt n a) (BitVec.ofInt n b)
    have hn : ¬ (BitVec.ofInt n b).toInt = 0 := fun e => h0 ((toInt_eq_zero _).1 e)
    have hok := W.ok (BitVec.ofInt n b)
    have hr : -9223372036854775808 ≤ (BitVec.ofInt n b).toInt ∧ (BitVec.ofInt n b).toInt ≤ 9223372036854775807 := by rw [← hok]; exact range64 _
    rw [if_neg hn, W.div a b h0, W.rem a b h0]
    simp only []
    rw [if_pos trivial, if_pos trivial, do_f 13 v (W.ok _) hb' (by decide), W.mul, BitVec.ofInt_toInt]
    simp only [obind]
    rw [do_f 11 v (W.ok _) (W.ok _) (by decide), W.add, BitVec.ofInt_toInt, BitVec.ofInt_toInt, hp]
    simp only [obind]
    rw [if_pos trivial, neg_ok (by omega)]
    generalize ((BitVec.ofInt n a).srem (BitVec.ofInt n b)).toInt = r at *
    generalize (BitVec.ofInt n b).toInt = y at *
    generalize (BitVec.ofInt n a).toInt = x at *
    have tail : (if y < 0 then (if r > y then (if -r > y then some true else (if y > 0 then (if r < y then (if -r < y then some true else some false) else some false) else some false)) else (if y > 0 then (if r < y then (if -r < y then some true else some false) else some false) else some false)) else (if y > 0 then (if r < y then (if -r < y then some true else some false) else some false) else some false)) = some true := by
      by_cases hy : y < 0
      · rw [if_pos hy, if_pos (by omega), if_pos (by omega)]
      · rw [if_neg hy, if_pos (by omega), if_pos (by omega), if_pos (by omega)]
    by_cases hr0 : r = 0
    · rw [if_pos hr0]; exact tail
    · rw [if_neg hr0, if_pos (by simp; omega)]; exact tail
end Go.Proofs.Ytgomkbdemakndaa.Pure
