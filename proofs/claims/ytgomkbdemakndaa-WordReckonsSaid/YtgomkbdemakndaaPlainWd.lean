/- Plain facts of the three widths: sums, products, parts, moves, by words of n bits. Under no conditions. -/
import Derived.Test.YtgomkbdemakndaaPlain
namespace Go.Proofs.Ytgomkbdemakndaa.Plain
set_option linter.unusedVariables false
open Go.RowKit Go.Proofs.YtgomkbdemakndaaW.PrintWords Go.Proofs.YtgomkbdemakndaaW.PrintLast Go.Proofs.YtgomkbdemakndaaW.PrintMore

/-- A width and its bits. -/
structure Wd (v : Int) (n : Nat) : Prop where
  two : ∀ op a b, reck op v a b = twoB op (BitVec.ofInt n a) (BitVec.ofInt n b)
  wrap : ∀ {a}, Ok a → wrapW v a = (BitVec.ofInt n a).toInt
  ok : ∀ A : BitVec n, Ok A.toInt
  bits : bitsW v = n
  pos : 0 < n
  le : n ≤ 64
theorem wd1 : Wd 1 8 := ⟨fun _ _ _ => rfl, fun _ => rfl, ok8, rfl, by decide, by decide⟩
theorem wd2 : Wd 2 32 := ⟨fun _ _ _ => rfl, fun _ => rfl, ok32, rfl, by decide, by decide⟩
theorem wd3 : Wd 3 64 := ⟨fun _ _ _ => rfl, fun h => h.symm, ok64, rfl, by decide, by decide⟩
theorem wd_of {v : Int} (h : v = 1 ∨ v = 2 ∨ v = 3) : ∃ n, Wd v n := by
  rcases h with rfl | rfl | rfl
  · exact ⟨8, wd1⟩
  · exact ⟨32, wd2⟩
  · exact ⟨64, wd3⟩
theorem cut64 {n : Nat} (h : n ≤ 64) (a : Int) : BitVec.ofInt n (BitVec.ofInt 64 a).toInt = BitVec.ofInt n a := by
  apply BitVec.eq_of_toInt_eq
  rw [BitVec.toInt_ofInt, BitVec.toInt_ofInt, BitVec.toInt_ofInt]
  exact Int.bmod_bmod_of_dvd (Nat.pow_dvd_pow 2 h)
theorem cut_any {n m : Nat} (h : n ≤ m) (a : Int) : BitVec.ofInt n (BitVec.ofInt m a).toInt = BitVec.ofInt n a := by
  apply BitVec.eq_of_toInt_eq
  rw [BitVec.toInt_ofInt, BitVec.toInt_ofInt, BitVec.toInt_ofInt]
  exact Int.bmod_bmod_of_dvd (Nat.pow_dvd_pow 2 h)
theorem Wd.add {v : Int} {n : Nat} (W : Wd v n) (a b : Int): reck 11 v a b = ((BitVec.ofInt n a + BitVec.ofInt n b).toInt, 0) := by rw [W.two]; rfl
theorem Wd.sub {v : Int} {n : Nat} (W : Wd v n) (a b : Int): reck 12 v a b = ((BitVec.ofInt n a - BitVec.ofInt n b).toInt, 0) := by rw [W.two]; rfl
theorem Wd.mul {v : Int} {n : Nat} (W : Wd v n) (a b : Int): reck 13 v a b = ((BitVec.ofInt n a * BitVec.ofInt n b).toInt, 0) := by rw [W.two]; rfl
theorem Wd.and {v : Int} {n : Nat} (W : Wd v n) (a b : Int): reck 16 v a b = ((BitVec.ofInt n a &&& BitVec.ofInt n b).toInt, 0) := by rw [W.two]; rfl
theorem Wd.or {v : Int} {n : Nat} (W : Wd v n) (a b : Int): reck 17 v a b = ((BitVec.ofInt n a ||| BitVec.ofInt n b).toInt, 0) := by rw [W.two]; rfl
theorem Wd.xor {v : Int} {n : Nat} (W : Wd v n) (a b : Int): reck 18 v a b = ((BitVec.ofInt n a ^^^ BitVec.ofInt n b).toInt, 0) := by rw [W.two]; rfl
theorem Wd.shl {v : Int} {n : Nat} (W : Wd v n) (a b : Int): reck 19 v a b = ((BitVec.ofInt n a <<< ((BitVec.ofInt n b).toNat % n)).toInt, 0) := by rw [W.two]; rfl
theorem Wd.shr {v : Int} {n : Nat} (W : Wd v n) (a b : Int): reck 20 v a b = (((BitVec.ofInt n a).sshiftRight ((BitVec.ofInt n b).toNat % n)).toInt, 0) := by rw [W.two]; rfl
theorem Wd.div {v : Int} {n : Nat} (W : Wd v n) (a b : Int) (h : BitVec.ofInt n b ≠ 0#n) : reck 14 v a b = (((BitVec.ofInt n a).sdiv (BitVec.ofInt n b)).toInt, 0) := by
  rw [W.two]; unfold twoB; rw [if_pos rfl, if_neg h]
theorem Wd.rem {v : Int} {n : Nat} (W : Wd v n) (a b : Int) (h : BitVec.ofInt n b ≠ 0#n) : reck 15 v a b = (((BitVec.ofInt n a).srem (BitVec.ofInt n b)).toInt, 0) := by
  rw [W.two]; unfold twoB; rw [if_neg (by decide), if_pos rfl, if_neg h]
theorem Wd.div0 {v : Int} {n : Nat} (W : Wd v n) (a b : Int) (h : BitVec.ofInt n b = 0#n) : reck 14 v a b = (0, 1) := by
  rw [W.two]; unfold twoB; rw [if_pos rfl, if_pos h]
theorem Wd.rem0 {v : Int} {n : Nat} (W : Wd v n) (a b : Int) (h : BitVec.ofInt n b = 0#n) : reck 15 v a b = (0, 1) := by
  rw [W.two]; unfold twoB; rw [if_neg (by decide), if_pos rfl, if_pos h]
/-- All answers fit. -/
theorem Wd.fits {v : Int} {n : Nat} (W : Wd v n) (A : BitVec n) : fitsW v A.toInt = true := by
  unfold fitsW
  rw [W.bits, W.wrap (W.ok A), BitVec.ofInt_toInt]
  have := W.pos
  simp; omega
theorem twoB_form {n : Nat} (op : Int) (A B : BitVec n) : ∃ C : BitVec n, (twoB op A B).1 = C.toInt := by
  have hz : ∃ C : BitVec n, (0 : Int) = C.toInt := ⟨0#n, BitVec.toInt_zero.symm⟩
  unfold twoB
  repeat' split
  all_goals first | exact hz | (with_reducible exact ⟨_, rfl⟩)
theorem Wd.two_fits {v : Int} {n : Nat} (W : Wd v n) (a b : Int) (op : Int) : fitsW v (reck op v a b).1 = true := by
  rw [W.two]
  obtain ⟨C, hC⟩ := twoB_form op (BitVec.ofInt n a) (BitVec.ofInt n b)
  rw [hC]; exact W.fits _
theorem Wd.wrap_fits {v : Int} {n : Nat} (W : Wd v n) {a : Int} (h : Ok a) : fitsW v (wrapW v a) = true := by rw [W.wrap h]; exact W.fits _
theorem Wd.ok_two {v : Int} {n : Nat} (W : Wd v n) (a b : Int) (op : Int) : Ok (reck op v a b).1 := by
  rw [W.two]
  obtain ⟨C, hC⟩ := twoB_form op (BitVec.ofInt n a) (BitVec.ofInt n b)
  rw [hC]; exact W.ok _
theorem Wd.ok_wrap {v : Int} {n : Nat} (W : Wd v n) {a : Int} (h : Ok a) : Ok (wrapW v a) := by rw [W.wrap h]; exact W.ok _
theorem Wd.neg {v : Int} {n : Nat} (W : Wd v n) (a : Int) : oneW 21 v a = (-(BitVec.ofInt n a)).toInt := by
  unfold oneW
  rw [if_pos rfl, W.wrap (ok64 _)]
  congr 1
  rw [← BitVec.ofInt_neg, cut64 W.le, BitVec.ofInt_neg]
theorem ofInt_not (m : Nat) (x : Int) : BitVec.ofInt m (-x - 1) = ~~~ BitVec.ofInt m x := by
  rw [show -x - 1 = -(x + 1) by omega, BitVec.ofInt_neg, BitVec.ofInt_add, BitVec.neg_eq_not_add]
  have : ∀ y : BitVec m, ~~~(y + BitVec.ofInt m 1) + 1#m = ~~~ y := by
    intro y
    have h1 : BitVec.ofInt m 1 = 1#m := rfl
    rw [h1]
    have h2 := BitVec.neg_eq_not_add (y + 1#m)
    have h3 := BitVec.neg_eq_not_add y
    rw [← h2, BitVec.neg_add, h3, BitVec.sub_eq_add_neg, BitVec.add_assoc, BitVec.add_right_neg, BitVec.add_zero]
  exact this _
theorem Wd.not {v : Int} {n : Nat} (W : Wd v n) (a : Int) : oneW 22 v a = (~~~ (BitVec.ofInt n a)).toInt := by
  unfold oneW
  rw [if_neg (by decide), if_pos rfl, W.wrap (ok64 _)]
  congr 1
  rw [← ofInt_not, cut64 W.le, ofInt_not]
theorem nat_and_add_or (a : Nat) : ∀ b : Nat, (a &&& b) + (a ||| b) = a + b := by
  induction a using Nat.strongRecOn with
  | ind a ih =>
    intro b
    by_cases h : a = 0
    · subst h; simp
    · have h1 := ih (a / 2) (by omega) (b / 2)
      have h2 : (a &&& b) / 2 = a / 2 &&& b / 2 := Nat.and_div_two
      have h3 : (a ||| b) / 2 = a / 2 ||| b / 2 := Nat.or_div_two
      have h4 : (a &&& b) % 2 + (a ||| b) % 2 = a % 2 + b % 2 := by
        have e1 : ((a &&& b) % 2 = 1) ↔ (a % 2 = 1 ∧ b % 2 = 1) := by
          have := Nat.testBit_and a b 0
          rw [Nat.testBit_zero, Nat.testBit_zero, Nat.testBit_zero] at this
          rw [← decide_eq_true_iff (p := (a &&& b) % 2 = 1), this, Bool.and_eq_true, decide_eq_true_iff, decide_eq_true_iff]
        have e2 : ((a ||| b) % 2 = 1) ↔ (a % 2 = 1 ∨ b % 2 = 1) := by
          have := Nat.testBit_or a b 0
          rw [Nat.testBit_zero, Nat.testBit_zero, Nat.testBit_zero] at this
          rw [← decide_eq_true_iff (p := (a ||| b) % 2 = 1), this, Bool.or_eq_true, decide_eq_true_iff, decide_eq_true_iff]
        omega
      omega
theorem and_add_or {n : Nat} (A B : BitVec n) : (A &&& B) + (A ||| B) = A + B := by
  apply BitVec.eq_of_toNat_eq
  rw [BitVec.toNat_add, BitVec.toNat_and, BitVec.toNat_or, nat_and_add_or, BitVec.toNat_add]
/-- A number, the other one times the quotient, the rest. -/
theorem parts {n : Nat} (A B : BitVec n) : (A.sdiv B) * B + A.srem B = A := by
  rw [← BitVec.toInt_inj, BitVec.toInt_add, BitVec.toInt_mul, BitVec.toInt_sdiv, BitVec.toInt_srem]
  rw [Int.bmod_mul_bmod, Int.bmod_add_bmod, Int.mul_comm, Int.mul_tdiv_add_tmod, ← BitVec.toInt_ofInt, BitVec.ofInt_toInt]
theorem rest_lt {n : Nat} (A B : BitVec n) (hB : B ≠ 0#n) : (A.srem B).toInt.natAbs < B.toInt.natAbs := by
  have hb : B.toInt ≠ 0 := fun e => hB ((toInt_eq_zero B).1 e)
  rw [BitVec.toInt_srem, Int.natAbs_tmod]
  exact Nat.mod_lt _ (by omega)
theorem rest_sign {n : Nat} (A B : BitVec n) : (A.srem B).toInt = 0 ∨ ((A.srem B).toInt < 0 ↔ A.toInt < 0) := by
  rw [BitVec.toInt_srem]
  by_cases h : A.toInt < 0
  · have h1 := Int.neg_tmod A.toInt B.toInt
    have h2 := Int.tmod_nonneg (a := -A.toInt) B.toInt (by omega)
    by_cases e : A.toInt.tmod B.toInt = 0
    · exact .inl e
    · exact .inr ⟨fun _ => h, fun _ => by omega⟩
  · have h2 := Int.tmod_nonneg (a := A.toInt) B.toInt (by omega)
    exact .inr ⟨fun g => by omega, fun g => absurd g h⟩
end Go.Proofs.Ytgomkbdemakndaa.Plain
