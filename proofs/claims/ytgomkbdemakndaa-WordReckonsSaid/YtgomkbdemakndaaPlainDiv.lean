/- Plain facts of long division, bit by bit, and of the parts of signed numbers. Under no conditions. -/
import Derived.Test.YtgomkbdemakndaaPlainBits
namespace Go.Proofs.Ytgomkbdemakndaa.Plain
set_option linter.unusedVariables false
open Go.RowKit Go.Proofs.YtgomkbdemakndaaW.PrintWords Go.Proofs.YtgomkbdemakndaaW.PrintLast Go.Proofs.YtgomkbdemakndaaW.PrintMore

theorem id_u64 {n : Int} (h0 : 0 ≤ n) (h1 : n < 18446744073709551616) : IntKind.u64.wrap n = n := by rw [u64_wrap]; omega
theorem or_u64 (i : Nat) (x y : Int) (hx₀ : 0 ≤ x) (hx : x % 2 ^ i = 0) (hx₁ : x < 18446744073709551616) (hy₀ : 0 ≤ y) (hy : y < 2 ^ i) (hy₁ : y < 18446744073709551616) : Go.bits .or .u64 x y = x + y :=
  bits_join .u64 64 (by decide) (fun n h0 h1 => id_u64 h0 (by simpa using h1)) i x y hx₀ hx (by simpa using hx₁) hy₀ hy (by simpa using hy₁)
theorem and_one {u : Int} (h0 : 0 ≤ u) (h1 : u < 18446744073709551616) : Go.bits .and .u64 u 1 = u % 2 := by
  have := bits_mask .u64 64 (by decide) (fun n h0 h1 => id_u64 h0 (by simpa using h1)) 1 (by decide) u h0 (by simpa using h1)
  simpa using this
theorem two63 {i : Nat} (h : i ≤ 63) : (2 : Int) ^ i ≤ 9223372036854775808 := by
  have : (2 : Int) ^ i ≤ 2 ^ 63 := by
    have h2 : 2 ^ i ≤ 2 ^ 63 := Nat.pow_le_pow_right (by decide) h
    exact_mod_cast h2
  simpa using this
theorem two_pos (i : Nat) : (0 : Int) < 2 ^ i := by
  have h2 : 0 < 2 ^ i := Nat.two_pow_pos _
  exact_mod_cast h2
theorem shl_one {i : Nat} (h : i ≤ 63) : shl .u64 1 (i : Int) = 2 ^ i := by
  have := two63 h
  have := two_pos i
  unfold shl
  rw [Int.toNat_natCast, show min i IntKind.u64.bits = i by show min i 64 = i; omega, Int.one_mul, id_u64 (by omega) (by omega)]
theorem shr_nat {A i : Nat} (h : i ≤ 64) : shr .u64 (A : Int) (i : Int) = ((A / 2 ^ i : Nat) : Int) := by
  unfold shr
  rw [Int.toNat_natCast, show min i IntKind.u64.bits = i by show min i 64 = i; omega]
  simp
/-- One round of the division: what the quotient and the rest come to. -/
theorem long_step (B H bit : Nat) (hb : 0 < B) (hbit : bit < 2) :
    (2 * (H % B) + bit ≥ B → (2 * H + bit) / B = 2 * (H / B) + 1 ∧ (2 * H + bit) % B = 2 * (H % B) + bit - B) ∧
    (2 * (H % B) + bit < B → (2 * H + bit) / B = 2 * (H / B) ∧ (2 * H + bit) % B = 2 * (H % B) + bit) := by
  have h1 := Nat.div_add_mod H B
  have h2 := Nat.mod_lt H hb
  generalize H / B = u at *
  generalize H % B = r at *
  constructor
  · intro h
    have e : 2 * H + bit = B * (2 * u + 1) + (2 * r + bit - B) := by
      rw [Nat.mul_add, ← Nat.mul_assoc, Nat.mul_comm B 2, Nat.mul_assoc]; omega
    rw [e, Nat.mul_add_div hb, Nat.mul_add_mod, Nat.div_eq_of_lt (by omega), Nat.mod_eq_of_lt (by omega)]
    exact ⟨rfl, rfl⟩
  · intro h
    have e : 2 * H + bit = B * (2 * u) + (2 * r + bit) := by
      rw [← Nat.mul_assoc, Nat.mul_comm B 2, Nat.mul_assoc]; omega
    rw [e, Nat.mul_add_div hb, Nat.mul_add_mod, Nat.div_eq_of_lt (by omega), Nat.mod_eq_of_lt (by omega)]
    exact ⟨rfl, rfl⟩
theorem half_step (A i : Nat) : A / 2 ^ i = 2 * (A / 2 ^ (i + 1)) + A / 2 ^ i % 2 := by
  rw [Nat.pow_succ, ← Nat.div_div_eq_div_mul]; omega
/-- The parts of a signed number, out of those of its worth. -/
def parted (a b : Int) : Int × Int := ((BitVec.ofInt 64 (Int.tdiv a b)).toInt, (BitVec.ofInt 64 (Int.tmod a b)).toInt)
theorem bv_u64 (y : Int) : BitVec.ofInt 64 (IntKind.u64.wrap y) = BitVec.ofInt 64 y := by
  rw [u_of, u_self]
theorem down_two (x : Int) : (if Int.tmod x 2 < 0 then Int.tdiv x 2 - 1 else Int.tdiv x 2) = x / 2 := by
  have h1 := Int.tdiv_eq_ediv (a := x) (b := 2)
  have h2 := Int.tmod_eq_emod (a := x) (b := 2)
  by_cases h : 0 ≤ x
  · rw [if_pos (Or.inl h)] at h1 h2
    split <;> omega
  · by_cases hd : (2 : Int) ∣ x
    · rw [if_pos (Or.inr hd)] at h1 h2
      split <;> omega
    · have hn : ¬ (0 ≤ x ∨ (2 : Int) ∣ x) := fun e => e.elim h hd
      rw [if_neg hn] at h1 h2
      have h3 : x % 2 = 1 := by omega
      have h4 : Int.sign 2 = 1 := rfl
      have h5 : ((Int.natAbs 2 : Nat) : Int) = 2 := rfl
      rw [h4] at h1
      rw [h5] at h2
      rw [if_pos (by omega)]; omega
theorem toInt_cut {n m : Nat} (h : n ≤ m) (X : BitVec m) : BitVec.ofInt n X.toInt = X.setWidth n := by
  apply BitVec.eq_of_toInt_eq
  rw [BitVec.toInt_ofInt, BitVec.toInt_setWidth, BitVec.toInt_eq_toNat_bmod]
  exact Int.bmod_bmod_of_dvd (Nat.pow_dvd_pow 2 h)
theorem ofInt_cut {n m : Nat} (h : n ≤ m) (a : Int) : (BitVec.ofInt m a).setWidth n = BitVec.ofInt n a := by
  rw [← toInt_cut h, cut_any h]
/-- A bit of both, of one. -/
theorem and1_bit (A : BitVec 64) (i : Nat) (hi : i ≤ 64) : Go.bits .and .u64 (shr .u64 (A.toNat : Int) (i : Int)) 1 = if A.getLsbD i then 1 else 0 := by
  rw [u_shr A i hi, u_and1]
  have : (A >>> i &&& 1#64).toNat = if A.getLsbD i then 1 else 0 := by
    rw [BitVec.toNat_and, show (1#64).toNat = 1 from rfl, Nat.and_one_is_mod, BitVec.toNat_ushiftRight, BitVec.getLsbD, Nat.testBit_eq_decide_div_mod_eq, Nat.shiftRight_eq_div_pow]
    by_cases h : A.toNat / 2 ^ i % 2 = 1
    · simp [h]
    · simp [h]; omega
  rw [this]
  split <;> rfl
theorem lay_one (X : BitVec 64) (i j : Nat) (hi : i < 64) (hj : j < 64) : (X ||| (1#64 <<< i)).getLsbD j = (X.getLsbD j || decide (j = i)) := by
  rw [BitVec.getLsbD_or, BitVec.getLsbD_shiftLeft]
  congr 1
  by_cases h : j = i
  · subst h; simp [hj]
  · by_cases h2 : j < i
    · simp [h, h2]
    · have h3 : ¬ j - i = 0 := by omega
      simp [h, BitVec.getLsbD_one, h3]
theorem shl_one_bv (i : Nat) (hi : i ≤ 63) : shl .u64 1 (i : Int) = ((1#64 <<< i).toNat : Int) := by
  have := u_shl 1#64 i (by omega)
  rwa [show ((1#64 : BitVec 64).toNat : Int) = 1 from rfl] at this
end Go.Proofs.Ytgomkbdemakndaa.Plain
