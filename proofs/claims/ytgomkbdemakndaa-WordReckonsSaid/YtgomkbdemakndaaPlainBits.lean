/- Plain facts of 64 bits taken one by one. Under no conditions. -/
import Derived.Test.YtgomkbdemakndaaPlainTest
namespace Go.Proofs.Ytgomkbdemakndaa.Plain
set_option linter.unusedVariables false
open Go.RowKit Go.Proofs.YtgomkbdemakndaaW.PrintWords Go.Proofs.YtgomkbdemakndaaW.PrintLast Go.Proofs.YtgomkbdemakndaaW.PrintMore

theorem u_lt (A : BitVec 64) : (A.toNat : Int) < 18446744073709551616 := Int.ofNat_lt.mpr A.isLt
theorem u_of (x : Int) : IntKind.u64.wrap x = ((BitVec.ofInt 64 x).toNat : Int) := by
  rw [u64_wrap, BitVec.toNat_ofInt]
  omega
theorem u_id (A : BitVec 64) : IntKind.u64.wrap (A.toNat : Int) = A.toNat := by
  have := u_lt A
  rw [u64_wrap]; omega
theorem u_self (A : BitVec 64) : BitVec.ofInt 64 (A.toNat : Int) = A := by
  rw [BitVec.ofInt_natCast, BitVec.ofNat_toNat, BitVec.setWidth_eq]
theorem u_and (A B : BitVec 64) : Go.bits .and .u64 (A.toNat : Int) (B.toNat : Int) = ((A &&& B).toNat : Int) := by
  simp only [Go.bits]
  rw [show BitVec.ofInt IntKind.u64.bits (A.toNat : Int) = A from u_self A, show BitVec.ofInt IntKind.u64.bits (B.toNat : Int) = B from u_self B]
  exact u_id _
theorem u_or (A B : BitVec 64) : Go.bits .or .u64 (A.toNat : Int) (B.toNat : Int) = ((A ||| B).toNat : Int) := by
  simp only [Go.bits]
  rw [show BitVec.ofInt IntKind.u64.bits (A.toNat : Int) = A from u_self A, show BitVec.ofInt IntKind.u64.bits (B.toNat : Int) = B from u_self B]
  exact u_id _
theorem u_shr (A : BitVec 64) (m : Nat) (hm : m ≤ 64) : shr .u64 (A.toNat : Int) (m : Int) = ((A >>> m).toNat : Int) := by
  unfold shr
  rw [Int.toNat_natCast, show min m IntKind.u64.bits = m by show min m 64 = m; omega, BitVec.toNat_ushiftRight, Nat.shiftRight_eq_div_pow]
  simp
theorem u_shl (A : BitVec 64) (m : Nat) (hm : m ≤ 64) : shl .u64 (A.toNat : Int) (m : Int) = ((A <<< m).toNat : Int) := by
  unfold shl
  rw [Int.toNat_natCast, show min m IntKind.u64.bits = m by show min m 64 = m; omega, u64_wrap, BitVec.toNat_shiftLeft, Nat.shiftLeft_eq]
  simp
theorem u_and1 (A : BitVec 64) : Go.bits .and .u64 (A.toNat : Int) 1 = ((A &&& 1#64).toNat : Int) := by
  have := u_and A 1#64
  rwa [show ((1#64 : BitVec 64).toNat : Int) = 1 from rfl] at this
/-- A bit of one number laid at a place of another. -/
theorem lay_bit (X N : BitVec 64) (s i j : Nat) (hi : i < 64) (hj : j < 64) : (X ||| (((N >>> s) &&& 1#64) <<< i)).getLsbD j = (X.getLsbD j || (decide (j = i) && N.getLsbD s)) := by
  rw [BitVec.getLsbD_or, BitVec.getLsbD_shiftLeft, BitVec.getLsbD_and, BitVec.getLsbD_ushiftRight]
  congr 1
  by_cases h : j = i
  · subst h; simp [hj]
  · by_cases h2 : j < i
    · simp [h, h2]
    · have h3 : ¬ j - i = 0 := by omega
      simp [h, BitVec.getLsbD_one, h3]
theorem cut_bit (n : Nat) (hn : n ≤ 64) (x : Int) (j : Nat) (hj : j < n) : (BitVec.ofInt n x).getLsbD j = (BitVec.ofInt 64 x).getLsbD j := by
  have e : BitVec.ofInt n x = (BitVec.ofInt 64 x).setWidth n := by
    apply BitVec.eq_of_toNat_eq
    rw [BitVec.toNat_setWidth, BitVec.toNat_ofInt, BitVec.toNat_ofInt]
    have hd : ((2 ^ n : Nat) : Int) ∣ ((2 ^ 64 : Nat) : Int) := Int.ofNat_dvd.mpr (Nat.pow_dvd_pow 2 hn)
    have h1 := Int.emod_emod_of_dvd x hd
    have h2 : (0 : Int) < ((2 ^ 64 : Nat) : Int) := by decide
    have h3 := Int.emod_nonneg x (Int.ne_of_gt h2)
    rw [← h1]
    generalize x % ((2 ^ 64 : Nat) : Int) = y at *
    obtain ⟨z, rfl⟩ := Int.eq_ofNat_of_zero_le h3
    rw [← Int.natCast_emod, Int.toNat_natCast, Int.toNat_natCast]
  rw [e, BitVec.getLsbD_setWidth]
  simp [hj]
/-- The lowest bits, the topmost of them the sign. -/
theorem ext_eq (n : Nat) (hn : n ≤ 64) (h0 : 0 < n) (x : Int) (X : BitVec 64) (h : ∀ j, j < 64 → X.getLsbD j = if j < n then (BitVec.ofInt 64 x).getLsbD j else (BitVec.ofInt 64 x).getLsbD (n - 1)) : X.toInt = (BitVec.ofInt n x).toInt := by
  have e : X = (BitVec.ofInt n x).signExtend 64 := by
    apply BitVec.eq_of_getLsbD_eq
    intro j hj
    rw [h j hj, BitVec.getLsbD_signExtend]
    by_cases g : j < n
    · rw [if_pos g, if_pos g, cut_bit n hn x j g]; simp [hj]
    · rw [if_neg g, if_neg g, BitVec.msb_eq_getLsbD_last, cut_bit n hn x (n - 1) (by omega)]; simp [hj]
  rw [e, BitVec.toInt_signExtend_of_le hn]
end Go.Proofs.Ytgomkbdemakndaa.Plain
