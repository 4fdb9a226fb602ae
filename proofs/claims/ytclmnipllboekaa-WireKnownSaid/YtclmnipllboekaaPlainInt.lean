/- Plain arithmetic of signed numbers as bytes and of numbers in so many bytes. Under no conditions. -/
import Derived.Test.YtclmnipllboekaaPlain
namespace Go.Proofs.Ytclmnipllboekaa.Plain
set_option linter.unusedVariables false
open Go.RowKit Go.Proofs.YtclmnipllboekaaW.PrintWords Go.Proofs.YtclmnipllboekaaW.PrintLast Go.Proofs.YtclmnipllboekaaW.PrintMore

/-- A signed number as one without a sign, and back. -/
def zig (n : Int) : Int := if n < 0 then -2 * n - 1 else 2 * n
def zag (u : Int) : Int := if u % 2 = 1 then -(u / 2) - 1 else u / 2
theorem zig_lo (n : Int) : 0 ≤ zig n := by unfold zig; split <;> omega
theorem zig_hi {n : Int} (h0 : -9223372036854775808 ≤ n) (h1 : n ≤ 9223372036854775807) : zig n < 18446744073709551616 := by unfold zig; split <;> omega
theorem zag_zig (n : Int) : zag (zig n) = n := by unfold zag zig; split <;> split <;> omega
theorem zig_zag {u : Int} (h : 0 ≤ u) : zig (zag u) = u := by unfold zag zig; split <;> split <;> omega
theorem zag_lo {u : Int} (h0 : 0 ≤ u) (h1 : u < 18446744073709551616) : -9223372036854775808 ≤ zag u ∧ zag u ≤ 9223372036854775807 := by unfold zag; split <;> omega

theorem xor0 (k : IntKind) (x : Int) (hx : k.wrap (BitVec.ofInt k.bits x).toNat = x) : Go.bits .xor k x 0 = x := by
  simp only [Go.bits]
  rw [show BitVec.ofInt k.bits 0 = 0#k.bits from rfl, BitVec.xor_zero, hx]
theorem wrapU64_toNat {x : Int} (h0 : 0 ≤ x) (h1 : x < 18446744073709551616) : IntKind.u64.wrap (BitVec.ofInt IntKind.u64.bits x).toNat = x := by
  rw [BitVec.toNat_ofInt, u64_wrap, show ((2 ^ IntKind.u64.bits : Nat) : Int) = 18446744073709551616 from rfl]
  omega
theorem wrapI64_toNat {x : Int} (h0 : -9223372036854775808 ≤ x) (h1 : x ≤ 9223372036854775807) : IntKind.i64.wrap (BitVec.ofInt IntKind.i64.bits x).toNat = x := by
  rw [BitVec.toNat_ofInt, IntKind.wrap_i64, show ((2 ^ IntKind.i64.bits : Nat) : Int) = 18446744073709551616 from rfl]
  omega
theorem xorU_ones {x : Int} (h0 : 0 ≤ x) (h1 : x < 18446744073709551616) : Go.bits .xor .u64 x 18446744073709551615 = 18446744073709551615 - x := by
  simp only [Go.bits]
  rw [show BitVec.ofInt IntKind.u64.bits 18446744073709551615 = BitVec.allOnes 64 from (by decide +kernel : BitVec.ofInt 64 18446744073709551615 = BitVec.allOnes 64)]
  show IntKind.u64.wrap ((((BitVec.ofInt 64 x) ^^^ BitVec.allOnes 64 : BitVec 64)).toNat : Int) = _
  rw [BitVec.xor_allOnes, BitVec.toNat_not, BitVec.toNat_ofInt, u64_wrap]
  omega
theorem xorI_ones {x : Int} (h0 : -9223372036854775808 ≤ x) (h1 : x ≤ 9223372036854775807) : Go.bits .xor .i64 x (-1) = -x - 1 := by
  simp only [Go.bits]
  rw [show BitVec.ofInt IntKind.i64.bits (-1) = BitVec.allOnes 64 from (by decide +kernel : BitVec.ofInt 64 (-1) = BitVec.allOnes 64)]
  show IntKind.i64.wrap ((((BitVec.ofInt 64 x) ^^^ BitVec.allOnes 64 : BitVec 64)).toNat : Int) = _
  rw [BitVec.xor_allOnes, BitVec.toNat_not, BitVec.toNat_ofInt, IntKind.wrap_i64]
  omega
theorem and_one {u : Int} (h0 : 0 ≤ u) (h1 : u < 18446744073709551616) : Go.bits .and .u64 u 1 = u % 2 := by
  have := bits_mask .u64 64 (by decide) (fun n h0 h1 => u64_id h0 (by simpa using h1)) 1 (by decide) u h0 (by simpa using h1)
  simpa using this
/-- As the machine has it. -/
theorem zig_eq {n : Int} (h0 : -9223372036854775808 ≤ n) (h1 : n ≤ 9223372036854775807) : Go.bits .xor .u64 (IntKind.u64.wrap (wrap64 (n * 2))) (IntKind.u64.wrap (n / 9223372036854775808)) = zig n := by
  have e : IntKind.u64.wrap (wrap64 (n * 2)) = (n * 2) % 18446744073709551616 := by rw [u64_wrap]; unfold wrap64; omega
  rw [e, u64_wrap]
  by_cases h : n < 0
  · rw [show n / 9223372036854775808 % 18446744073709551616 = 18446744073709551615 by omega, xorU_ones (by omega) (by omega)]
    unfold zig; rw [if_pos h]; omega
  · rw [show n / 9223372036854775808 % 18446744073709551616 = 0 by omega, xor0 _ _ (wrapU64_toNat (by omega) (by omega))]
    unfold zig; rw [if_neg h]; omega
theorem zag_eq {u : Int} (h0 : 0 ≤ u) (h1 : u < 18446744073709551616) : Go.bits .xor .i64 (wrap64 (u / 2)) (wrap64 (-(wrap64 (Go.bits .and .u64 u 1)))) = zag u := by
  rw [and_one h0 h1, w64 (x := u / 2) (by omega) (by omega), w64 (x := u % 2) (by omega) (by omega), w64 (by omega) (by omega)]
  unfold zag
  by_cases h : u % 2 = 1
  · rw [if_pos h, h, xorI_ones (by omega) (by omega)]
  · rw [if_neg h, show u % 2 = 0 by omega, show -(0 : Int) = 0 from rfl, xor0 _ _ (wrapI64_toNat (by omega) (by omega))]

theorem readNum_u64 {b : List Int} (hb : ∀ x ∈ b, 0 ≤ x ∧ x ≤ 255) (p : Int) : 0 ≤ (readNum b p).1 ∧ (readNum b p).1 < 18446744073709551616 := by
  unfold readNum
  by_cases h : p < 0 ∨ p > b.length
  · rw [if_pos h]; simp
  · rw [if_neg h]
    simp only [fin]
    rcases getL_once (b.drop p.toNat) (fun x hx => hb x (List.mem_of_mem_drop hx)) 0 0 (by omega) (by omega) (by decide) with g | g | ⟨n, _, _, g, g2, _⟩
    · rw [g]; simp
    · rw [g]; simp
    · rw [g]
      have : 0 ≤ (n : Int) * 2 ^ (7 * 0) := Int.mul_nonneg (by omega) (by decide)
      exact ⟨by simp only []; omega, g2⟩
/-- A number is read again, whatever stands ahead and behind. -/
theorem readNum_at (a r : List Int) (n : Nat) (hn : n < 18446744073709551616) : readNum (a ++ (put n ++ r)) (a.length : Int) = ((n : Int), (a.length : Int) + ((put n).length : Int), 0) := by
  unfold readNum
  rw [if_neg (by simp; omega), Int.toNat_natCast, List.drop_left, getL_put n 0 0 r (by omega) (by simp; omega) (by omega)]
  simp [fin]
theorem readNum_short (n : Nat) (hn : n < 18446744073709551616) (j : Nat) (hj : j < (put n).length) : readNum ((put n).take j) 0 = (0, 0, 10) := by
  unfold readNum
  rw [if_neg (by omega), Int.toNat_zero, List.drop_zero, getL_short n 0 0 j (by omega) (by simp; omega) (by omega) hj]
  simp [fin]
def readInt (b : List Int) (p : Int) : Int × Int × Int := (zag (readNum b p).1, (readNum b p).2.1, (readNum b p).2.2)

/-! So many bytes. -/
def dig (n : Int) (i : Nat) : Int := n / 2 ^ (8 * i) % 256
def fixed (n s : Int) : List Int := if s < 1 ∨ s > 8 then [] else (List.range s.toNat).map (dig n)
theorem shr_byte (n : Int) (i : Nat) (hi : i ≤ 8) : (shr .u64 n (8 * (i : Int))) % 256 = dig n i := by
  unfold shr dig
  rw [show min (8 * (i : Int)).toNat IntKind.u64.bits = 8 * i by show min (8 * (i : Int)).toNat 64 = 8 * i; omega]
theorem dig_byte (n : Int) (i : Nat) : 0 ≤ dig n i ∧ dig n i ≤ 255 := by unfold dig; omega
theorem dig_succ (n : Int) (i : Nat) : dig n (i + 1) = dig (n / 256) i := by
  unfold dig
  rw [Nat.mul_add, Int.pow_add, show (2 : Int) ^ (8 * 1) = 256 by decide, Int.mul_comm, Int.ediv_ediv_of_nonneg (by decide)]
theorem fixed_bytes (n s : Int) : ∀ x ∈ fixed n s, 0 ≤ x ∧ x ≤ 255 := by
  intro x hx
  unfold fixed at hx
  split at hx
  · simp at hx
  · obtain ⟨i, _, rfl⟩ := List.mem_map.mp hx
    exact dig_byte n i
theorem fixed_len {n s : Int} (h0 : 0 ≤ s) (h1 : s ≤ 8) : ((fixed n s).length : Int) = s := by
  unfold fixed
  split
  · simp; omega
  · simp; omega
/-- A number out of its bytes. -/
def le : List Int → Int
  | [] => 0
  | c :: l => c + 256 * le l
theorem le_cons (c : Int) (l : List Int) : le (c :: l) = c + 256 * le l := rfl
theorem le_digs : ∀ (s : Nat) (n : Int), le ((List.range s).map (dig n)) = n % 2 ^ (8 * s)
  | 0, n => by simp [le]
  | s + 1, n => by
    rw [List.range_succ_eq_map, List.map_cons, List.map_map, le_cons]
    have e : (dig n ∘ Nat.succ) = dig (n / 256) := by funext i; exact dig_succ n i
    rw [e, le_digs s (n / 256)]
    have h0 : dig n 0 = n % 256 := by unfold dig; simp
    rw [h0, Nat.mul_add, Int.pow_add, show (2 : Int) ^ (8 * 1) = 256 by decide, Int.mul_comm (2 ^ (8 * s)) 256]
    have hp : (0 : Int) < 2 ^ (8 * s) := by
      have h2 : 0 < 2 ^ (8 * s) := Nat.two_pow_pos _
      exact_mod_cast h2
    generalize (2 : Int) ^ (8 * s) = m at *
    have h1 := Int.emod_add_mul_ediv (n / 256) m
    have h3 := Int.emod_nonneg (n / 256) (Int.ne_of_gt hp)
    have h4 := Int.emod_lt_of_pos (n / 256) hp
    have h5 : n = (n % 256 + 256 * (n / 256 % m)) + (256 * m) * (n / 256 / m) := by
      rw [Int.mul_assoc]; omega
    have h6 : 256 * (n / 256 % m) + 256 ≤ 256 * m := by omega
    generalize hu : n % 256 + 256 * (n / 256 % m) = u at *
    rw [h5, Int.add_mul_emod_self_left, Int.emod_eq_of_lt (by omega) (by omega)]
theorem pow8_pos (i : Nat) : (0 : Int) < 2 ^ (8 * i) := by
  have h2 : 0 < 2 ^ (8 * i) := Nat.two_pow_pos _
  exact_mod_cast h2
theorem pow8_succ (i : Nat) : (2 : Int) ^ (8 * (i + 1)) = 256 * 2 ^ (8 * i) := by
  rw [Nat.mul_add, Int.pow_add]; omega
theorem pow8 {i : Nat} (h : i ≤ 7) : (2 : Int) ^ (8 * i) ≤ 72057594037927936 := by
  have : (2 : Int) ^ (8 * i) ≤ 2 ^ 56 := by
    have h2 : 2 ^ (8 * i) ≤ 2 ^ 56 := Nat.pow_le_pow_right (by decide) (by omega)
    exact_mod_cast h2
  simpa using this
theorem add_eight {i : Nat} (hi : i ≤ 7) {a c : Int} (ha : 0 ≤ a) (ha1 : a < 2 ^ (8 * i)) (hc : 0 ≤ c) (hc1 : c ≤ 255) :
    Go.bits .or .u64 a (shl .u64 (IntKind.u64.wrap c) (8 * (i : Int))) = a + c * 2 ^ (8 * i) := by
  have hp := pow8 hi
  have hp0 := pow8_pos i
  have hlt : c * 2 ^ (8 * i) ≤ 255 * 2 ^ (8 * i) := Int.mul_le_mul_of_nonneg_right (by omega) (by omega)
  have hnn : 0 ≤ c * 2 ^ (8 * i) := Int.mul_nonneg hc (by omega)
  unfold shl
  rw [u64_id hc (by omega), show min (8 * (i : Int)).toNat IntKind.u64.bits = 8 * i by show min (8 * (i : Int)).toNat 64 = 8 * i; omega, u64_id hnn (by omega)]
  exact or_u64 (8 * i) _ _ hnn (Int.mul_emod_left _ _) (by omega) ha ha1 (by omega)
def wide (b : List Int) (p s : Int) : Int × Int × Int :=
  if s < 1 ∨ s > 8 ∨ p < 0 ∨ p > b.length then (0, 0, 2) else if s > (b.length : Int) - p then (0, 0, 10) else (le ((b.drop p.toNat).take s.toNat), p + s, 0)
theorem fixed_nat (n : Int) (t : Nat) (ht : t ≤ 8) : fixed n (t : Int) = (List.range t).map (dig n) := by
  unfold fixed
  by_cases h : t = 0
  · subst h; rfl
  · rw [if_neg (by omega), Int.toNat_natCast]
theorem fixed_take (n : Int) (t : Nat) (ht : t ≤ 7) : (fixed n 8).take t = fixed n (t : Int) := by
  rw [fixed_nat n t (by omega), show (8 : Int) = ((8 : Nat) : Int) from rfl, fixed_nat n 8 (by omega), ← List.map_take, List.take_range, Nat.min_eq_left (by omega)]
theorem wide_fixed (n : Int) (t : Nat) (ht : t ≤ 7) : wide (fixed n (t : Int)) 0 (t : Int) = if (t : Int) = 0 then (0, 0, 2) else (n % 2 ^ (8 * t), (t : Int), 0) := by
  unfold wide
  by_cases h : t = 0
  · subst h; rfl
  · have hl : (fixed n (t : Int)).length = t := by rw [fixed_nat n t (by omega)]; simp
    rw [if_neg (by omega), if_neg (by omega), if_neg (by omega), Int.toNat_zero, Int.toNat_natCast, List.drop_zero, List.take_of_length_le (by omega), fixed_nat n t (by omega), le_digs]
    simp
theorem wide_at (a r : List Int) {n : Int} (h0 : 0 ≤ n) (h1 : n < 18446744073709551616) : wide (a ++ (fixed n 8 ++ r)) (a.length : Int) 8 = (n, (a.length : Int) + 8, 0) := by
  have hl := fixed_len (n := n) (s := 8) (by omega) (by omega)
  unfold wide
  rw [if_neg (by simp; omega), if_neg (by simp; omega), Int.toNat_natCast, List.drop_left, List.take_left' (by omega)]
  have : le (fixed n 8) = n := by
    unfold fixed
    rw [if_neg (by omega), le_digs]
    exact Int.emod_eq_of_lt h0 (by rw [show (2 : Int) ^ (8 * (8 : Int).toNat) = 18446744073709551616 by decide]; exact h1)
  rw [this]
end Go.Proofs.Ytclmnipllboekaa.Plain
