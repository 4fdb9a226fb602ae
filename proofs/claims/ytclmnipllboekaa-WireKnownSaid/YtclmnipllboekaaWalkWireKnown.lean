/- WireKnown: the walk typed by hand over the printed functions. Under no conditions beyond the statement's own. -/
import Derived.Test.YtclmnipllboekaaPWireKnownx2
import Derived.Test.YtclmnipllboekaaPlainInt
import Derived.Test.YtclmnipllboekaaPlainSum
import Derived.Outline
import Derived.Deep.RegionWith
import Derived.Lib.SlBytesConst
import Derived.Test.YtclmnipllboekaaSwitch
set_option linter.unusedSimpArgs false
set_option linter.unusedVariables false
namespace Go.Proofs.Ytclmnipllboekaa.WalkWireKnown
open Go.RowKit Go.Proofs.Ytclmnipllboekaa.PWireKnown Go.Proofs.YtclmnipllboekaaW.PrintWords Go.Proofs.YtclmnipllboekaaW.PrintLast Go.Proofs.YtclmnipllboekaaW.PrintMore Go.Proofs.Ytclmnipllboekaa.Plain
/-! wire_Put -/
theorem put_l0 (n : Nat) : ∀ (k : Nat) (xs : List Int), (put n).length ≤ k → xs.length + (put n).length ≤ 140737488355328 → wire_Put.l0 k n xs = some (xs ++ put n) := by
  induction n using Nat.strongRecOn with
  | ind n ih =>
    intro k xs hk hx
    have h1 := put_pos n
    obtain ⟨k, rfl⟩ : ∃ m, k = m + 1 := ⟨k - 1, by omega⟩
    by_cases c : n < 128
    · simp only [wire_Put.l0]
      rw [if_neg (by omega), if_pos (by omega), put_small c, show (n : Int) % 256 = n by omega]
    · have hp := put_more c
      have hl : (put n).length = (put (n / 128)).length + 1 := by rw [hp]; simp
      simp only [wire_Put.l0]
      rw [if_pos (by omega), if_pos (by omega), or128 (by omega) (by omega), show (n : Int) / 128 = ((n / 128 : Nat) : Int) by omega,
        ih (n / 128) (by omega) k _ (by omega) (by simp; omega), hp, show (n : Int) % 256 % 128 + 128 = ((n % 128 + 128 : Nat) : Int) by omega]
      simp
theorem put_f {n : Int} (h0 : 0 ≤ n) (h1 : n < 18446744073709551616) {k : Nat} (hk : 10 ≤ k) : wire_Put.f k n = some (put n.toNat) := by
  have hl := put_len10 (n := n.toNat) (by omega)
  unfold wire_Put.f
  have := put_l0 n.toNat k (List.replicate 0 0) (by omega) (by simp; omega)
  rw [Int.toNat_of_nonneg h0] at this
  simpa using this
/-! wire_Get -/
theorem get_l0 (b : List Int) (hb : ∀ x ∈ b, 0 ≤ x ∧ x ≤ 255) (hl : b.length ≤ 140737488355328) (p : Nat) : ∀ (d i k : Nat) (a : Int), p + i + d = b.length → i ≤ 9 → 0 ≤ a → a < 2 ^ (7 * i) → 2 * d < k →
    wire_Get.l0 k b p a ((b.length : Int) - p) i = some (fin p (getL (b.drop (p + i)) i a)) := by
  intro d
  induction d with
  | zero =>
    intro i k a hd hi ha ha1 hk
    obtain ⟨k, rfl⟩ : ∃ m, k = m + 1 := ⟨k - 1, by omega⟩
    rw [List.drop_eq_nil_of_le (by omega)]
    simp only [wire_Get.l0, getL, fin]
    rw [if_neg (by omega)]
    rfl
  | succ d ih =>
    intro i k a hd hi ha ha1 hk
    obtain ⟨k, rfl⟩ : ∃ m, k = m + 2 := ⟨k - 2, by omega⟩
    have hlt : p + i < b.length := by omega
    have hw : wrap64 ((p : Int) + i) = ((p + i : Nat) : Int) := by rw [w64 (by omega) (by omega)]; omega
    have hr := rd_nat b (p + i) hlt
    obtain ⟨hc0, hc1⟩ := hb b[p + i] (List.getElem_mem hlt)
    rw [List.drop_eq_getElem_cons hlt]
    generalize hc : b[p + i] = c at *
    simp only [wire_Get.l0, getL]
    rw [if_pos (by omega), hw, if_pos (by omega), if_pos (by omega), hr]
    have key : ∀ B : Bool, (B = true ↔ (i = 9 ∧ c > 1 ∨ i > 0 ∧ c = 0)) → wire_Get.j2 (k + 1) b p a i c ((b.length : Int) - p) i B =
        some (fin p (if i = 9 ∧ c > 1 ∨ i > 0 ∧ c = 0 then (0, 0, 11) else if c < 128 then (a + c * 2 ^ (7 * i), (i : Int) + 1, 0) else getL (List.drop (p + i + 1) b) (i + 1) (a + (c - 128) * 2 ^ (7 * i)))) := by
      intro B hB
      simp only [wire_Get.j2]
      by_cases h : i = 9 ∧ c > 1 ∨ i > 0 ∧ c = 0
      · rw [if_pos (hB.2 h), if_pos h]; rfl
      · rw [if_neg (fun e => h (hB.1 e)), if_neg h, w64 (x := 7 * (i : Int)) (by omega) (by omega), if_pos (by omega), and128 hc0 hc1, and127 hc0 hc1]
        by_cases h2 : c < 128
        · rw [if_pos h2, if_pos rfl, if_pos h2, add_seven hi ha ha1 (by omega) (by omega) (by omega), hw, w64 (by omega) (by omega), show c % 128 = c by omega]
          simp only [fin, if_true, Option.some.injEq, Prod.mk.injEq, true_and, and_true]
          omega
        · have h9 : i ≠ 9 := fun e => h (.inl ⟨e, by omega⟩)
          rw [if_neg h2, if_neg (by decide), if_neg h2, add_seven hi ha ha1 (by omega) (by omega) (by omega), w64 (x := (i : Int) + 1) (by omega) (by omega), show c % 128 = c - 128 by omega]
          have hpos := pow7_pos i
          have hx : (c - 128) * 2 ^ (7 * i) ≤ 127 * 2 ^ (7 * i) := Int.mul_le_mul_of_nonneg_right (by omega) (by omega)
          have hx0 : 0 ≤ (c - 128) * 2 ^ (7 * i) := Int.mul_nonneg (by omega) (by omega)
          have := ih (i + 1) k (a + (c - 128) * 2 ^ (7 * i)) (by omega) (by omega) (by omega) (by rw [pow7_succ]; omega) (by omega)
          rw [show ((i : Int) + 1) = ((i + 1 : Nat) : Int) by omega, this, Nat.add_assoc]
    by_cases e9 : (i : Int) = 9
    · rw [if_pos e9]
      by_cases g : c > 1
      · rw [if_pos g]; exact key true (by simp; omega)
      · rw [if_neg g]
        by_cases g0 : (i : Int) > 0
        · rw [if_pos g0]; exact key (c == 0) (by simp; omega)
        · rw [if_neg g0]; exact key false (by simp; omega)
    · rw [if_neg e9]
      by_cases g0 : (i : Int) > 0
      · rw [if_pos g0]; exact key (c == 0) (by simp; omega)
      · rw [if_neg g0]; exact key false (by simp; omega)
theorem get_f {b : List Int} (hb : ∀ x ∈ b, 0 ≤ x ∧ x ≤ 255) (hl : b.length ≤ 140737488355328) (p : Int) {k : Nat} (hk : 2 * b.length + 2 ≤ k) : wire_Get.f k b p = some (readNum b p) := by
  obtain ⟨k, rfl⟩ : ∃ m, k = m + 1 := ⟨k - 1, by omega⟩
  unfold wire_Get.f readNum
  simp only [wire_Get.j0]
  by_cases h0 : p < 0
  · rw [if_pos h0, if_pos trivial, if_pos (.inl h0)]
  · rw [if_neg h0]
    by_cases h1 : p > b.length
    · rw [if_pos (by simp; omega), if_pos (.inr h1)]
    · rw [if_neg (by simp; omega), if_neg (by omega), w64 (by omega) (by omega)]
      obtain ⟨q, rfl⟩ := Int.eq_ofNat_of_zero_le (show 0 ≤ p by omega)
      have := get_l0 b hb hl q (b.length - q) 0 k 0 (by omega) (by omega) (by omega) (by decide) (by omega)
      simpa using this
/-! works -/
theorem works_f {k : Nat} (hk : 20 ≤ k) : trammellaw01_works.f k = some true := by
  have h1 : wire_Put.f k 300 = some [172, 2] := by
    rw [put_f (by omega) (by omega) (by omega)]
    rw [put_more (by decide), put_small (by decide)]
    rfl
  have h2 : wire_Get.f k [172, 2] 0 = some (300, 2, 0) := by
    rw [get_f (by simp) (by simp) 0 (by simp; omega)]
    rfl
  unfold trammellaw01_works.f
  rw [h1]; simp only [obind]
  rw [h2]; simp only [obind]
  rw [if_pos (show (strOfNums [172, 2]).toList = [172, 2] from by decide +kernel)]
  rfl
/-! wire_PutInt, wire_GetInt -/
theorem putInt_f {n : Int} (h0 : -9223372036854775808 ≤ n) (h1 : n ≤ 9223372036854775807) {k : Nat} (hk : 10 ≤ k) : wire_PutInt.f k n = some (put (zig n).toNat) := by
  unfold wire_PutInt.f
  rw [zig_eq h0 h1, put_f (zig_lo n) (zig_hi h0 h1) hk]
  rfl
theorem getInt_f {b : List Int} (hb : ∀ x ∈ b, 0 ≤ x ∧ x ≤ 255) (hl : b.length ≤ 140737488355328) (p : Int) {k : Nat} (hk : 2 * b.length + 2 ≤ k) : wire_GetInt.f k b p = some (readInt b p) := by
  unfold wire_GetInt.f
  rw [get_f hb hl p hk]
  have h := readNum_u64 hb p
  simp only [obind, readInt]
  rw [zag_eq h.1 h.2]
/-! wire_Fixed -/
theorem fixed_l0 (n : Int) (s : Nat) (hs : s ≤ 8) : ∀ (d i k : Nat), i + d = s → d < k → wire_Fixed.l0 k n ((List.range i).map (dig n) ++ List.replicate d 0) s i = some ((List.range s).map (dig n)) := by
  intro d
  induction d with
  | zero =>
    intro i k hd hk
    obtain ⟨k, rfl⟩ : ∃ m, k = m + 1 := ⟨k - 1, by omega⟩
    obtain rfl : i = s := by omega
    simp only [wire_Fixed.l0]
    rw [if_neg (by omega)]
    simp
  | succ d ih =>
    intro i k hd hk
    obtain ⟨k, rfl⟩ : ∃ m, k = m + 1 := ⟨k - 1, by omega⟩
    simp only [wire_Fixed.l0]
    have hlen : ((List.range i).map (dig n) ++ List.replicate (d + 1) 0).length = s := by simp; omega
    rw [if_pos (by omega), w64 (x := 8 * (i : Int)) (by omega) (by omega), if_pos (by omega), if_pos (by omega), if_pos (by rw [hlen]; omega), w64 (by omega) (by omega), shr_byte n i (by omega)]
    have e : ((List.range i).map (dig n) ++ List.replicate (d + 1) 0).set ((i : Int)).toNat (dig n i) = (List.range (i + 1)).map (dig n) ++ List.replicate d 0 := by
      rw [Int.toNat_natCast, List.set_append_right _ _ (by simp)]
      simp [List.range_succ, List.replicate_succ]
    rw [e, show (i : Int) + 1 = ((i + 1 : Nat) : Int) by omega]
    exact ih (i + 1) k (by omega) (by omega)
theorem fixed_f {n : Int} (s : Int) {k : Nat} (hk : 12 ≤ k) : wire_Fixed.f k n s = some (fixed n s) := by
  obtain ⟨k, rfl⟩ : ∃ m, k = m + 1 := ⟨k - 1, by omega⟩
  unfold wire_Fixed.f fixed
  simp only [wire_Fixed.j0]
  by_cases h1 : s < 1
  · rw [if_pos h1, if_pos trivial, if_pos (.inl h1)]
  · rw [if_neg h1]
    by_cases h2 : s > 8
    · rw [if_pos (by simpa using h2), if_pos (.inr h2)]
    · rw [if_neg (by simpa using h2), if_pos (by omega), if_pos (by omega), if_neg (by omega)]
      obtain ⟨t, rfl⟩ := Int.eq_ofNat_of_zero_le (show 0 ≤ s by omega)
      have := fixed_l0 n t (by omega) t 0 k (by omega) (by omega)
      simpa using this
/-! wire_Wide -/
theorem wide_l0 (b : List Int) (hb : ∀ x ∈ b, 0 ≤ x ∧ x ≤ 255) (hl : b.length ≤ 140737488355328) (p s : Nat) (hs : s ≤ 8) (hps : p + s ≤ b.length) : ∀ (d i k : Nat) (a : Int), i + d = s → 0 ≤ a → a < 2 ^ (8 * i) → d < k →
    wire_Wide.l0 k b p s a s i = some (a + le ((b.drop (p + i)).take d) * 2 ^ (8 * i), (p : Int) + s, 0) := by
  intro d
  induction d with
  | zero =>
    intro i k a hd ha ha1 hk
    obtain ⟨k, rfl⟩ : ∃ m, k = m + 1 := ⟨k - 1, by omega⟩
    simp only [wire_Wide.l0]
    rw [if_neg (by omega), w64 (by omega) (by omega)]
    simp [le]
  | succ d ih =>
    intro i k a hd ha ha1 hk
    obtain ⟨k, rfl⟩ : ∃ m, k = m + 1 := ⟨k - 1, by omega⟩
    have hlt : p + i < b.length := by omega
    obtain ⟨hc0, hc1⟩ := hb b[p + i] (List.getElem_mem hlt)
    simp only [wire_Wide.l0]
    rw [if_pos (by omega), w64 (x := (p : Int) + i) (by omega) (by omega), show (p : Int) + i = ((p + i : Nat) : Int) by omega, if_pos (by omega), if_pos (by omega), rd_nat b (p + i) hlt,
      w64 (x := 8 * (i : Int)) (by omega) (by omega), if_pos (by omega), w64 (by omega) (by omega), add_eight (show i ≤ 7 by omega) ha ha1 hc0 hc1, show (i : Int) + 1 = ((i + 1 : Nat) : Int) by omega]
    have hp := pow8_pos i
    have hx : b[p + i] * 2 ^ (8 * i) ≤ 255 * 2 ^ (8 * i) := Int.mul_le_mul_of_nonneg_right (by omega) (by omega)
    have hx0 : 0 ≤ b[p + i] * 2 ^ (8 * i) := Int.mul_nonneg (by omega) (by omega)
    rw [ih (i + 1) k _ (by omega) (by omega) (by rw [pow8_succ]; omega) (by omega)]
    rw [List.drop_eq_getElem_cons hlt, List.take_succ_cons, le_cons, pow8_succ]
    generalize b[p + i] = c
    rw [show p + (i + 1) = p + i + 1 by omega]
    generalize le (List.take d (List.drop (p + i + 1) b)) = u
    simp only [Option.some.injEq, Prod.mk.injEq, and_true]
    rw [Int.add_mul, Int.mul_assoc 256, ← Int.mul_assoc u, Int.mul_comm u 256, Int.mul_assoc 256]
    omega
theorem wide_f {b : List Int} (hb : ∀ x ∈ b, 0 ≤ x ∧ x ≤ 255) (hl : b.length ≤ 140737488355328) (p s : Int) {k : Nat} (hk : 12 ≤ k) : wire_Wide.f k b p s = some (wide b p s) := by
  obtain ⟨k, rfl⟩ : ∃ m, k = m + 1 := ⟨k - 1, by omega⟩
  unfold wire_Wide.f wide
  simp only [wire_Wide.j0]
  by_cases h1 : s < 1
  · rw [if_pos h1, if_pos (by simpa using h1), if_pos (.inl h1)]
  · rw [if_neg h1]
    by_cases h2 : s > 8
    · rw [if_pos h2, if_pos (by simpa using h2), if_pos (.inr (.inl h2))]
    · rw [if_neg h2]
      by_cases h3 : p < 0
      · rw [if_pos h3, if_pos (by simpa using h3), if_pos (.inr (.inr (.inl h3)))]
      · rw [if_neg h3]
        by_cases h4 : p > b.length
        · rw [if_pos (by simpa using h4), if_pos (.inr (.inr (.inr h4)))]
        · rw [if_neg (by simpa using h4), w64 (by omega) (by omega), if_neg (show ¬ (s < 1 ∨ s > 8 ∨ p < 0 ∨ p > (b.length : Int)) by omega)]
          by_cases h5 : s > (b.length : Int) - p
          · rw [if_pos h5, if_pos h5]
          · rw [if_neg h5, if_neg h5]
            obtain ⟨q, rfl⟩ := Int.eq_ofNat_of_zero_le (show 0 ≤ p by omega)
            obtain ⟨t, rfl⟩ := Int.eq_ofNat_of_zero_le (show 0 ≤ s by omega)
            have := wide_l0 b hb hl q t (by omega) (by omega) t 0 k 0 (by omega) (by omega) (by decide) (by omega)
            simpa using this
/-! wire_Sum -/
theorem sum_l1 (xs : List Int) (n i : Int) (hi : wrap64 (i + 1) = i + 1) : ∀ (d k : Nat) (s : BitVec 32), d ≤ 8 → wire_Sum.l1 (k + d + 1) (s.toNat : Int) xs n i (8 - (d : Int)) = wire_Sum.l0 k ((stps d s).toNat : Int) xs n (i + 1) := by
  intro d
  induction d with
  | zero =>
    intro k s _
    simp only [wire_Sum.l1, stps]
    rw [if_neg (by omega), hi]
  | succ d ih =>
    intro k s hd
    rw [show k + (d + 1) + 1 = (k + d + 1) + 1 by omega]
    simp only [wire_Sum.l1, stps]
    rw [if_pos (by omega), w64 (by omega) (by omega), bv_step, show (8 : Int) - ((d + 1 : Nat) : Int) + 1 = 8 - (d : Int) by omega]
    exact ih k (stp s) (by omega)
theorem sum_l0 (xs : List Int) (hb : ∀ x ∈ xs, 0 ≤ x ∧ x ≤ 255) (hl : xs.length ≤ 140737488355328) : ∀ (d i k : Nat) (s : BitVec 32), i + d = xs.length → 10 * d < k →
    wire_Sum.l0 k (s.toNat : Int) xs (xs.length : Int) i = some ((~~~ crc s (xs.drop i)).toNat : Int) := by
  intro d
  induction d with
  | zero =>
    intro i k s hd hk
    obtain ⟨k, rfl⟩ : ∃ m, k = m + 1 := ⟨k - 1, by omega⟩
    simp only [wire_Sum.l0]
    rw [if_neg (by omega), List.drop_eq_nil_of_le (by omega), bv_not]
    rfl
  | succ d ih =>
    intro i k s hd hk
    obtain ⟨k, rfl⟩ : ∃ m, k = (m + 8 + 1) + 1 := ⟨k - 10, by omega⟩
    have hlt : i < xs.length := by omega
    obtain ⟨h0, h1⟩ := hb xs[i] (List.getElem_mem hlt)
    have hr := rd_nat xs i hlt
    simp only [wire_Sum.l0]
    rw [if_pos (by omega), if_pos (by omega), if_pos (by omega), hr, bv_in s h0 h1]
    have h2 := sum_l1 xs (xs.length : Int) (i : Int) (by rw [w64 (by omega) (by omega)]) 8 k (s ^^^ BitVec.ofInt 32 xs[i]) (by omega)
    rw [show (8 : Int) - ((8 : Nat) : Int) = 0 by omega] at h2
    rw [h2, show (i : Int) + 1 = ((i + 1 : Nat) : Int) by omega, ih (i + 1) k _ (by omega) (by omega)]
    rw [List.drop_eq_getElem_cons hlt]
    rfl
theorem sum_f {xs : List Int} (hb : ∀ x ∈ xs, 0 ≤ x ∧ x ≤ 255) (hl : xs.length ≤ 140737488355328) {k : Nat} (hk : 10 * xs.length < k) : wire_Sum.f k xs = some (sumOf xs) := by
  unfold wire_Sum.f
  have := sum_l0 xs hb hl xs.length 0 k 4294967295#32 (by omega) hk
  simpa [sumOf] using this
theorem read_cases {b : List Int} (hb : ∀ x ∈ b, 0 ≤ x ∧ x ≤ 255) (p : Int) : (∃ e, e ≠ 0 ∧ readNum b p = (0, 0, e)) ∨ ∃ q n : Nat, p = q ∧ q + (put n).length ≤ b.length ∧ (b.drop q).take (put n).length = put n ∧ readNum b p = ((n : Int), p + ((put n).length : Int), 0) ∧ n < 18446744073709551616 := by
  unfold readNum
  by_cases h : p < 0 ∨ p > b.length
  · rw [if_pos h]; exact .inl ⟨2, by decide, rfl⟩
  · rw [if_neg h]
    obtain ⟨q, rfl⟩ := Int.eq_ofNat_of_zero_le (show 0 ≤ p by omega)
    rw [Int.toNat_natCast]
    rcases getL_once (b.drop q) (fun x hx => hb x (List.mem_of_mem_drop hx)) 0 0 (by omega) (by omega) (by decide) with g | g | ⟨n, hl, ht, g, g2, _⟩
    · rw [g]; exact .inl ⟨10, by decide, rfl⟩
    · rw [g]; exact .inl ⟨11, by decide, rfl⟩
    · rw [g]
      have := put_pos n
      rw [List.length_drop] at hl
      simp only [Nat.mul_zero, Int.pow_zero, Int.mul_one, Int.zero_add] at g2
      refine .inr ⟨q, n, rfl, by omega, ht, ?_, by omega⟩
      simp [fin]
/-! The callees, by what they answer. Bytes that are handed back: a slice that reads as they are, in memory of the call's own. -/
abbrev Rd (W : World) (A : Option Addr) (xs : List Int) : Prop := Kd.C (Kd.int .u8) W A xs.length xs
def Bytes (xs : List Int) (w : World) (e : Ending) (w' : World) : Prop := ∃ A c, e = .returned (.slice A xs.length c) ∧ xs.length ≤ c ∧ Rd w' A xs ∧ Below w.heap.size w w'
theorem bytes_of {xs : List Int} {w : World} {e : Ending} {w' : World} (h : ∃ v0_ : Value, e = .returned (v0_) ∧ Kd.R (Kd.int .u8) 5 w' w.heap.size (fun _ => True) v0_ xs ∧ Below w.heap.size w w') : Bytes xs w e w' := by
  obtain ⟨v, rfl, hR, hb⟩ := h
  obtain ⟨A, c, rfl⟩ := Kd.R_slice hR
  obtain ⟨_, hc, hC⟩ := Kd.R_reads' hR
  exact ⟨A, c, rfl, hc, hC, hb⟩
/-- The string of bytes that are read, whatever has been made or drawn since. -/
theorem str_c {w W : World} {A : Option Addr} {xs : List Int} (c : Nat) (h : Rd w A xs) (hb : Below w.heap.size w W) : (convert 22 9 (.slice A xs.length c)).run Try.prog W = .ok (.string (strOfNums xs)) W :=
  Kd.C_string Try.underlying22 Try.underlying5 Try.underlying9 (Kd.C_below h hb)
theorem put_c {n : Int} (h0 : 0 ≤ n) (h1 : n < 18446744073709551616) (w : World) : Calls Try.prog 13 #[.int .u64 n] w (Bytes (put n.toNat) w) :=
  (wire_Put.calls 12 n _ w (put_f h0 h1 (by decide))).mono fun _ _ h => bytes_of h
theorem works_c (w : World) : Calls Try.prog 10 #[] w fun e w' => e = .returned (.bool true) ∧ Below w.heap.size w w' := trammellaw01_works.calls 20 true w (works_f (by decide))
theorem get_c {b : List Int} (hb : ∀ x ∈ b, 0 ≤ x ∧ x ≤ 255) (hl : b.length ≤ 140737488355328) (p : Int) (A : Option Addr) (c : Nat) (hc : b.length ≤ c) (w : World) (h : Rd w A b) :
    Calls Try.prog 11 #[.slice A b.length c, .int .i64 p] w fun e w' => e = .returned (.tuple #[.int .u64 (readNum b p).1, .int .i64 (readNum b p).2.1, .int .i64 (readNum b p).2.2]) ∧ Drawn0 w w' :=
  wire_Get.calls (2 * b.length + 2) A c b p _ _ _ w h hc (get_f hb hl p (Nat.le_refl _))
theorem putInt_c {n : Int} (h0 : -9223372036854775808 ≤ n) (h1 : n ≤ 9223372036854775807) (w : World) : Calls Try.prog 14 #[.int .i64 n] w (Bytes (put (zig n).toNat) w) :=
  (wire_PutInt.calls 12 n _ w (putInt_f h0 h1 (by decide))).mono fun _ _ h => bytes_of h
theorem getInt_c {b : List Int} (hb : ∀ x ∈ b, 0 ≤ x ∧ x ≤ 255) (hl : b.length ≤ 140737488355328) (p : Int) (A : Option Addr) (c : Nat) (hc : b.length ≤ c) (w : World) (h : Rd w A b) :
    Calls Try.prog 12 #[.slice A b.length c, .int .i64 p] w fun e w' => e = .returned (.tuple #[.int .i64 (readInt b p).1, .int .i64 (readInt b p).2.1, .int .i64 (readInt b p).2.2]) ∧ Drawn0 w w' :=
  wire_GetInt.calls (2 * b.length + 2) A c b p _ _ _ w h hc (getInt_f hb hl p (Nat.le_refl _))
/-! wrong; literals -/
theorem rd_lit (W : World) (xs : List Int) (fz : Nat × Nat) (h : xs.length ≤ 1000) : Rd (W.alloc (.cells (nums .u8 xs).toArray 5 fz)) (some ⟨W.heap.size, 0, none⟩) xs := by
  refine Kd.C_of_reads (d := (0 : Int)) (h1 := fun _ => rfl) ⟨rfl, by omega, fun _ => ⟨_, rfl, fun j hj => ?_⟩⟩
  rw [add_plain, World.cell?_alloc_mark]
  simp [nums, List.getD_eq_getElem?_getD, hj]
theorem conv_c {s : ByteArray} {l : List Int} (hl : bytesOf s = l) (W : World) : (convert 9 22 (.string s)).run Try.prog W = .ok (.slice (some ⟨W.heap.size, 0, none⟩) l.length (grownCap W l.length 0 5)) (Lib.bytesWorld W 5 s) := by
  rw [← hl, bytesOf_length]
  exact print_bytes 9 22 5 Try.underlying9 Try.underlying22 Try.underlying5 s W
theorem conv_rd {s : ByteArray} {l : List Int} (hl : bytesOf s = l) (hn : l.length ≤ 1000) (W : World) : Rd (Lib.bytesWorld W 5 s) (some ⟨W.heap.size, 0, none⟩) l := by
  have h := bytes_reads W 5 s (by rw [← bytesOf_length, hl]; omega)
  rw [hl, ← bytesOf_length, hl] at h
  exact Kd.C_of_reads (d := (0 : Int)) (h1 := fun _ => rfl) h
set_option maxHeartbeats 4000000 in
set_option maxRecDepth 100000 in
theorem wrong_c {s : ByteArray} {l : List Int} (hl : bytesOf s = l) (hb : ∀ x ∈ l, 0 ≤ x ∧ x ≤ 255) (hn : l.length ≤ 1000) (p er : Int) (he : er ≠ 0) (hg : readNum l p = (0, 0, er)) (w : World) :
    Calls Try.prog 28 #[.string s, .int .i64 p, .int .i64 er] w fun e w' => e = .returned (.bool true) ∧ Below w.heap.size w w' := by
  have GC : ∀ A c W, l.length ≤ c → Rd W A l → Calls Try.prog 11 #[.slice A l.length c, .int .i64 p] W fun e w' => e = .returned (.tuple #[.int .u64 0, .int .i64 0, .int .i64 er]) ∧ Drawn0 W w' := fun A c W hc h => by
    have := get_c hb (by omega) p A c hc W h
    rwa [hg] at this
  have IC : ∀ A c W, l.length ≤ c → Rd W A l → Calls Try.prog 12 #[.slice A l.length c, .int .i64 p] W fun e w' => e = .returned (.tuple #[.int .i64 0, .int .i64 0, .int .i64 er]) ∧ Drawn0 W w' := fun A c W hc h => by
    have := getInt_c hb (by omega) p A c hc W h
    unfold readInt at this
    rw [hg] at this
    simpa [show zag 0 = 0 from by decide] using this
  have kb := conv_c hl
  have kr := conv_rd hl hn
  have KR := Aside0.mk kr
  have GA := Aside0.mk GC
  have IA := Aside0.mk IC
  have HL := Aside0.mk hl
  clear hl hb hn hg GC IC kr
  go_enter Try.func28, Try.ntmps28
  go_wp2_with (first
    | (go_at_call 11; refine (GA.out _ _ _ (grownCap_ge _ _ _ _) (KR.out _)).mono ?_; rintro e w' ⟨rfl, ⟨nd, rfl⟩⟩)
    | (go_at_call 12; refine (IA.out _ _ _ (grownCap_ge _ _ _ _) (KR.out _)).mono ?_; rintro e w' ⟨rfl, ⟨nd, rfl⟩⟩))
  go_ret
  exact ⟨by first | rfl | (simp; done), by repeat (first | (with_reducible first | exact Below.refl _ _ | apply pw_below_drewN | apply below_drew) | (refine bytes_below ?_ (below_size ?_) _ _))⟩
/-- Bytes that are handed back, by the string that they make. -/
def Str (n : Nat) (s : ByteArray) (w : World) (e : Ending) (w' : World) : Prop := ∃ A c, e = .returned (.slice A n c) ∧ (∀ W, Below w'.heap.size w' W → (convert 22 9 (.slice A n c)).run Try.prog W = .ok (.string s) W) ∧ Below w.heap.size w w'
theorem str_of {xs : List Int} {n : Nat} {s : ByteArray} (hn : xs.length = n) (hs : strOfNums xs = s) {w : World} {e : Ending} {w' : World} (h : Bytes xs w e w') : Str n s w e w' := by
  obtain ⟨A, c, rfl, hc, hr, hb⟩ := h
  subst hn hs
  exact ⟨A, c, rfl, fun W hW => str_c c hr hW, hb⟩
theorem fixed_c (n s : Int) (w : World) : Calls Try.prog 16 #[.int .u64 n, .int .i64 s] w (Bytes (fixed n s) w) :=
  (wire_Fixed.calls 12 n s _ w (fixed_f s (by decide))).mono fun _ _ h => bytes_of h
theorem bt : ∀ {l : List Int}, l.all (fun x => decide (0 ≤ x ∧ x ≤ 255)) = true → ∀ x ∈ l, 0 ≤ x ∧ x ≤ 255 := fun h x hx => of_decide_eq_true (List.all_eq_true.1 h x hx)
theorem kP0 (s0 : ByteArray) (h0 : strOfNums [0] = s0) : ∀ w, Calls Try.prog 13 #[.int .u64 0] w (Str 1 s0 w) := fun w => (put_c (n := 0) (by decide) (by decide) w).mono fun _ _ h => str_of (by decide +kernel) ((congrArg strOfNums (show put (Int.toNat 0) = [0] from by decide +kernel)).trans h0) h
theorem kP1 (s1 : ByteArray) (h1 : strOfNums [127] = s1) : ∀ w, Calls Try.prog 13 #[.int .u64 127] w (Str 1 s1 w) := fun w => (put_c (n := 127) (by decide) (by decide) w).mono fun _ _ h => str_of (by decide +kernel) ((congrArg strOfNums (show put (Int.toNat 127) = [127] from by decide +kernel)).trans h1) h
theorem kP2 (s2 : ByteArray) (h2 : strOfNums [128, 1] = s2) : ∀ w, Calls Try.prog 13 #[.int .u64 128] w (Str 2 s2 w) := fun w => (put_c (n := 128) (by decide) (by decide) w).mono fun _ _ h => str_of (by decide +kernel) ((congrArg strOfNums (show put (Int.toNat 128) = [128, 1] from by decide +kernel)).trans h2) h
theorem kQ0 (s0 : ByteArray) (h0 : strOfNums [0] = s0) : ∀ w, Calls Try.prog 14 #[.int .i64 0] w (Str 1 s0 w) := fun w => (putInt_c (n := 0) (by decide) (by decide) w).mono fun _ _ h => str_of (by decide +kernel) ((congrArg strOfNums (show put (zig 0).toNat = [0] from by decide +kernel)).trans h0) h
theorem kQ1 (s3 : ByteArray) (h3 : strOfNums [1] = s3) : ∀ w, Calls Try.prog 14 #[.int .i64 (-1)] w (Str 1 s3 w) := fun w => (putInt_c (n := (-1)) (by decide) (by decide) w).mono fun _ _ h => str_of (by decide +kernel) ((congrArg strOfNums (show put (zig (-1)).toNat = [1] from by decide +kernel)).trans h3) h
theorem kQ2 (s4 : ByteArray) (h4 : strOfNums [2] = s4) : ∀ w, Calls Try.prog 14 #[.int .i64 1] w (Str 1 s4 w) := fun w => (putInt_c (n := 1) (by decide) (by decide) w).mono fun _ _ h => str_of (by decide +kernel) ((congrArg strOfNums (show put (zig 1).toNat = [2] from by decide +kernel)).trans h4) h
theorem kQ3 (s1 : ByteArray) (h1 : strOfNums [127] = s1) : ∀ w, Calls Try.prog 14 #[.int .i64 (-64)] w (Str 1 s1 w) := fun w => (putInt_c (n := (-64)) (by decide) (by decide) w).mono fun _ _ h => str_of (by decide +kernel) ((congrArg strOfNums (show put (zig (-64)).toNat = [127] from by decide +kernel)).trans h1) h
theorem kQ4 (s2 : ByteArray) (h2 : strOfNums [128, 1] = s2) : ∀ w, Calls Try.prog 14 #[.int .i64 64] w (Str 2 s2 w) := fun w => (putInt_c (n := 64) (by decide) (by decide) w).mono fun _ _ h => str_of (by decide +kernel) ((congrArg strOfNums (show put (zig 64).toNat = [128, 1] from by decide +kernel)).trans h2) h
theorem kQ5 (s5 : ByteArray) (h5 : strOfNums [255, 255, 255, 255, 255, 255, 255, 255, 255, 1] = s5) : ∀ w, Calls Try.prog 14 #[.int .i64 (-9223372036854775808)] w (Str 10 s5 w) := fun w => (putInt_c (n := (-9223372036854775808)) (by decide) (by decide) w).mono fun _ _ h => str_of (by decide +kernel) ((congrArg strOfNums (show put (zig (-9223372036854775808)).toNat = [255, 255, 255, 255, 255, 255, 255, 255, 255, 1] from by decide +kernel)).trans h5) h
theorem kF0 (s6 : ByteArray) (h6 : strOfNums [2, 1] = s6) : ∀ w, Calls Try.prog 16 #[.int .u64 258, .int .i64 2] w (Str 2 s6 w) := fun w => (fixed_c 258 2 w).mono fun _ _ h => str_of (by decide +kernel) ((congrArg strOfNums (show fixed 258 2 = [2, 1] from by decide +kernel)).trans h6) h
theorem kF1 (s4 : ByteArray) (h4 : strOfNums [2] = s4) : ∀ w, Calls Try.prog 16 #[.int .u64 258, .int .i64 1] w (Str 1 s4 w) := fun w => (fixed_c 258 1 w).mono fun _ _ h => str_of (by decide +kernel) ((congrArg strOfNums (show fixed 258 1 = [2] from by decide +kernel)).trans h4) h
theorem kF2 (s7 : ByteArray) (h7 : strOfNums [] = s7) : ∀ w, Calls Try.prog 16 #[.int .u64 1, .int .i64 9] w (Str 0 s7 w) := fun w => (fixed_c 1 9 w).mono fun _ _ h => str_of (by decide +kernel) ((congrArg strOfNums (show fixed 1 9 = [] from by decide +kernel)).trans h7) h
theorem kF3 (s7 : ByteArray) (h7 : strOfNums [] = s7) : ∀ w, Calls Try.prog 16 #[.int .u64 1, .int .i64 0] w (Str 0 s7 w) := fun w => (fixed_c 1 0 w).mono fun _ _ h => str_of (by decide +kernel) ((congrArg strOfNums (show fixed 1 0 = [] from by decide +kernel)).trans h7) h
theorem kF4 (s7 : ByteArray) (h7 : strOfNums [] = s7) : ∀ w, Calls Try.prog 16 #[.int .u64 1, .int .i64 (-1)] w (Str 0 s7 w) := fun w => (fixed_c 1 (-1) w).mono fun _ _ h => str_of (by decide +kernel) ((congrArg strOfNums (show fixed 1 (-1) = [] from by decide +kernel)).trans h7) h
theorem kW0  : ∀ w, Calls Try.prog 28 #[.string ⟨#[128, 0]⟩, .int .i64 0, .int .i64 11] w fun e w' => e = .returned (.bool true) ∧ Below w.heap.size w w' := fun w => wrong_c (l := [128, 0]) (by decide +kernel) (bt (by decide +kernel)) (by decide) 0 11 (by decide) (by decide +kernel) w
theorem kW1  : ∀ w, Calls Try.prog 28 #[.string ⟨#[128]⟩, .int .i64 0, .int .i64 10] w fun e w' => e = .returned (.bool true) ∧ Below w.heap.size w w' := fun w => wrong_c (l := [128]) (by decide +kernel) (bt (by decide +kernel)) (by decide) 0 10 (by decide) (by decide +kernel) w
theorem kW2  : ∀ w, Calls Try.prog 28 #[.string ⟨#[]⟩, .int .i64 0, .int .i64 10] w fun e w' => e = .returned (.bool true) ∧ Below w.heap.size w w' := fun w => wrong_c (l := []) (by decide +kernel) (bt (by decide +kernel)) (by decide) 0 10 (by decide) (by decide +kernel) w
theorem kW3  : ∀ w, Calls Try.prog 28 #[.string ⟨#[5]⟩, .int .i64 1, .int .i64 10] w fun e w' => e = .returned (.bool true) ∧ Below w.heap.size w w' := fun w => wrong_c (l := [5]) (by decide +kernel) (bt (by decide +kernel)) (by decide) 1 10 (by decide) (by decide +kernel) w
theorem kW4  : ∀ w, Calls Try.prog 28 #[.string ⟨#[5]⟩, .int .i64 2, .int .i64 2] w fun e w' => e = .returned (.bool true) ∧ Below w.heap.size w w' := fun w => wrong_c (l := [5]) (by decide +kernel) (bt (by decide +kernel)) (by decide) 2 2 (by decide) (by decide +kernel) w
theorem kW5  : ∀ w, Calls Try.prog 28 #[.string ⟨#[5]⟩, .int .i64 (-1), .int .i64 2] w fun e w' => e = .returned (.bool true) ∧ Below w.heap.size w w' := fun w => wrong_c (l := [5]) (by decide +kernel) (bt (by decide +kernel)) (by decide) (-1) 2 (by decide) (by decide +kernel) w
theorem kW6  : ∀ w, Calls Try.prog 28 #[.string ⟨#[255, 255, 255, 255, 255, 255, 255, 255, 255, 2]⟩, .int .i64 0, .int .i64 11] w fun e w' => e = .returned (.bool true) ∧ Below w.heap.size w w' := fun w => wrong_c (l := [255, 255, 255, 255, 255, 255, 255, 255, 255, 2]) (by decide +kernel) (bt (by decide +kernel)) (by decide) 0 11 (by decide) (by decide +kernel) w
theorem kW7  : ∀ w, Calls Try.prog 28 #[.string ⟨#[255, 255, 255, 255, 255, 255, 255, 255, 255, 129]⟩, .int .i64 0, .int .i64 11] w fun e w' => e = .returned (.bool true) ∧ Below w.heap.size w w' := fun w => wrong_c (l := [255, 255, 255, 255, 255, 255, 255, 255, 255, 129]) (by decide +kernel) (bt (by decide +kernel)) (by decide) 0 11 (by decide) (by decide +kernel) w
theorem kW8  : ∀ w, Calls Try.prog 28 #[.string ⟨#[128, 128, 128, 128, 128, 128, 128, 128, 128, 0]⟩, .int .i64 0, .int .i64 11] w fun e w' => e = .returned (.bool true) ∧ Below w.heap.size w w' := fun w => wrong_c (l := [128, 128, 128, 128, 128, 128, 128, 128, 128, 0]) (by decide +kernel) (bt (by decide +kernel)) (by decide) 0 11 (by decide) (by decide +kernel) w
theorem kW9  : ∀ w, Calls Try.prog 28 #[.string ⟨#[255, 255, 255, 255, 255, 255, 255, 255, 255]⟩, .int .i64 0, .int .i64 10] w fun e w' => e = .returned (.bool true) ∧ Below w.heap.size w w' := fun w => wrong_c (l := [255, 255, 255, 255, 255, 255, 255, 255, 255]) (by decide +kernel) (bt (by decide +kernel)) (by decide) 0 10 (by decide) (by decide +kernel) w
theorem kG0  : ∀ (W : World) fz b, b = W.heap.size → Calls Try.prog 11 #[.slice (some ⟨b, 0, none⟩) 10 10, .int .i64 0] (W.alloc (.cells #[.int .u8 255, .int .u8 255, .int .u8 255, .int .u8 255, .int .u8 255, .int .u8 255, .int .u8 255, .int .u8 255, .int .u8 255, .int .u8 1] 5 fz)) fun e w' => e = .returned (.tuple #[.int .u64 18446744073709551615, .int .i64 10, .int .i64 0]) ∧ Drawn0 (W.alloc (.cells #[.int .u8 255, .int .u8 255, .int .u8 255, .int .u8 255, .int .u8 255, .int .u8 255, .int .u8 255, .int .u8 255, .int .u8 255, .int .u8 1] 5 fz)) w' := fun W fz b hb => by
    subst hb
    have := get_c (b := [255, 255, 255, 255, 255, 255, 255, 255, 255, 1]) (bt (by decide +kernel)) (by decide) 0 _ 10 (by decide) _ (rd_lit W [255, 255, 255, 255, 255, 255, 255, 255, 255, 1] fz (by decide))
    rwa [show readNum [255, 255, 255, 255, 255, 255, 255, 255, 255, 1] 0 = (18446744073709551615, 10, 0) from by decide +kernel] at this
theorem kV0  : ∀ (W : World) b, b = W.heap.size → Calls Try.prog 21 #[.slice (some ⟨b, 0, none⟩) 2 2, .int .i64 0, .int .i64 2] (W.alloc (.cells #[.int .u8 2, .int .u8 1] 5)) fun e w' => e = .returned (.tuple #[.int .u64 258, .int .i64 2, .int .i64 0]) ∧ Drawn0 (W.alloc (.cells #[.int .u8 2, .int .u8 1] 5)) w' := fun W b hb => hb ▸ wire_Wide.calls 12 _ _ [2, 1] 0 2 _ _ _ _ (rd_lit W [2, 1] (0, 0) (by decide)) (by decide) ((wide_f (bt (by decide +kernel)) (by decide) 0 2 (by decide)).trans (congrArg some (by decide +kernel)))
theorem kV1  : ∀ (W : World) b, b = W.heap.size → Calls Try.prog 21 #[.slice (some ⟨b, 0, none⟩) 1 1, .int .i64 0, .int .i64 2] (W.alloc (.cells #[.int .u8 2] 5)) fun e w' => e = .returned (.tuple #[.int .u64 0, .int .i64 0, .int .i64 10]) ∧ Drawn0 (W.alloc (.cells #[.int .u8 2] 5)) w' := fun W b hb => hb ▸ wire_Wide.calls 12 _ _ [2] 0 2 _ _ _ _ (rd_lit W [2] (0, 0) (by decide)) (by decide) ((wide_f (bt (by decide +kernel)) (by decide) 0 2 (by decide)).trans (congrArg some (by decide +kernel)))
theorem kV2  : ∀ (W : World) b, b = W.heap.size → Calls Try.prog 21 #[.slice (some ⟨b, 0, none⟩) 1 1, .int .i64 0, .int .i64 0] (W.alloc (.cells #[.int .u8 2] 5)) fun e w' => e = .returned (.tuple #[.int .u64 0, .int .i64 0, .int .i64 2]) ∧ Drawn0 (W.alloc (.cells #[.int .u8 2] 5)) w' := fun W b hb => hb ▸ wire_Wide.calls 12 _ _ [2] 0 0 _ _ _ _ (rd_lit W [2] (0, 0) (by decide)) (by decide) ((wide_f (bt (by decide +kernel)) (by decide) 0 0 (by decide)).trans (congrArg some (by decide +kernel)))
theorem kV3  : ∀ (W : World) b, b = W.heap.size → Calls Try.prog 21 #[.slice (some ⟨b, 0, none⟩) 1 1, .int .i64 1, .int .i64 1] (W.alloc (.cells #[.int .u8 2] 5)) fun e w' => e = .returned (.tuple #[.int .u64 0, .int .i64 0, .int .i64 10]) ∧ Drawn0 (W.alloc (.cells #[.int .u8 2] 5)) w' := fun W b hb => hb ▸ wire_Wide.calls 12 _ _ [2] 1 1 _ _ _ _ (rd_lit W [2] (0, 0) (by decide)) (by decide) ((wide_f (bt (by decide +kernel)) (by decide) 1 1 (by decide)).trans (congrArg some (by decide +kernel)))
theorem kV4  : ∀ (W : World) b, b = W.heap.size → Calls Try.prog 21 #[.slice (some ⟨b, 0, none⟩) 1 1, .int .i64 2, .int .i64 1] (W.alloc (.cells #[.int .u8 2] 5)) fun e w' => e = .returned (.tuple #[.int .u64 0, .int .i64 0, .int .i64 2]) ∧ Drawn0 (W.alloc (.cells #[.int .u8 2] 5)) w' := fun W b hb => hb ▸ wire_Wide.calls 12 _ _ [2] 2 1 _ _ _ _ (rd_lit W [2] (0, 0) (by decide)) (by decide) ((wide_f (bt (by decide +kernel)) (by decide) 2 1 (by decide)).trans (congrArg some (by decide +kernel)))
theorem kV5  : ∀ (W : World) b, b = W.heap.size → Calls Try.prog 21 #[.slice (some ⟨b, 0, none⟩) 1 1, .int .i64 0, .int .i64 9] (W.alloc (.cells #[.int .u8 2] 5)) fun e w' => e = .returned (.tuple #[.int .u64 0, .int .i64 0, .int .i64 2]) ∧ Drawn0 (W.alloc (.cells #[.int .u8 2] 5)) w' := fun W b hb => hb ▸ wire_Wide.calls 12 _ _ [2] 0 9 _ _ _ _ (rd_lit W [2] (0, 0) (by decide)) (by decide) ((wide_f (bt (by decide +kernel)) (by decide) 0 9 (by decide)).trans (congrArg some (by decide +kernel)))
theorem kS0  : ∀ (W : World), Calls Try.prog 15 #[.slice none 0 0] W fun e w' => e = .returned (.int .u32 0) ∧ Drawn0 W w' := fun W => wire_Sum.calls 12 none 0 [] _ W (Kd.C_of_reads (d := (0 : Int)) (h1 := fun _ => rfl) ⟨rfl, by decide, fun h => by cases h⟩) (Nat.le_refl _) ((sum_f (bt (by decide +kernel)) (by decide) (by decide)).trans (congrArg some (by decide +kernel)))
theorem kS1  : ∀ (W : World) fz b, b = W.heap.size → Calls Try.prog 15 #[.slice (some ⟨b, 0, none⟩) 9 9] (W.alloc (.cells #[.int .u8 49, .int .u8 50, .int .u8 51, .int .u8 52, .int .u8 53, .int .u8 54, .int .u8 55, .int .u8 56, .int .u8 57] 5 fz)) fun e w' => e = .returned (.int .u32 3421780262) ∧ Drawn0 (W.alloc (.cells #[.int .u8 49, .int .u8 50, .int .u8 51, .int .u8 52, .int .u8 53, .int .u8 54, .int .u8 55, .int .u8 56, .int .u8 57] 5 fz)) w' := fun W fz b hb => hb ▸ wire_Sum.calls 100 _ _ [49, 50, 51, 52, 53, 54, 55, 56, 57] _ _ (rd_lit W [49, 50, 51, 52, 53, 54, 55, 56, 57] fz (by decide)) (by decide) ((sum_f (bt (by decide +kernel)) (by decide) (by decide)).trans (congrArg some (by decide +kernel)))
set_option maxHeartbeats 8000000 in
set_option maxRecDepth 100000 in
theorem known (w : World) : Calls Try.prog 9 #[] w fun e w' => e = .returned (.bool true) ∧ Below w.heap.size w w' := by
  obtain ⟨s0, h0⟩ : ∃ s, strOfNums [0] = s := ⟨_, rfl⟩
  have f0 : (s0.toList == ([0] : List UInt8)) = true := by rw [← h0]; decide +kernel
  obtain ⟨s1, h1⟩ : ∃ s, strOfNums [127] = s := ⟨_, rfl⟩
  have f1 : (s1.toList == ([127] : List UInt8)) = true := by rw [← h1]; decide +kernel
  obtain ⟨s2, h2⟩ : ∃ s, strOfNums [128, 1] = s := ⟨_, rfl⟩
  have f2 : (s2.toList == ([128, 1] : List UInt8)) = true := by rw [← h2]; decide +kernel
  obtain ⟨s3, h3⟩ : ∃ s, strOfNums [1] = s := ⟨_, rfl⟩
  have f3 : (s3.toList == ([1] : List UInt8)) = true := by rw [← h3]; decide +kernel
  obtain ⟨s4, h4⟩ : ∃ s, strOfNums [2] = s := ⟨_, rfl⟩
  have f4 : (s4.toList == ([2] : List UInt8)) = true := by rw [← h4]; decide +kernel
  obtain ⟨s5, h5⟩ : ∃ s, strOfNums [255, 255, 255, 255, 255, 255, 255, 255, 255, 1] = s := ⟨_, rfl⟩
  have f5 : (s5.toList == ([255, 255, 255, 255, 255, 255, 255, 255, 255, 1] : List UInt8)) = true := by rw [← h5]; decide +kernel
  obtain ⟨s6, h6⟩ : ∃ s, strOfNums [2, 1] = s := ⟨_, rfl⟩
  have f6 : (s6.toList == ([2, 1] : List UInt8)) = true := by rw [← h6]; decide +kernel
  obtain ⟨s7, h7⟩ : ∃ s, strOfNums [] = s := ⟨_, rfl⟩
  have f7 : (s7.toList == ([] : List UInt8)) = true := by rw [← h7]; decide +kernel
  have P0 := Aside0.mk (kP0 s0 h0)
  have P1 := Aside0.mk (kP1 s1 h1)
  have P2 := Aside0.mk (kP2 s2 h2)
  have Q0 := Aside0.mk (kQ0 s0 h0)
  have Q1 := Aside0.mk (kQ1 s3 h3)
  have Q2 := Aside0.mk (kQ2 s4 h4)
  have Q3 := Aside0.mk (kQ3 s1 h1)
  have Q4 := Aside0.mk (kQ4 s2 h2)
  have Q5 := Aside0.mk (kQ5 s5 h5)
  have F0 := Aside0.mk (kF0 s6 h6)
  have F1 := Aside0.mk (kF1 s4 h4)
  have F2 := Aside0.mk (kF2 s7 h7)
  have F3 := Aside0.mk (kF3 s7 h7)
  have F4 := Aside0.mk (kF4 s7 h7)
  have W0 := Aside0.mk kW0
  have W1 := Aside0.mk kW1
  have W2 := Aside0.mk kW2
  have W3 := Aside0.mk kW3
  have W4 := Aside0.mk kW4
  have W5 := Aside0.mk kW5
  have W6 := Aside0.mk kW6
  have W7 := Aside0.mk kW7
  have W8 := Aside0.mk kW8
  have W9 := Aside0.mk kW9
  have G0 := Aside0.mk kG0
  have V0 := Aside0.mk kV0
  have V1 := Aside0.mk kV1
  have V2 := Aside0.mk kV2
  have V3 := Aside0.mk kV3
  have V4 := Aside0.mk kV4
  have V5 := Aside0.mk kV5
  have S0 := Aside0.mk kS0
  have S1 := Aside0.mk kS1
  clear h0 h1 h2 h3 h4 h5 h6 h7
  have kc := fun (w : World) (C : Array Value) (n c : Nat) => Lib.run_convert_bytes_const (P := Try.prog) w 22 5 C n c Try.underlying22 Try.underlying5
  have kc2 : ∀ (w : World) (C : Array Value) (n c b : Nat), b = w.heap.size → (convert 22 22 (.slice (some ⟨b, 0, none⟩) n c)).run Try.prog (w.alloc (.cells C 5)) = .ok (.slice (some ⟨b, 0, none⟩) n c) (w.alloc (.cells C 5 (C.size, C.size + 1))) := fun w C n c b hb => hb ▸ kc w C n c
  have HB := Aside0.mk (Below.refl w.heap.size w)
  go_enter Try.func9, Try.ntmps9
  go_wp2_with (first
    | (go_at_call 13; (with_reducible refine (P0.out _).mono ?_); rintro e w1 ⟨A1, c1, rfl, hcv, hb1⟩; have hb2 := Aside0.mk (below_step (w := w) (by repeat (first | (with_reducible first | exact HB.out | apply below_alloc | apply pw_below_drewN | apply below_drew) | exact HB.out)) hb1); clear HB; have HB := hb2; clear hb2; have hq := hcv _ (Below.refl _ _); have hqn := fun m => hcv _ (pw_below_drewN (Below.refl _ _) m); clear hcv hb1)
    | (go_at_call 13; (with_reducible refine (P1.out _).mono ?_); rintro e w1 ⟨A1, c1, rfl, hcv, hb1⟩; have hb2 := Aside0.mk (below_step (w := w) (by repeat (first | (with_reducible first | exact HB.out | apply below_alloc | apply pw_below_drewN | apply below_drew) | exact HB.out)) hb1); clear HB; have HB := hb2; clear hb2; have hq := hcv _ (Below.refl _ _); have hqn := fun m => hcv _ (pw_below_drewN (Below.refl _ _) m); clear hcv hb1)
    | (go_at_call 13; (with_reducible refine (P2.out _).mono ?_); rintro e w1 ⟨A1, c1, rfl, hcv, hb1⟩; have hb2 := Aside0.mk (below_step (w := w) (by repeat (first | (with_reducible first | exact HB.out | apply below_alloc | apply pw_below_drewN | apply below_drew) | exact HB.out)) hb1); clear HB; have HB := hb2; clear hb2; have hq := hcv _ (Below.refl _ _); have hqn := fun m => hcv _ (pw_below_drewN (Below.refl _ _) m); clear hcv hb1)
    | (go_at_call 14; (with_reducible refine (Q0.out _).mono ?_); rintro e w1 ⟨A1, c1, rfl, hcv, hb1⟩; have hb2 := Aside0.mk (below_step (w := w) (by repeat (first | (with_reducible first | exact HB.out | apply below_alloc | apply pw_below_drewN | apply below_drew) | exact HB.out)) hb1); clear HB; have HB := hb2; clear hb2; have hq := hcv _ (Below.refl _ _); have hqn := fun m => hcv _ (pw_below_drewN (Below.refl _ _) m); clear hcv hb1)
    | (go_at_call 14; (with_reducible refine (Q1.out _).mono ?_); rintro e w1 ⟨A1, c1, rfl, hcv, hb1⟩; have hb2 := Aside0.mk (below_step (w := w) (by repeat (first | (with_reducible first | exact HB.out | apply below_alloc | apply pw_below_drewN | apply below_drew) | exact HB.out)) hb1); clear HB; have HB := hb2; clear hb2; have hq := hcv _ (Below.refl _ _); have hqn := fun m => hcv _ (pw_below_drewN (Below.refl _ _) m); clear hcv hb1)
    | (go_at_call 14; (with_reducible refine (Q2.out _).mono ?_); rintro e w1 ⟨A1, c1, rfl, hcv, hb1⟩; have hb2 := Aside0.mk (below_step (w := w) (by repeat (first | (with_reducible first | exact HB.out | apply below_alloc | apply pw_below_drewN | apply below_drew) | exact HB.out)) hb1); clear HB; have HB := hb2; clear hb2; have hq := hcv _ (Below.refl _ _); have hqn := fun m => hcv _ (pw_below_drewN (Below.refl _ _) m); clear hcv hb1)
    | (go_at_call 14; (with_reducible refine (Q3.out _).mono ?_); rintro e w1 ⟨A1, c1, rfl, hcv, hb1⟩; have hb2 := Aside0.mk (below_step (w := w) (by repeat (first | (with_reducible first | exact HB.out | apply below_alloc | apply pw_below_drewN | apply below_drew) | exact HB.out)) hb1); clear HB; have HB := hb2; clear hb2; have hq := hcv _ (Below.refl _ _); have hqn := fun m => hcv _ (pw_below_drewN (Below.refl _ _) m); clear hcv hb1)
    | (go_at_call 14; (with_reducible refine (Q4.out _).mono ?_); rintro e w1 ⟨A1, c1, rfl, hcv, hb1⟩; have hb2 := Aside0.mk (below_step (w := w) (by repeat (first | (with_reducible first | exact HB.out | apply below_alloc | apply pw_below_drewN | apply below_drew) | exact HB.out)) hb1); clear HB; have HB := hb2; clear hb2; have hq := hcv _ (Below.refl _ _); have hqn := fun m => hcv _ (pw_below_drewN (Below.refl _ _) m); clear hcv hb1)
    | (go_at_call 14; (with_reducible refine (Q5.out _).mono ?_); rintro e w1 ⟨A1, c1, rfl, hcv, hb1⟩; have hb2 := Aside0.mk (below_step (w := w) (by repeat (first | (with_reducible first | exact HB.out | apply below_alloc | apply pw_below_drewN | apply below_drew) | exact HB.out)) hb1); clear HB; have HB := hb2; clear hb2; have hq := hcv _ (Below.refl _ _); have hqn := fun m => hcv _ (pw_below_drewN (Below.refl _ _) m); clear hcv hb1)
    | (go_at_call 16; (with_reducible refine (F0.out _).mono ?_); rintro e w1 ⟨A1, c1, rfl, hcv, hb1⟩; have hb2 := Aside0.mk (below_step (w := w) (by repeat (first | (with_reducible first | exact HB.out | apply below_alloc | apply pw_below_drewN | apply below_drew) | exact HB.out)) hb1); clear HB; have HB := hb2; clear hb2; have hq := hcv _ (Below.refl _ _); have hqn := fun m => hcv _ (pw_below_drewN (Below.refl _ _) m); clear hcv hb1)
    | (go_at_call 16; (with_reducible refine (F1.out _).mono ?_); rintro e w1 ⟨A1, c1, rfl, hcv, hb1⟩; have hb2 := Aside0.mk (below_step (w := w) (by repeat (first | (with_reducible first | exact HB.out | apply below_alloc | apply pw_below_drewN | apply below_drew) | exact HB.out)) hb1); clear HB; have HB := hb2; clear hb2; have hq := hcv _ (Below.refl _ _); have hqn := fun m => hcv _ (pw_below_drewN (Below.refl _ _) m); clear hcv hb1)
    | (go_at_call 16; (with_reducible refine (F2.out _).mono ?_); rintro e w1 ⟨A1, c1, rfl, hcv, hb1⟩; have hb2 := Aside0.mk (below_step (w := w) (by repeat (first | (with_reducible first | exact HB.out | apply below_alloc | apply pw_below_drewN | apply below_drew) | exact HB.out)) hb1); clear HB; have HB := hb2; clear hb2; have hq := hcv _ (Below.refl _ _); have hqn := fun m => hcv _ (pw_below_drewN (Below.refl _ _) m); clear hcv hb1)
    | (go_at_call 16; (with_reducible refine (F3.out _).mono ?_); rintro e w1 ⟨A1, c1, rfl, hcv, hb1⟩; have hb2 := Aside0.mk (below_step (w := w) (by repeat (first | (with_reducible first | exact HB.out | apply below_alloc | apply pw_below_drewN | apply below_drew) | exact HB.out)) hb1); clear HB; have HB := hb2; clear hb2; have hq := hcv _ (Below.refl _ _); have hqn := fun m => hcv _ (pw_below_drewN (Below.refl _ _) m); clear hcv hb1)
    | (go_at_call 16; (with_reducible refine (F4.out _).mono ?_); rintro e w1 ⟨A1, c1, rfl, hcv, hb1⟩; have hb2 := Aside0.mk (below_step (w := w) (by repeat (first | (with_reducible first | exact HB.out | apply below_alloc | apply pw_below_drewN | apply below_drew) | exact HB.out)) hb1); clear HB; have HB := hb2; clear hb2; have hq := hcv _ (Below.refl _ _); have hqn := fun m => hcv _ (pw_below_drewN (Below.refl _ _) m); clear hcv hb1)
    | (go_at_call 28; (with_reducible refine (W0.out _).mono ?_); rintro e w1 ⟨rfl, hb1⟩; have hb2 := Aside0.mk (below_step (w := w) (by repeat (first | (with_reducible first | exact HB.out | apply below_alloc | apply pw_below_drewN | apply below_drew) | exact HB.out)) hb1); clear HB; have HB := hb2; clear hb2 hb1)
    | (go_at_call 28; (with_reducible refine (W1.out _).mono ?_); rintro e w1 ⟨rfl, hb1⟩; have hb2 := Aside0.mk (below_step (w := w) (by repeat (first | (with_reducible first | exact HB.out | apply below_alloc | apply pw_below_drewN | apply below_drew) | exact HB.out)) hb1); clear HB; have HB := hb2; clear hb2 hb1)
    | (go_at_call 28; (with_reducible refine (W2.out _).mono ?_); rintro e w1 ⟨rfl, hb1⟩; have hb2 := Aside0.mk (below_step (w := w) (by repeat (first | (with_reducible first | exact HB.out | apply below_alloc | apply pw_below_drewN | apply below_drew) | exact HB.out)) hb1); clear HB; have HB := hb2; clear hb2 hb1)
    | (go_at_call 28; (with_reducible refine (W3.out _).mono ?_); rintro e w1 ⟨rfl, hb1⟩; have hb2 := Aside0.mk (below_step (w := w) (by repeat (first | (with_reducible first | exact HB.out | apply below_alloc | apply pw_below_drewN | apply below_drew) | exact HB.out)) hb1); clear HB; have HB := hb2; clear hb2 hb1)
    | (go_at_call 28; (with_reducible refine (W4.out _).mono ?_); rintro e w1 ⟨rfl, hb1⟩; have hb2 := Aside0.mk (below_step (w := w) (by repeat (first | (with_reducible first | exact HB.out | apply below_alloc | apply pw_below_drewN | apply below_drew) | exact HB.out)) hb1); clear HB; have HB := hb2; clear hb2 hb1)
    | (go_at_call 28; (with_reducible refine (W5.out _).mono ?_); rintro e w1 ⟨rfl, hb1⟩; have hb2 := Aside0.mk (below_step (w := w) (by repeat (first | (with_reducible first | exact HB.out | apply below_alloc | apply pw_below_drewN | apply below_drew) | exact HB.out)) hb1); clear HB; have HB := hb2; clear hb2 hb1)
    | (go_at_call 28; (with_reducible refine (W6.out _).mono ?_); rintro e w1 ⟨rfl, hb1⟩; have hb2 := Aside0.mk (below_step (w := w) (by repeat (first | (with_reducible first | exact HB.out | apply below_alloc | apply pw_below_drewN | apply below_drew) | exact HB.out)) hb1); clear HB; have HB := hb2; clear hb2 hb1)
    | (go_at_call 28; (with_reducible refine (W7.out _).mono ?_); rintro e w1 ⟨rfl, hb1⟩; have hb2 := Aside0.mk (below_step (w := w) (by repeat (first | (with_reducible first | exact HB.out | apply below_alloc | apply pw_below_drewN | apply below_drew) | exact HB.out)) hb1); clear HB; have HB := hb2; clear hb2 hb1)
    | (go_at_call 28; (with_reducible refine (W8.out _).mono ?_); rintro e w1 ⟨rfl, hb1⟩; have hb2 := Aside0.mk (below_step (w := w) (by repeat (first | (with_reducible first | exact HB.out | apply below_alloc | apply pw_below_drewN | apply below_drew) | exact HB.out)) hb1); clear HB; have HB := hb2; clear hb2 hb1)
    | (go_at_call 28; (with_reducible refine (W9.out _).mono ?_); rintro e w1 ⟨rfl, hb1⟩; have hb2 := Aside0.mk (below_step (w := w) (by repeat (first | (with_reducible first | exact HB.out | apply below_alloc | apply pw_below_drewN | apply below_drew) | exact HB.out)) hb1); clear HB; have HB := hb2; clear hb2 hb1)
    | (go_at_call 11; (with_reducible refine (G0.out _ _ _ ?hb).mono ?_); (case hb => first | rfl | simp); rintro e w' ⟨rfl, ⟨nd, rfl⟩⟩)
    | (go_at_call 21; (with_reducible refine (V0.out _ _ ?hb).mono ?_); (case hb => first | rfl | simp); rintro e w' ⟨rfl, ⟨nd, rfl⟩⟩)
    | (go_at_call 21; (with_reducible refine (V1.out _ _ ?hb).mono ?_); (case hb => first | rfl | simp); rintro e w' ⟨rfl, ⟨nd, rfl⟩⟩)
    | (go_at_call 21; (with_reducible refine (V2.out _ _ ?hb).mono ?_); (case hb => first | rfl | simp); rintro e w' ⟨rfl, ⟨nd, rfl⟩⟩)
    | (go_at_call 21; (with_reducible refine (V3.out _ _ ?hb).mono ?_); (case hb => first | rfl | simp); rintro e w' ⟨rfl, ⟨nd, rfl⟩⟩)
    | (go_at_call 21; (with_reducible refine (V4.out _ _ ?hb).mono ?_); (case hb => first | rfl | simp); rintro e w' ⟨rfl, ⟨nd, rfl⟩⟩)
    | (go_at_call 21; (with_reducible refine (V5.out _ _ ?hb).mono ?_); (case hb => first | rfl | simp); rintro e w' ⟨rfl, ⟨nd, rfl⟩⟩)
    | (go_at_call 15; (with_reducible refine (S0.out _).mono ?_); rintro e w' ⟨rfl, ⟨nd, rfl⟩⟩)
    | (go_at_call 15; (with_reducible refine (S1.out _ _ _ ?hb).mono ?_); (case hb => first | rfl | simp); rintro e w' ⟨rfl, ⟨nd, rfl⟩⟩)
    | (go_at_call 10; (with_reducible refine (works_c _).mono ?_); rintro e w1 ⟨rfl, hb1⟩; have hb2 := Aside0.mk (below_step (w := w) (by repeat (first | (with_reducible first | exact HB.out | apply below_alloc | apply pw_below_drewN | apply below_drew) | exact HB.out)) hb1); clear HB; have HB := hb2; clear hb2 hb1))
  go_ret
  exact ⟨by first | rfl | (simp; done), (by repeat (first | (with_reducible first | exact HB.out | apply below_alloc | apply pw_below_drewN | apply below_drew) | exact HB.out))⟩
theorem walk (w : World) : Calls Try.prog 9 #[] w fun e w' => e = .returned (.bool true) ∧ Below w.heap.size w w' := known w
end Go.Proofs.Ytclmnipllboekaa.WalkWireKnown
