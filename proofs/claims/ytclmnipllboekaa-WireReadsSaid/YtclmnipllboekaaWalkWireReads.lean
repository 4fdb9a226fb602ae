/- WireReads: the walk typed by hand over the printed functions, LentCode and KeptCode by contracts of their own. Under no conditions beyond the statement's own. -/
import Derived.Test.YtclmnipllboekaaPWireReadsy3
import Derived.Test.YtclmnipllboekaaPlainInt
import Derived.Test.YtclmnipllboekaaPlainSum
import Derived.Outline
import Derived.Deep.RegionWith
import Derived.Test.YtclmnipllboekaaSwitch
set_option linter.unusedSimpArgs false
set_option linter.unusedVariables false
namespace Go.Proofs.Ytclmnipllboekaa.WalkWireReads
open Go.RowKit Go.Proofs.Ytclmnipllboekaa.PWireReads Go.Proofs.YtclmnipllboekaaW.PrintWords Go.Proofs.YtclmnipllboekaaW.PrintLast Go.Proofs.YtclmnipllboekaaW.PrintMore Go.Proofs.Ytclmnipllboekaa.Plain
/-! wire_Put -/
theorem put_l0 (n : Nat) : ∀ (k : Nat) (xs : List Int), (put n).length ≤ k → xs.length + (put n).length ≤ 140737488355328 → wire_Put.l0 k n xs = some (xs ++ put n) := by
  induction n using Nat.strongRecOn with
  | ind n ih =>
    intro k xs hk hx
    have h1 := put_pos n
    obtain ⟨k, rfl⟩ : ∃ m, k = m + 1 := ⟨k - 1, by omega⟩
    by_cases c : n < 128
    · simp only [wire_Put.l0]
      rw [if_neg (by omega), if_pos (by omega), put_small c, show (n : Int) % 256 = n by omega]
    · have hp := put_more c
      have hl : (put n).length = (put (n / 128)).length + 1 := by rw [hp]; simp
      simp only [wire_Put.l0]
      rw [if_pos (by omega), if_pos (by omega), or128 (by omega) (by omega), show (n : Int) / 128 = ((n / 128 : Nat) : Int) by omega,
        ih (n / 128) (by omega) k _ (by omega) (by simp; omega), hp, show (n : Int) % 256 % 128 + 128 = ((n % 128 + 128 : Nat) : Int) by omega]
      simp
theorem put_f {n : Int} (h0 : 0 ≤ n) (h1 : n < 18446744073709551616) {k : Nat} (hk : 10 ≤ k) : wire_Put.f k n = some (put n.toNat) := by
  have hl := put_len10 (n := n.toNat) (by omega)
  unfold wire_Put.f
  have := put_l0 n.toNat k (List.replicate 0 0) (by omega) (by simp; omega)
  rw [Int.toNat_of_nonneg h0] at this
  simpa using this
/-! wire_Get -/
theorem get_l0 (b : List Int) (hb : ∀ x ∈ b, 0 ≤ x ∧ x ≤ 255) (hl : b.length ≤ 140737488355328) (p : Nat) : ∀ (d i k : Nat) (a : Int), p + i + d = b.length → i ≤ 9 → 0 ≤ a → a < 2 ^ (7 * i) → 2 * d < k →
    wire_Get.l0 k b p a ((b.length : Int) - p) i = some (fin p (getL (b.drop (p + i)) i a)) := by
  intro d
  induction d with
  | zero =>
    intro i k a hd hi ha ha1 hk
    obtain ⟨k, rfl⟩ : ∃ m, k = m + 1 := ⟨k - 1, by omega⟩
    rw [List.drop_eq_nil_of_le (by omega)]
    simp only [wire_Get.l0, getL, fin]
    rw [if_neg (by omega)]
    rfl
  | succ d ih =>
    intro i k a hd hi ha ha1 hk
    obtain ⟨k, rfl⟩ : ∃ m, k = m + 2 := ⟨k - 2, by omega⟩
    have hlt : p + i < b.length := by omega
    have hw : wrap64 ((p : Int) + i) = ((p + i : Nat) : Int) := by rw [w64 (by omega) (by omega)]; omega
    have hr := rd_nat b (p + i) hlt
    obtain ⟨hc0, hc1⟩ := hb b[p + i] (List.getElem_mem hlt)
    rw [List.drop_eq_getElem_cons hlt]
    generalize hc : b[p + i] = c at *
    simp only [wire_Get.l0, getL]
    rw [if_pos (by omega), hw, if_pos (by omega), if_pos (by omega), hr]
    have key : ∀ B : Bool, (B = true ↔ (i = 9 ∧ c > 1 ∨ i > 0 ∧ c = 0)) → wire_Get.j2 (k + 1) b p a i c ((b.length : Int) - p) i B =
        some (fin p (if i = 9 ∧ c > 1 ∨ i > 0 ∧ c = 0 then (0, 0, 11) else if c < 128 then (a + c * 2 ^ (7 * i), (i : Int) + 1, 0) else getL (List.drop (p + i + 1) b) (i + 1) (a + (c - 128) * 2 ^ (7 * i)))) := by
      intro B hB
      simp only [wire_Get.j2]
      by_cases h : i = 9 ∧ c > 1 ∨ i > 0 ∧ c = 0
      · rw [if_pos (hB.2 h), if_pos h]; rfl
      · rw [if_neg (fun e => h (hB.1 e)), if_neg h, w64 (x := 7 * (i : Int)) (by omega) (by omega), if_pos (by omega), and128 hc0 hc1, and127 hc0 hc1]
        by_cases h2 : c < 128
        · rw [if_pos h2, if_pos rfl, if_pos h2, add_seven hi ha ha1 (by omega) (by omega) (by omega), hw, w64 (by omega) (by omega), show c % 128 = c by omega]
          simp only [fin, if_true, Option.some.injEq, Prod.mk.injEq, true_and, and_true]
          omega
        · have h9 : i ≠ 9 := fun e => h (.inl ⟨e, by omega⟩)
          rw [if_neg h2, if_neg (by decide), if_neg h2, add_seven hi ha ha1 (by omega) (by omega) (by omega), w64 (x := (i : Int) + 1) (by omega) (by omega), show c % 128 = c - 128 by omega]
          have hpos := pow7_pos i
          have hx : (c - 128) * 2 ^ (7 * i) ≤ 127 * 2 ^ (7 * i) := Int.mul_le_mul_of_nonneg_right (by omega) (by omega)
          have hx0 : 0 ≤ (c - 128) * 2 ^ (7 * i) := Int.mul_nonneg (by omega) (by omega)
          have := ih (i + 1) k (a + (c - 128) * 2 ^ (7 * i)) (by omega) (by omega) (by omega) (by rw [pow7_succ]; omega) (by omega)
          rw [show ((i : Int) + 1) = ((i + 1 : Nat) : Int) by omega, this, Nat.add_assoc]
    by_cases e9 : (i : Int) = 9
    · rw [if_pos e9]
      by_cases g : c > 1
      · rw [if_pos g]; exact key true (by simp; omega)
      · rw [if_neg g]
        by_cases g0 : (i : Int) > 0
        · rw [if_pos g0]; exact key (c == 0) (by simp; omega)
        · rw [if_neg g0]; exact key false (by simp; omega)
    · rw [if_neg e9]
      by_cases g0 : (i : Int) > 0
      · rw [if_pos g0]; exact key (c == 0) (by simp; omega)
      · rw [if_neg g0]; exact key false (by simp; omega)
theorem get_f {b : List Int} (hb : ∀ x ∈ b, 0 ≤ x ∧ x ≤ 255) (hl : b.length ≤ 140737488355328) (p : Int) {k : Nat} (hk : 2 * b.length + 2 ≤ k) : wire_Get.f k b p = some (readNum b p) := by
  obtain ⟨k, rfl⟩ : ∃ m, k = m + 1 := ⟨k - 1, by omega⟩
  unfold wire_Get.f readNum
  simp only [wire_Get.j0]
  by_cases h0 : p < 0
  · rw [if_pos h0, if_pos trivial, if_pos (.inl h0)]
  · rw [if_neg h0]
    by_cases h1 : p > b.length
    · rw [if_pos (by simp; omega), if_pos (.inr h1)]
    · rw [if_neg (by simp; omega), if_neg (by omega), w64 (by omega) (by omega)]
      obtain ⟨q, rfl⟩ := Int.eq_ofNat_of_zero_le (show 0 ≤ p by omega)
      have := get_l0 b hb hl q (b.length - q) 0 k 0 (by omega) (by omega) (by omega) (by decide) (by omega)
      simpa using this
/-! works -/
theorem works_f {k : Nat} (hk : 20 ≤ k) : trammellaw01_works.f k = some true := by
  have h1 : wire_Put.f k 300 = some [172, 2] := by
    rw [put_f (by omega) (by omega) (by omega)]
    rw [put_more (by decide), put_small (by decide)]
    rfl
  have h2 : wire_Get.f k [172, 2] 0 = some (300, 2, 0) := by
    rw [get_f (by simp) (by simp) 0 (by simp; omega)]
    rfl
  unfold trammellaw01_works.f
  rw [h1]; simp only [obind]
  rw [h2]; simp only [obind]
  rw [if_pos (show (strOfNums [172, 2]).toList = [172, 2] from by decide +kernel)]
  rfl
/-! wire_GetInt -/
theorem getInt_f {b : List Int} (hb : ∀ x ∈ b, 0 ≤ x ∧ x ≤ 255) (hl : b.length ≤ 140737488355328) (p : Int) {k : Nat} (hk : 2 * b.length + 2 ≤ k) : wire_GetInt.f k b p = some (readInt b p) := by
  unfold wire_GetInt.f
  rw [get_f hb hl p hk]
  have h := readNum_u64 hb p
  simp only [obind, readInt]
  rw [zag_eq h.1 h.2]
/-! wire_Wide -/
theorem wide_l0 (b : List Int) (hb : ∀ x ∈ b, 0 ≤ x ∧ x ≤ 255) (hl : b.length ≤ 140737488355328) (p s : Nat) (hs : s ≤ 8) (hps : p + s ≤ b.length) : ∀ (d i k : Nat) (a : Int), i + d = s → 0 ≤ a → a < 2 ^ (8 * i) → d < k →
    wire_Wide.l0 k b p s a s i = some (a + le ((b.drop (p + i)).take d) * 2 ^ (8 * i), (p : Int) + s, 0) := by
  intro d
  induction d with
  | zero =>
    intro i k a hd ha ha1 hk
    obtain ⟨k, rfl⟩ : ∃ m, k = m + 1 := ⟨k - 1, by omega⟩
    simp only [wire_Wide.l0]
    rw [if_neg (by omega), w64 (by omega) (by omega)]
    simp [le]
  | succ d ih =>
    intro i k a hd ha ha1 hk
    obtain ⟨k, rfl⟩ : ∃ m, k = m + 1 := ⟨k - 1, by omega⟩
    have hlt : p + i < b.length := by omega
    obtain ⟨hc0, hc1⟩ := hb b[p + i] (List.getElem_mem hlt)
    simp only [wire_Wide.l0]
    rw [if_pos (by omega), w64 (x := (p : Int) + i) (by omega) (by omega), show (p : Int) + i = ((p + i : Nat) : Int) by omega, if_pos (by omega), if_pos (by omega), rd_nat b (p + i) hlt,
      w64 (x := 8 * (i : Int)) (by omega) (by omega), if_pos (by omega), w64 (by omega) (by omega), add_eight (show i ≤ 7 by omega) ha ha1 hc0 hc1, show (i : Int) + 1 = ((i + 1 : Nat) : Int) by omega]
    have hp := pow8_pos i
    have hx : b[p + i] * 2 ^ (8 * i) ≤ 255 * 2 ^ (8 * i) := Int.mul_le_mul_of_nonneg_right (by omega) (by omega)
    have hx0 : 0 ≤ b[p + i] * 2 ^ (8 * i) := Int.mul_nonneg (by omega) (by omega)
    rw [ih (i + 1) k _ (by omega) (by omega) (by rw [pow8_succ]; omega) (by omega)]
    rw [List.drop_eq_getElem_cons hlt, List.take_succ_cons, le_cons, pow8_succ]
    generalize b[p + i] = c
    rw [show p + (i + 1) = p + i + 1 by omega]
    generalize le (List.take d (List.drop (p + i + 1) b)) = u
    simp only [Option.some.injEq, Prod.mk.injEq, and_true]
    rw [Int.add_mul, Int.mul_assoc 256, ← Int.mul_assoc u, Int.mul_comm u 256, Int.mul_assoc 256]
    omega
theorem wide_f {b : List Int} (hb : ∀ x ∈ b, 0 ≤ x ∧ x ≤ 255) (hl : b.length ≤ 140737488355328) (p s : Int) {k : Nat} (hk : 12 ≤ k) : wire_Wide.f k b p s = some (wide b p s) := by
  obtain ⟨k, rfl⟩ : ∃ m, k = m + 1 := ⟨k - 1, by omega⟩
  unfold wire_Wide.f wide
  simp only [wire_Wide.j0]
  by_cases h1 : s < 1
  · rw [if_pos h1, if_pos (by simpa using h1), if_pos (.inl h1)]
  · rw [if_neg h1]
    by_cases h2 : s > 8
    · rw [if_pos h2, if_pos (by simpa using h2), if_pos (.inr (.inl h2))]
    · rw [if_neg h2]
      by_cases h3 : p < 0
      · rw [if_pos h3, if_pos (by simpa using h3), if_pos (.inr (.inr (.inl h3)))]
      · rw [if_neg h3]
        by_cases h4 : p > b.length
        · rw [if_pos (by simpa using h4), if_pos (.inr (.inr (.inr h4)))]
        · rw [if_neg (by simpa using h4), w64 (by omega) (by omega), if_neg (show ¬ (s < 1 ∨ s > 8 ∨ p < 0 ∨ p > (b.length : Int)) by omega)]
          by_cases h5 : s > (b.length : Int) - p
          · rw [if_pos h5, if_pos h5]
          · rw [if_neg h5, if_neg h5]
            obtain ⟨q, rfl⟩ := Int.eq_ofNat_of_zero_le (show 0 ≤ p by omega)
            obtain ⟨t, rfl⟩ := Int.eq_ofNat_of_zero_le (show 0 ≤ s by omega)
            have := wide_l0 b hb hl q t (by omega) (by omega) t 0 k 0 (by omega) (by omega) (by decide) (by omega)
            simpa using this
/-! wire_Sum -/
theorem sum_l1 (xs : List Int) (n i : Int) (hi : wrap64 (i + 1) = i + 1) : ∀ (d k : Nat) (s : BitVec 32), d ≤ 8 → wire_Sum.l1 (k + d + 1) (s.toNat : Int) xs n i (8 - (d : Int)) = wire_Sum.l0 k ((stps d s).toNat : Int) xs n (i + 1) := by
  intro d
  induction d with
  | zero =>
    intro k s _
    simp only [wire_Sum.l1, stps]
    rw [if_neg (by omega), hi]
  | succ d ih =>
    intro k s hd
    rw [show k + (d + 1) + 1 = (k + d + 1) + 1 by omega]
    simp only [wire_Sum.l1, stps]
    rw [if_pos (by omega), w64 (by omega) (by omega), bv_step, show (8 : Int) - ((d + 1 : Nat) : Int) + 1 = 8 - (d : Int) by omega]
    exact ih k (stp s) (by omega)
theorem sum_l0 (xs : List Int) (hb : ∀ x ∈ xs, 0 ≤ x ∧ x ≤ 255) (hl : xs.length ≤ 140737488355328) : ∀ (d i k : Nat) (s : BitVec 32), i + d = xs.length → 10 * d < k →
    wire_Sum.l0 k (s.toNat : Int) xs (xs.length : Int) i = some ((~~~ crc s (xs.drop i)).toNat : Int) := by
  intro d
  induction d with
  | zero =>
    intro i k s hd hk
    obtain ⟨k, rfl⟩ : ∃ m, k = m + 1 := ⟨k - 1, by omega⟩
    simp only [wire_Sum.l0]
    rw [if_neg (by omega), List.drop_eq_nil_of_le (by omega), bv_not]
    rfl
  | succ d ih =>
    intro i k s hd hk
    obtain ⟨k, rfl⟩ : ∃ m, k = (m + 8 + 1) + 1 := ⟨k - 10, by omega⟩
    have hlt : i < xs.length := by omega
    obtain ⟨h0, h1⟩ := hb xs[i] (List.getElem_mem hlt)
    have hr := rd_nat xs i hlt
    simp only [wire_Sum.l0]
    rw [if_pos (by omega), if_pos (by omega), if_pos (by omega), hr, bv_in s h0 h1]
    have h2 := sum_l1 xs (xs.length : Int) (i : Int) (by rw [w64 (by omega) (by omega)]) 8 k (s ^^^ BitVec.ofInt 32 xs[i]) (by omega)
    rw [show (8 : Int) - ((8 : Nat) : Int) = 0 by omega] at h2
    rw [h2, show (i : Int) + 1 = ((i + 1 : Nat) : Int) by omega, ih (i + 1) k _ (by omega) (by omega)]
    rw [List.drop_eq_getElem_cons hlt]
    rfl
theorem sum_f {xs : List Int} (hb : ∀ x ∈ xs, 0 ≤ x ∧ x ≤ 255) (hl : xs.length ≤ 140737488355328) {k : Nat} (hk : 10 * xs.length < k) : wire_Sum.f k xs = some (sumOf xs) := by
  unfold wire_Sum.f
  have := sum_l0 xs hb hl xs.length 0 k 4294967295#32 (by omega) hk
  simpa [sumOf] using this
/-! trammelref01: Get, GetInt, Wide, Sum -/
theorem refget_l0 (b : List Int) (hb : ∀ x ∈ b, 0 ≤ x ∧ x ≤ 255) (hl : b.length ≤ 140737488355328) (p : Nat) : ∀ (d i k : Nat) (a : Int), p + i + d = b.length → i ≤ 9 → 0 ≤ a → a < 2 ^ (7 * i) → 2 * d < k →
    trammelref01_Get.l0 k b p a i = some (fin p (getL (b.drop (p + i)) i a)) := by
  intro d
  induction d with
  | zero =>
    intro i k a hd hi ha ha1 hk
    obtain ⟨k, rfl⟩ : ∃ m, k = m + 1 := ⟨k - 1, by omega⟩
    rw [List.drop_eq_nil_of_le (by omega)]
    simp only [trammelref01_Get.l0, getL, fin]
    rw [w64 (by omega) (by omega), if_neg (by omega)]
    rfl
  | succ d ih =>
    intro i k a hd hi ha ha1 hk
    obtain ⟨k, rfl⟩ : ∃ m, k = m + 2 := ⟨k - 2, by omega⟩
    have hlt : p + i < b.length := by omega
    have hw : wrap64 ((p : Int) + i) = ((p + i : Nat) : Int) := by rw [w64 (by omega) (by omega)]; omega
    have hr := rd_nat b (p + i) hlt
    obtain ⟨hc0, hc1⟩ := hb b[p + i] (List.getElem_mem hlt)
    rw [List.drop_eq_getElem_cons hlt]
    generalize hc : b[p + i] = c at *
    simp only [trammelref01_Get.l0, getL]
    rw [hw, if_pos (by omega), if_pos (by omega), hr]
    have key : ∀ B : Bool, (B = true ↔ (i = 9 ∧ c > 1 ∨ i > 0 ∧ c = 0)) → trammelref01_Get.j2 (k + 1) b p a i c B =
        some (fin p (if i = 9 ∧ c > 1 ∨ i > 0 ∧ c = 0 then (0, 0, 11) else if c < 128 then (a + c * 2 ^ (7 * i), (i : Int) + 1, 0) else getL (List.drop (p + i + 1) b) (i + 1) (a + (c - 128) * 2 ^ (7 * i)))) := by
      intro B hB
      simp only [trammelref01_Get.j2]
      by_cases h : i = 9 ∧ c > 1 ∨ i > 0 ∧ c = 0
      · rw [if_pos (hB.2 h), if_pos h]; rfl
      · have et : Int.tmod c 128 = c % 128 := Int.tmod_eq_emod_of_nonneg hc0
        rw [if_neg (fun e => h (hB.1 e)), if_neg h, w64 (x := 7 * (i : Int)) (by omega) (by omega), if_pos (by omega), et]
        by_cases h2 : c < 128
        · rw [if_pos h2, if_pos h2, add_seven hi ha ha1 (by omega) (by omega) (by omega), hw, w64 (by omega) (by omega), show c % 128 = c by omega]
          simp only [fin, if_true, Option.some.injEq, Prod.mk.injEq, true_and, and_true]
          omega
        · have h9 : i ≠ 9 := fun e => h (.inl ⟨e, by omega⟩)
          rw [if_neg h2, if_neg h2, add_seven hi ha ha1 (by omega) (by omega) (by omega), w64 (x := (i : Int) + 1) (by omega) (by omega), show c % 128 = c - 128 by omega]
          have hpos := pow7_pos i
          have hx : (c - 128) * 2 ^ (7 * i) ≤ 127 * 2 ^ (7 * i) := Int.mul_le_mul_of_nonneg_right (by omega) (by omega)
          have hx0 : 0 ≤ (c - 128) * 2 ^ (7 * i) := Int.mul_nonneg (by omega) (by omega)
          have := ih (i + 1) k (a + (c - 128) * 2 ^ (7 * i)) (by omega) (by omega) (by omega) (by rw [pow7_succ]; omega) (by omega)
          rw [show ((i : Int) + 1) = ((i + 1 : Nat) : Int) by omega, this, Nat.add_assoc]
    by_cases e9 : (i : Int) = 9
    · rw [if_pos e9]
      by_cases g : c > 1
      · rw [if_pos g]; exact key true (by simp; omega)
      · rw [if_neg g]
        by_cases g0 : (i : Int) > 0
        · rw [if_pos g0]; exact key (c == 0) (by simp; omega)
        · rw [if_neg g0]; exact key false (by simp; omega)
    · rw [if_neg e9]
      by_cases g0 : (i : Int) > 0
      · rw [if_pos g0]; exact key (c == 0) (by simp; omega)
      · rw [if_neg g0]; exact key false (by simp; omega)
theorem refget_f {b : List Int} (hb : ∀ x ∈ b, 0 ≤ x ∧ x ≤ 255) (hl : b.length ≤ 140737488355328) (p : Int) {k : Nat} (hk : 2 * b.length + 2 ≤ k) : trammelref01_Get.f k b p = some (readNum b p) := by
  obtain ⟨k, rfl⟩ : ∃ m, k = m + 1 := ⟨k - 1, by omega⟩
  unfold trammelref01_Get.f readNum
  simp only [trammelref01_Get.j0]
  by_cases h0 : p < 0
  · rw [if_pos h0, if_pos trivial, if_pos (.inl h0)]
  · rw [if_neg h0]
    by_cases h1 : p > b.length
    · rw [if_pos (by simp; omega), if_pos (.inr h1)]
    · rw [if_neg (by simp; omega), if_neg (by omega)]
      obtain ⟨q, rfl⟩ := Int.eq_ofNat_of_zero_le (show 0 ≤ p by omega)
      have := refget_l0 b hb hl q (b.length - q) 0 k 0 (by omega) (by omega) (by omega) (by decide) (by omega)
      simpa using this
theorem refgetInt_f {b : List Int} (hb : ∀ x ∈ b, 0 ≤ x ∧ x ≤ 255) (hl : b.length ≤ 140737488355328) (p : Int) {k : Nat} (hk : 2 * b.length + 2 ≤ k) : trammelref01_GetInt.f k b p = some (readInt b p) := by
  unfold trammelref01_GetInt.f
  rw [refget_f hb hl p hk]
  have h := readNum_u64 hb p
  simp only [obind, readInt]
  generalize (readNum b p).1 = u at *
  have e1 : Int.tmod u 2 = u % 2 := Int.tmod_eq_emod_of_nonneg h.1
  have e2 : Int.tdiv u 2 = u / 2 := Int.tdiv_eq_ediv_of_nonneg h.1
  rw [e1, e2, u64_id (n := u / 2) (by omega) (by omega), w64 (x := u / 2) (by omega) (by omega)]
  unfold zag
  by_cases c : u % 2 = 1
  · rw [if_pos c, if_pos c, w64 (x := -(u / 2)) (by omega) (by omega), w64 (by omega) (by omega)]
  · rw [if_neg c, if_neg c]
theorem refwide_l0 (b : List Int) (hb : ∀ x ∈ b, 0 ≤ x ∧ x ≤ 255) (hl : b.length ≤ 140737488355328) (p s : Nat) (hs : s ≤ 8) (hps : p + s ≤ b.length) : ∀ (d i k : Nat) (a : Int), i + d = s → 0 ≤ a → a < 2 ^ (8 * i) → d < k →
    trammelref01_Wide.l0 k b p s a i = some (a + le ((b.drop (p + i)).take d) * 2 ^ (8 * i), (p : Int) + s, 0) := by
  intro d
  induction d with
  | zero =>
    intro i k a hd ha ha1 hk
    obtain ⟨k, rfl⟩ : ∃ m, k = m + 1 := ⟨k - 1, by omega⟩
    simp only [trammelref01_Wide.l0]
    rw [if_neg (by omega), w64 (by omega) (by omega)]
    simp [le]
  | succ d ih =>
    intro i k a hd ha ha1 hk
    obtain ⟨k, rfl⟩ : ∃ m, k = m + 1 := ⟨k - 1, by omega⟩
    have hlt : p + i < b.length := by omega
    obtain ⟨hc0, hc1⟩ := hb b[p + i] (List.getElem_mem hlt)
    simp only [trammelref01_Wide.l0]
    rw [if_pos (by omega), w64 (x := (p : Int) + i) (by omega) (by omega), show (p : Int) + i = ((p + i : Nat) : Int) by omega, if_pos (by omega), if_pos (by omega), rd_nat b (p + i) hlt,
      w64 (x := 8 * (i : Int)) (by omega) (by omega), if_pos (by omega), w64 (by omega) (by omega), add_eight (show i ≤ 7 by omega) ha ha1 hc0 hc1, show (i : Int) + 1 = ((i + 1 : Nat) : Int) by omega]
    have hp := pow8_pos i
    have hx : b[p + i] * 2 ^ (8 * i) ≤ 255 * 2 ^ (8 * i) := Int.mul_le_mul_of_nonneg_right (by omega) (by omega)
    have hx0 : 0 ≤ b[p + i] * 2 ^ (8 * i) := Int.mul_nonneg (by omega) (by omega)
    rw [ih (i + 1) k _ (by omega) (by omega) (by rw [pow8_succ]; omega) (by omega)]
    rw [List.drop_eq_getElem_cons hlt, List.take_succ_cons, le_cons, pow8_succ]
    generalize b[p + i] = c
    rw [show p + (i + 1) = p + i + 1 by omega]
    generalize le (List.take d (List.drop (p + i + 1) b)) = u
    simp only [Option.some.injEq, Prod.mk.injEq, and_true]
    rw [Int.add_mul, Int.mul_assoc 256, ← Int.mul_assoc u, Int.mul_comm u 256, Int.mul_assoc 256]
    omega
theorem refwide_f {b : List Int} (hb : ∀ x ∈ b, 0 ≤ x ∧ x ≤ 255) (hl : b.length ≤ 140737488355328) (p s : Int) {k : Nat} (hk : 12 ≤ k) : trammelref01_Wide.f k b p s = some (wide b p s) := by
  obtain ⟨k, rfl⟩ : ∃ m, k = m + 1 := ⟨k - 1, by omega⟩
  unfold trammelref01_Wide.f wide
  simp only [trammelref01_Wide.j0]
  by_cases h1 : s < 1
  · rw [if_pos h1, if_pos trivial, if_pos (.inl h1)]
  · rw [if_neg h1]
    by_cases h2 : s > 8
    · rw [if_pos h2, if_pos trivial, if_pos (.inr (.inl h2))]
    · rw [if_neg h2]
      by_cases h3 : p < 0
      · rw [if_pos h3, if_pos trivial, if_pos (.inr (.inr (.inl h3)))]
      · rw [if_neg h3]
        by_cases h4 : p > b.length
        · rw [if_pos (by simpa using h4), if_pos (.inr (.inr (.inr h4)))]
        · rw [if_neg (by simpa using h4), w64 (by omega) (by omega), if_neg (show ¬ (s < 1 ∨ s > 8 ∨ p < 0 ∨ p > (b.length : Int)) by omega)]
          by_cases h5 : s > (b.length : Int) - p
          · rw [if_pos h5, if_pos h5]
          · rw [if_neg h5, if_neg h5]
            obtain ⟨q, rfl⟩ := Int.eq_ofNat_of_zero_le (show 0 ≤ p by omega)
            obtain ⟨t, rfl⟩ := Int.eq_ofNat_of_zero_le (show 0 ≤ s by omega)
            have := refwide_l0 b hb hl q t (by omega) (by omega) t 0 k 0 (by omega) (by omega) (by decide) (by omega)
            simpa using this
theorem refsum_l1 (xs : List Int) (i : Nat) (hi : i < xs.length) (hl : xs.length ≤ 140737488355328) (h0 : 0 ≤ xs[i]) (h1 : xs[i] ≤ 255) : ∀ (d k : Nat) (r : BitVec 32), d ≤ 8 →
    trammelref01_Sum.l1 (k + d + 1) xs (r.toNat : Int) (i : Int) (8 - (d : Int)) = trammelref01_Sum.l0 k xs ((stps d (r ^^^ (BitVec.ofInt 32 xs[i] >>> (8 - d)))).toNat : Int) ((i + 1 : Nat) : Int) := by
  intro d
  induction d with
  | zero =>
    intro k r _
    simp only [trammelref01_Sum.l1, stps]
    rw [if_neg (by omega), w64 (by omega) (by omega), show 8 - 0 = 8 from rfl, byte_gone h0 h1, BitVec.xor_zero, show (i : Int) + 1 = ((i + 1 : Nat) : Int) by omega]
  | succ d ih =>
    intro k r hd
    have e8 : (8 : Int) - ((d + 1 : Nat) : Int) = ((8 - (d + 1) : Nat) : Int) := by omega
    have es : 8 - (d + 1) + 1 = 8 - d := by omega
    rw [show k + (d + 1) + 1 = (k + d + 1) + 1 by omega]
    rw [trammelref01_Sum.l1, show ∀ s, stps (d + 1) s = stps d (stp s) from fun _ => rfl]
    rw [if_pos (by omega), if_pos (by omega), if_pos (by omega), if_pos (by omega), rd_nat xs i hi, e8, bv_shift h0 h1 _ (by omega), w64 (by omega) (by omega), show ((8 - (d + 1) : Nat) : Int) + 1 = 8 - (d : Int) by omega, ← ref_step, es]
    by_cases g : r.getLsbD 0 = (BitVec.ofInt 32 xs[i] >>> (8 - (d + 1))).getLsbD 0
    · rw [if_pos ((low_eq _ _).2 g), if_pos g, bv_half]
      exact ih k _ (by omega)
    · rw [if_neg (fun e => g ((low_eq _ _).1 e)), if_neg g, bv_half, show (3988292384 : Int) = (poly.toNat : Int) from rfl, bv_xor]
      exact ih k _ (by omega)
theorem refsum_l0 (xs : List Int) (hb : ∀ x ∈ xs, 0 ≤ x ∧ x ≤ 255) (hl : xs.length ≤ 140737488355328) : ∀ (d i k : Nat) (s : BitVec 32), i + d = xs.length → 10 * d < k →
    trammelref01_Sum.l0 k xs (s.toNat : Int) i = some ((~~~ crc s (xs.drop i)).toNat : Int) := by
  intro d
  induction d with
  | zero =>
    intro i k s hd hk
    obtain ⟨k, rfl⟩ : ∃ m, k = m + 1 := ⟨k - 1, by omega⟩
    simp only [trammelref01_Sum.l0]
    rw [if_neg (by omega), List.drop_eq_nil_of_le (by omega), bv_not]
    rfl
  | succ d ih =>
    intro i k s hd hk
    obtain ⟨k, rfl⟩ : ∃ m, k = (m + 8 + 1) + 1 := ⟨k - 10, by omega⟩
    have hlt : i < xs.length := by omega
    obtain ⟨h0, h1⟩ := hb xs[i] (List.getElem_mem hlt)
    simp only [trammelref01_Sum.l0]
    rw [if_pos (by omega)]
    have h2 := refsum_l1 xs i hlt hl h0 h1 8 k s (by omega)
    rw [show (8 : Int) - ((8 : Nat) : Int) = 0 by omega, Nat.sub_self, BitVec.ushiftRight_zero] at h2
    rw [h2, ih (i + 1) k _ (by omega) (by omega)]
    rw [List.drop_eq_getElem_cons hlt]
    rfl
theorem refsum_f {xs : List Int} (hb : ∀ x ∈ xs, 0 ≤ x ∧ x ≤ 255) (hl : xs.length ≤ 140737488355328) {k : Nat} (hk : 10 * xs.length < k) : trammelref01_Sum.f k xs = some (sumOf xs) := by
  unfold trammelref01_Sum.f
  have := refsum_l0 xs hb hl xs.length 0 k 4294967295#32 (by omega) hk
  simpa [sumOf] using this
theorem read_cases {b : List Int} (hb : ∀ x ∈ b, 0 ≤ x ∧ x ≤ 255) (p : Int) : (∃ e, e ≠ 0 ∧ readNum b p = (0, 0, e)) ∨ ∃ q n : Nat, p = q ∧ q + (put n).length ≤ b.length ∧ (b.drop q).take (put n).length = put n ∧ readNum b p = ((n : Int), p + ((put n).length : Int), 0) ∧ n < 18446744073709551616 := by
  unfold readNum
  by_cases h : p < 0 ∨ p > b.length
  · rw [if_pos h]; exact .inl ⟨2, by decide, rfl⟩
  · rw [if_neg h]
    obtain ⟨q, rfl⟩ := Int.eq_ofNat_of_zero_le (show 0 ≤ p by omega)
    rw [Int.toNat_natCast]
    rcases getL_once (b.drop q) (fun x hx => hb x (List.mem_of_mem_drop hx)) 0 0 (by omega) (by omega) (by decide) with g | g | ⟨n, hl, ht, g, g2, _⟩
    · rw [g]; exact .inl ⟨10, by decide, rfl⟩
    · rw [g]; exact .inl ⟨11, by decide, rfl⟩
    · rw [g]
      have := put_pos n
      rw [List.length_drop] at hl
      simp only [Nat.mul_zero, Int.pow_zero, Int.mul_one, Int.zero_add] at g2
      refine .inr ⟨q, n, rfl, by omega, ht, ?_, by omega⟩
      simp [fin]
/-! The callees, by what they answer. Bytes that are handed back: a slice that reads as they are, in memory of the call's own. -/
abbrev Rd (W : World) (A : Option Addr) (xs : List Int) : Prop := Kd.C (Kd.int .u8) W A xs.length xs
def Bytes (xs : List Int) (w : World) (e : Ending) (w' : World) : Prop := ∃ A c, e = .returned (.slice A xs.length c) ∧ xs.length ≤ c ∧ Rd w' A xs ∧ Below w.heap.size w w'
theorem bytes_of {xs : List Int} {w : World} {e : Ending} {w' : World} (h : ∃ v0_ : Value, e = .returned (v0_) ∧ Kd.R (Kd.int .u8) 5 w' w.heap.size (fun _ => True) v0_ xs ∧ Below w.heap.size w w') : Bytes xs w e w' := by
  obtain ⟨v, rfl, hR, hb⟩ := h
  obtain ⟨A, c, rfl⟩ := Kd.R_slice hR
  obtain ⟨_, hc, hC⟩ := Kd.R_reads' hR
  exact ⟨A, c, rfl, hc, hC, hb⟩
/-- The string of bytes that are read, whatever has been made or drawn since. -/
theorem str_c {w W : World} {A : Option Addr} {xs : List Int} (c : Nat) (h : Rd w A xs) (hb : Below w.heap.size w W) : (convert 22 9 (.slice A xs.length c)).run Try.prog W = .ok (.string (strOfNums xs)) W :=
  Kd.C_string Try.underlying22 Try.underlying5 Try.underlying9 (Kd.C_below h hb)
theorem put_c {n : Int} (h0 : 0 ≤ n) (h1 : n < 18446744073709551616) (w : World) : Calls Try.prog 13 #[.int .u64 n] w (Bytes (put n.toNat) w) :=
  (wire_Put.calls 12 n _ w (put_f h0 h1 (by decide))).mono fun _ _ h => bytes_of h
theorem works_c (w : World) : Calls Try.prog 10 #[] w fun e w' => e = .returned (.bool true) ∧ Below w.heap.size w w' := trammellaw01_works.calls 20 true w (works_f (by decide))
theorem get_c {b : List Int} (hb : ∀ x ∈ b, 0 ≤ x ∧ x ≤ 255) (hl : b.length ≤ 140737488355328) (p : Int) (A : Option Addr) (c : Nat) (hc : b.length ≤ c) (w : World) (h : Rd w A b) :
    Calls Try.prog 11 #[.slice A b.length c, .int .i64 p] w fun e w' => e = .returned (.tuple #[.int .u64 (readNum b p).1, .int .i64 (readNum b p).2.1, .int .i64 (readNum b p).2.2]) ∧ Drawn0 w w' :=
  wire_Get.calls (2 * b.length + 2) A c b p _ _ _ w h hc (get_f hb hl p (Nat.le_refl _))
/-! trammelkit: LentCode, KeptCode -/
theorem reslice (A : Option Addr) (n c m : Nat) (j : Int) (hj : j = (m : Int)) (hm : m ≤ c) (W : World) : (Instr.slice 22 (.slice A n c) none (some (.int .i64 j)) none).run Try.prog W = .ok (.slice A m c) W := by
  subst hj
  obtain ⟨i0, hi, _, hsz, _⟩ := info_parts info5
  have hel : Try.prog.elem 22 = 5 := by simp [Program.elem, Try.underlying22]
  have hu : Try.prog.underlying 22 = some (.slice (Try.prog.elem 22)) := by rw [hel]; exact Try.underlying22
  have ha : (A.map fun x => x.add 0) = A := by cases A <;> simp [Addr.add]
  rw [run_slice_h W 22 A n c hu .i64 m (by omega) (by omega), hel]
  simp [sizeOf, typeInfo, hi, hsz, sliced, Result.andThen, ha]
theorem rd_take {w : World} {A : Option Addr} {xs ys : List Int} (h : Rd w A (xs ++ ys)) : Rd w A xs := by
  have h1 := (Kd.reads_of_C (enc := Value.int .u8) (d := (0 : Int)) (h1 := fun _ => rfl) h).take_ xs.length (by simp)
  rw [List.take_left] at h1
  exact Kd.C_of_reads (h1 := fun _ => rfl) h1
set_option maxHeartbeats 4000000 in
set_option maxRecDepth 100000 in
theorem kept_c (l0 : List Int) (hl : l0.length ≤ 65536) (A A1 : Option Addr) (c c1 : Nat) (w : World) (hr0 : Rd w A (l0 ++ [77])) (hc : l0.length + 1 ≤ c) (hr1 : Rd w A1 l0) :
    Calls Try.prog 27 #[.slice A l0.length c, .slice A1 l0.length c1] w fun e w' => e = .returned (.bool true) ∧ Drawn0 w w' := by
  have hs : ((strOfNums l0).toList == (strOfNums l0).toList) = true := beq_self_eq_true _
  have hcv := str_c c (rd_take hr0) (Below.refl _ _)
  have hcw := Kd.C_string_drewN (P := Try.prog) (A := A) (c := c) Try.underlying22 Try.underlying5 Try.underlying9 (rd_take hr0)
  have hcx := str_c c1 hr1 (Below.refl _ _)
  have hcy := Kd.C_string_drewN (P := Try.prog) (A := A1) (c := c1) Try.underlying22 Try.underlying5 Try.underlying9 hr1
  obtain ⟨m, hm⟩ : ∃ m, m = l0.length + 1 := ⟨_, rfl⟩
  obtain ⟨j, hj⟩ : ∃ j : Int, IntKind.i64.wrap ((l0.length : Int) + 1) = j := ⟨_, rfl⟩
  have hjm : j = (m : Int) := by rw [← hj, i64_w, w64 (by omega) (by omega)]; omega
  have hj2 : wrap64 ((l0.length : Int) + 1) = j := by rw [← hj, i64_w]
  have hcut := reslice A l0.length c m j hjm (by omega)
  obtain ⟨ad, ha, hx⟩ := Kd.at_int hr0 (l0.length : Int) (by omega) (by simp; omega)
  rw [show rd (l0 ++ [77]) (l0.length : Int) = 77 by rw [rd_nat _ _ (by simp)]; simp] at hx
  cases ha
  (try simp only [Go.IntWalk.toNatUp] at hx)
  have p : (0 ≤ (l0.length : Int)) = True := eq_true (by omega)
  have q : ((l0.length : Int) < (m : Int)) = True := eq_true (by omega)
  clear hr0 hr1 hc hjm hm hl
  go_enter Try.func27, Try.ntmps27
  go_wp2
  go_ret
  exact ⟨by first | rfl | (simp; done) | (simp [*]; done), by repeat (first | exact Drawn0.refl _ | apply Drawn0.step)⟩
set_option maxHeartbeats 4000000 in
set_option maxRecDepth 100000 in
theorem lent_c (l0 : List Int) (hl : l0.length ≤ 65536) (A0 : Option Addr) (c0 : Nat) (hc0 : l0.length ≤ c0) (w : World) (hr0 : Rd w A0 l0) :
    Calls Try.prog 22 #[.slice A0 l0.length c0] w fun e w' => ∃ A c, e = .returned (.slice A l0.length c) ∧ l0.length + 1 ≤ c ∧ Rd w' A (l0 ++ [77]) ∧ Below w.heap.size w w' := by
  have HR0 := Aside0.mk hr0
  have HB := Aside0.mk (Below.refl w.heap.size w)
  have HL := Aside0.mk hl
  obtain ⟨xs, hxs⟩ : ∃ xs, xs = l0 ++ [77] := ⟨_, rfl⟩
  have hxl : xs.length = l0.length + 1 := by rw [hxs]; simp
  have HX := Aside0.mk hxs
  have HXL := Aside0.mk hxl
  clear hr0 hc0 hl hxs hxl
  go_enter Try.func22, Try.ntmps22
  go_wp2_with (first
    | ((with_reducible refine gate_builtin (b := .append) (xs := #[.tmp 4, .tmp 5]) rfl ?_); at_builtin; refine Kd.R_append_rows (Kd.int .u8) (w0 := w) w.heap.size rfl (.tmp 4) (.tmp 5) 22 5 (.int .u8 0) 1 rfl Try.underlying22 info5 rfl (by decide) (by omega) (.slice none 0 0) ([] : List Int) l0 _ _ _ (fun _ => True) (fun _ => False) rfl rfl ?aO ?aR (fun _ _ h => h) (fun _ h => h.elim) ?aF ?aB ?aS ?aL ?_; (case aR => repeat (first | exact HR0.out | (with_reducible refine Kd.C_alloc ?_ _) | (with_reducible refine Kd.C_drewN ?_ _) | (with_reducible refine Kd.C_drew ?_))); (case aB => exact (by repeat (first | (with_reducible first | exact HB.out | apply below_alloc | apply pw_below_drewN | apply below_drew1) | exact HB.out))); (case aF => exact (fun _ _ => trivial)); (case aO => exact ((Kd.R_nil _ _ _ _ (fun _ => True)))); (case aS => exact (below_size (by repeat (first | (with_reducible first | exact HB.out | apply below_alloc | apply pw_below_drewN | apply below_drew1) | exact HB.out)))); (case aL => have := HL.out; simp; omega); intro v1 w1 ho1 hb1 hg hat; rw [List.nil_append] at ho1; clear hg hat)
    | ((with_reducible refine gate_builtin (b := .append) (xs := #[.tmp 7, .tmp 8]) rfl ?_); at_builtin; refine Kd.R_append (Kd.int .u8) (w0 := w) w.heap.size rfl (.tmp 7) (.tmp 8) 22 5 (.int .u8 0) 1 rfl Try.underlying22 info5 rfl (by decide) (by omega) v1 l0 77 [.int .u8 77] (fun _ => True) (fun _ => False) rfl rfl ?aP (fun _ hk => hk.elim) ?aF ?aO ?aB ?aS ?aL ?_; (case aP => exact rfl); (case aB => exact (by repeat (first | (with_reducible first | exact hb1 | apply below_alloc | apply pw_below_drewN | apply below_drew1) | exact hb1))); (case aF => exact (fun _ _ => trivial)); (case aO => exact (by (with_reducible repeat (first | apply Kd.R_alloc | apply Kd.R_drewN | apply Kd.R_drew)); exact ho1)); (case aS => exact (below_size (by repeat (first | (with_reducible first | exact hb1 | apply below_alloc | apply pw_below_drewN | apply below_drew1) | exact hb1)))); (case aL => have := HL.out; omega); intro v2 w2 ho2 hb2 hg hat; rw [← HX.out] at ho2; clear hg hat; obtain ⟨A2, c2, e2⟩ := Kd.R_slice ho2; subst e2; have hr2 := (Kd.R_reads' ho2).2; have hcut := reslice A2 xs.length c2 l0.length (l0.length : Int) rfl (by have := hr2.1; have := HXL.out; omega); clear ho1 ho2))
  go_ret
  exact ⟨A2, c2, by first | rfl | (simp; done), by have := hr2.1; have := HXL.out; omega, by rw [← HX.out]; (with_reducible repeat (first | apply Kd.C_alloc | apply Kd.C_drewN | apply Kd.C_drew)); exact hr2.2, by repeat (first | (with_reducible first | exact hb2 | apply below_alloc | apply pw_below_drewN | apply below_drew1) | exact hb2)⟩
def Reads3 (N : Nat) (b : List Int) (args : List Value) (v : Value) : Prop := ∀ (A : Option Addr) (c : Nat) (W : World), b.length ≤ c → Rd W A b → Calls Try.prog N (.slice A b.length c :: args).toArray W fun e w' => e = .returned v ∧ Drawn0 W w'
set_option maxHeartbeats 4000000 in
set_option maxRecDepth 100000 in
theorem reads_long (b : List Int) (p s : Int) (hl : 65536 < b.length) (A : Option Addr) (c : Nat) (w : World) :
    Calls Try.prog 7 #[.slice A b.length c, .int .i64 p, .int .i64 s] w fun e w' => e = .returned (.bool true) ∧ Below w.heap.size w w' := by
  have g : decide ((65536 : Int) < (b.length : Int)) = true := decide_eq_true (by omega)
  have g' : decide ((b.length : Int) > (65536 : Int)) = true := decide_eq_true (by omega)
  go_enter Try.func7, Try.ntmps7
  go_wp2_with (first
    | (go_at_call 10; refine (works_c _).mono ?_; rintro e w' ⟨rfl, hb1⟩))
  go_ret
  exact ⟨by first | rfl | (simp; done), hb1⟩
set_option maxHeartbeats 8000000 in
set_option maxRecDepth 100000 in
theorem reads_ok (b : List Int) (p s : Int) (hl : b.length ≤ 65536) (A : Option Addr) (c : Nat) (hc : b.length ≤ c) (w : World) (h : Rd w A b) (g1 g2 g3 i1 i2 i3 v1 v2 v3 su : Int)
    (C11 : Reads3 11 b [.int .i64 p] (.tuple #[.int .u64 g1, .int .i64 g2, .int .i64 g3])) (C23 : Reads3 23 b [.int .i64 p] (.tuple #[.int .u64 g1, .int .i64 g2, .int .i64 g3]))
    (C12 : Reads3 12 b [.int .i64 p] (.tuple #[.int .i64 i1, .int .i64 i2, .int .i64 i3])) (C24 : Reads3 24 b [.int .i64 p] (.tuple #[.int .i64 i1, .int .i64 i2, .int .i64 i3]))
    (C21 : Reads3 21 b [.int .i64 p, .int .i64 s] (.tuple #[.int .u64 v1, .int .i64 v2, .int .i64 v3])) (C25 : Reads3 25 b [.int .i64 p, .int .i64 s] (.tuple #[.int .u64 v1, .int .i64 v2, .int .i64 v3]))
    (C15 : Reads3 15 b [] (.int .u32 su)) (C26 : Reads3 26 b [] (.int .u32 su)) :
    Calls Try.prog 7 #[.slice A b.length c, .int .i64 p, .int .i64 s] w fun e w' => e = .returned (.bool true) ∧ Below w.heap.size w w' := by
  have g : decide ((65536 : Int) < (b.length : Int)) = false := decide_eq_false (by omega)
  have g' : decide ((b.length : Int) > (65536 : Int)) = false := decide_eq_false (by omega)
  have D11 := Aside0.mk C11
  have D23 := Aside0.mk C23
  have D12 := Aside0.mk C12
  have D24 := Aside0.mk C24
  have D21 := Aside0.mk C21
  have D25 := Aside0.mk C25
  have D15 := Aside0.mk C15
  have D26 := Aside0.mk C26
  have HR := Aside0.mk h
  have HC := Aside0.mk hc
  have HL := Aside0.mk hl
  clear C11 C23 C12 C24 C21 C25 C15 C26 h hc hl
  go_enter Try.func7, Try.ntmps7
  go_wp2_with (first
    | (go_at_call 22; refine (lent_c b HL.out A c HC.out _ (by repeat (first | exact HR.out | (with_reducible refine Kd.C_drewN ?_ _) | (with_reducible refine Kd.C_drew ?_)))).mono ?_; rintro e w2 ⟨A2, c2, rfl, hc2, hr2, hb2⟩;
        have HB := Aside0.mk (below_step (w := w) (by repeat (first | (with_reducible first | exact Below.refl _ _ | apply pw_below_drewN | apply below_drew))) hb2); have HRB := Aside0.mk (Kd.C_below HR.out HB.out); have HRI := Aside0.mk (rd_take hr2); have HRM := Aside0.mk hr2; have HC2 := Aside0.mk hc2; clear hr2 hb2 hc2)
    | (go_at_call 11; refine (D11.out _ _ _ (by have := HC2.out; omega) (by repeat (first | exact HRI.out | (with_reducible refine Kd.C_drewN ?_ _) | (with_reducible refine Kd.C_drew ?_)))).mono ?_; rintro e w' ⟨rfl, ⟨nd, rfl⟩⟩)
    | (go_at_call 23; refine (D23.out _ _ _ HC.out (by repeat (first | exact HRB.out | (with_reducible refine Kd.C_drewN ?_ _) | (with_reducible refine Kd.C_drew ?_)))).mono ?_; rintro e w' ⟨rfl, ⟨nd, rfl⟩⟩)
    | (go_at_call 12; refine (D12.out _ _ _ (by have := HC2.out; omega) (by repeat (first | exact HRI.out | (with_reducible refine Kd.C_drewN ?_ _) | (with_reducible refine Kd.C_drew ?_)))).mono ?_; rintro e w' ⟨rfl, ⟨nd, rfl⟩⟩)
    | (go_at_call 24; refine (D24.out _ _ _ HC.out (by repeat (first | exact HRB.out | (with_reducible refine Kd.C_drewN ?_ _) | (with_reducible refine Kd.C_drew ?_)))).mono ?_; rintro e w' ⟨rfl, ⟨nd, rfl⟩⟩)
    | (go_at_call 21; refine (D21.out _ _ _ (by have := HC2.out; omega) (by repeat (first | exact HRI.out | (with_reducible refine Kd.C_drewN ?_ _) | (with_reducible refine Kd.C_drew ?_)))).mono ?_; rintro e w' ⟨rfl, ⟨nd, rfl⟩⟩)
    | (go_at_call 25; refine (D25.out _ _ _ HC.out (by repeat (first | exact HRB.out | (with_reducible refine Kd.C_drewN ?_ _) | (with_reducible refine Kd.C_drew ?_)))).mono ?_; rintro e w' ⟨rfl, ⟨nd, rfl⟩⟩)
    | (go_at_call 15; refine (D15.out _ _ _ (by have := HC2.out; omega) (by repeat (first | exact HRI.out | (with_reducible refine Kd.C_drewN ?_ _) | (with_reducible refine Kd.C_drew ?_)))).mono ?_; rintro e w' ⟨rfl, ⟨nd, rfl⟩⟩)
    | (go_at_call 26; refine (D26.out _ _ _ HC.out (by repeat (first | exact HRB.out | (with_reducible refine Kd.C_drewN ?_ _) | (with_reducible refine Kd.C_drew ?_)))).mono ?_; rintro e w' ⟨rfl, ⟨nd, rfl⟩⟩)
    | (go_at_call 27; refine (kept_c b HL.out _ _ _ _ _ (by repeat (first | exact HRM.out | (with_reducible refine Kd.C_drewN ?_ _) | (with_reducible refine Kd.C_drew ?_))) HC2.out (by repeat (first | exact HRB.out | (with_reducible refine Kd.C_drewN ?_ _) | (with_reducible refine Kd.C_drew ?_)))).mono ?_; rintro e w' ⟨rfl, ⟨nd, rfl⟩⟩)
    | (go_at_call 10; refine (works_c _).mono ?_; rintro e w' ⟨rfl, hb9⟩))
  go_ret
  exact ⟨by first | rfl | (simp; done), below_step (w := w) (by repeat (first | (with_reducible first | exact HB.out | apply pw_below_drewN | apply below_drew) | exact HB.out)) hb9⟩
theorem walk (a0 : Option Addr) (len0 cap0 : Nat) (z0 : List Int) (a1 a2 : Int) (w : World) (w0 : (a0 = none ∧ len0 = 0 ∧ cap0 = 0 ∧ z0 = []) ∨ ∃ x, a0 = some x ∧ len0 ≤ cap0 ∧ cap0 ≤ maxLen ∧ z0.length = cap0 ∧ (∀ i, i < z0.length → w.cell? (x.add i) = some (.int .u8 (z0.getD i 0))) ∧ ∀ n ∈ z0, (Lit.int .u8 n).wf = true) (y0 : len0 * 1 ≤ 140737488351232) (w1 : (Lit.int .i64 a1).wf = true) (w2 : (Lit.int .i64 a2).wf = true) :
    Calls Try.prog 7 #[.slice a0 len0 cap0, .int .i64 a1, .int .i64 a2] w fun e w' => e = .returned (.bool true) ∧ Below w.heap.size w w' := by
  obtain ⟨l0, rfl, hr0, hm0, hw0, hc0⟩ := ReadsInt.ofRowC w0
  have hr : Rd w a0 l0 := Kd.C_of_reads (d := (0 : Int)) (h1 := fun _ => rfl) hr0
  have hb : ∀ x ∈ l0, 0 ≤ x ∧ x ≤ 255 := fun x hx => wf8 (hw0 x hx)
  by_cases hl : 65536 < l0.length
  · exact reads_long l0 a1 a2 hl a0 cap0 w
  · have hl2 : l0.length ≤ 140737488355328 := by omega
    exact reads_ok l0 a1 a2 (by omega) a0 cap0 hc0 w hr _ _ _ _ _ _ _ _ _ _
      (fun A c W hc h => wire_Get.calls (2 * l0.length + 2) A c l0 a1 _ _ _ W h hc (get_f hb hl2 a1 (Nat.le_refl _)))
      (fun A c W hc h => trammelref01_Get.calls (2 * l0.length + 2) A c l0 a1 _ _ _ W h hc (refget_f hb hl2 a1 (Nat.le_refl _)))
      (fun A c W hc h => wire_GetInt.calls (2 * l0.length + 2) A c l0 a1 _ _ _ W h hc (getInt_f hb hl2 a1 (Nat.le_refl _)))
      (fun A c W hc h => trammelref01_GetInt.calls (2 * l0.length + 2) A c l0 a1 _ _ _ W h hc (refgetInt_f hb hl2 a1 (Nat.le_refl _)))
      (fun A c W hc h => wire_Wide.calls 12 A c l0 a1 a2 _ _ _ W h hc (wide_f hb hl2 a1 a2 (Nat.le_refl _)))
      (fun A c W hc h => trammelref01_Wide.calls 12 A c l0 a1 a2 _ _ _ W h hc (refwide_f hb hl2 a1 a2 (Nat.le_refl _)))
      (fun A c W hc h => wire_Sum.calls (10 * l0.length + 1) A c l0 _ W h hc (sum_f hb hl2 (Nat.lt_succ_self _)))
      (fun A c W hc h => trammelref01_Sum.calls (10 * l0.length + 1) A c l0 _ W h hc (refsum_f hb hl2 (Nat.lt_succ_self _)))
end Go.Proofs.Ytclmnipllboekaa.WalkWireReads
