/- WireSums: sums of bytes that differ in one byte differ, in plain Lean. Under no conditions beyond the statement's own. -/
import Derived.Test.YtclmnipllboekaaPWireSumsx2
import Derived.Test.YtclmnipllboekaaPlainSum
namespace Go.Proofs.Ytclmnipllboekaa.Pure.WireSumss
open Go.RowKit Go.Proofs.Ytclmnipllboekaa.PWireSums Go.Proofs.YtclmnipllboekaaW.PrintWords Go.Proofs.YtclmnipllboekaaW.PrintLast Go.Proofs.YtclmnipllboekaaW.PrintMore Go.Proofs.Ytclmnipllboekaa.Plain
/-! wire_Put -/
theorem put_l0 (n : Nat) : ∀ (k : Nat) (xs : List Int), (put n).length ≤ k → xs.length + (put n).length ≤ 140737488355328 → wire_Put.l0 k n xs = some (xs ++ put n) := by
  induction n using Nat.strongRecOn with
  | ind n ih =>
    intro k xs hk hx
    have h1 := put_pos n
    obtain ⟨k, rfl⟩ : ∃ m, k = m + 1 := ⟨k - 1, by omega⟩
    by_cases c : n < 128
    · simp only [wire_Put.l0]
      rw [if_neg (by omega), if_pos (by omega), put_small c, show (n : Int) % 256 = n by omega]
    · have hp := put_more c
      have hl : (put n).length = (put (n / 128)).length + 1 := by rw [hp]; simp
      simp only [wire_Put.l0]
      rw [if_pos (by omega), if_pos (by omega), or128 (by omega) (by omega), show (n : Int) / 128 = ((n / 128 : Nat) : Int) by omega,
        ih (n / 128) (by omega) k _ (by omega) (by simp; omega), hp, show (n : Int) % 256 % 128 + 128 = ((n % 128 + 128 : Nat) : Int) by omega]
      simp
theorem put_f {n : Int} (h0 : 0 ≤ n) (h1 : n < 18446744073709551616) {k : Nat} (hk : 10 ≤ k) : wire_Put.f k n = some (put n.toNat) := by
  have hl := put_len10 (n := n.toNat) (by omega)
  unfold wire_Put.f
  have := put_l0 n.toNat k (List.replicate 0 0) (by omega) (by simp; omega)
  rw [Int.toNat_of_nonneg h0] at this
  simpa using this
/-! wire_Get -/
theorem get_l0 (b : List Int) (hb : ∀ x ∈ b, 0 ≤ x ∧ x ≤ 255) (hl : b.length ≤ 140737488355328) (p : Nat) : ∀ (d i k : Nat) (a : Int), p + i + d = b.length → i ≤ 9 → 0 ≤ a → a < 2 ^ (7 * i) → 2 * d < k →
    wire_Get.l0 k b p a ((b.length : Int) - p) i = some (fin p (getL (b.drop (p + i)) i a)) := by
  intro d
  induction d with
  | zero =>
    intro i k a hd hi ha ha1 hk
    obtain ⟨k, rfl⟩ : ∃ m, k = m + 1 := ⟨k - 1, by omega⟩
    rw [List.drop_eq_nil_of_le (by omega)]
    simp only [wire_Get.l0, getL, fin]
    rw [if_neg (by omega)]
    rfl
  | succ d ih =>
    intro i k a hd hi ha ha1 hk
    obtain ⟨k, rfl⟩ : ∃ m, k = m + 2 := ⟨k - 2, by omega⟩
    have hlt : p + i < b.length := by omega
    have hw : wrap64 ((p : Int) + i) = ((p + i : Nat) : Int) := by rw [w64 (by omega) (by omega)]; omega
    have hr := rd_nat b (p + i) hlt
    obtain ⟨hc0, hc1⟩ := hb b[p + i] (List.getElem_mem hlt)
    rw [List.drop_eq_getElem_cons hlt]
    generalize hc : b[p + i] = c at *
    simp only [wire_Get.l0, getL]
    rw [if_pos (by omega), hw, if_pos (by omega), if_pos (by omega), hr]
    have key : ∀ B : Bool, (B = true ↔ (i = 9 ∧ c > 1 ∨ i > 0 ∧ c = 0)) → wire_Get.j2 (k + 1) b p a i c ((b.length : Int) - p) i B =
        some (fin p (if i = 9 ∧ c > 1 ∨ i > 0 ∧ c = 0 then (0, 0, 11) else if c < 128 then (a + c * 2 ^ (7 * i), (i : Int) + 1, 0) else getL (List.drop (p + i + 1) b) (i + 1) (a + (c - 128) * 2 ^ (7 * i)))) := by
      intro B hB
      simp only [wire_Get.j2]
      by_cases h : i = 9 ∧ c > 1 ∨ i > 0 ∧ c = 0
      · rw [if_pos (hB.2 h), if_pos h]; rfl
      · rw [if_neg (fun e => h (hB.1 e)), if_neg h, w64 (x := 7 * (i : Int)) (by omega) (by omega), if_pos (by omega), and128 hc0 hc1, and127 hc0 hc1]
        by_cases h2 : c < 128
        · rw [if_pos h2, if_pos rfl, if_pos h2, add_seven hi ha ha1 (by omega) (by omega) (by omega), hw, w64 (by omega) (by omega), show c % 128 = c by omega]
          simp only [fin, if_true, Option.some.injEq, Prod.mk.injEq, true_and, and_true]
          omega
        · have h9 : i ≠ 9 := fun e => h (.inl ⟨e, by omega⟩)
          rw [if_neg h2, if_neg (by decide), if_neg h2, add_seven hi ha ha1 (by omega) (by omega) (by omega), w64 (x := (i : Int) + 1) (by omega) (by omega), show c % 128 = c - 128 by omega]
          have hpos := pow7_pos i
          have hx : (c - 128) * 2 ^ (7 * i) ≤ 127 * 2 ^ (7 * i) := Int.mul_le_mul_of_nonneg_right (by omega) (by omega)
          have hx0 : 0 ≤ (c - 128) * 2 ^ (7 * i) := Int.mul_nonneg (by omega) (by omega)
          have := ih (i + 1) k (a + (c - 128) * 2 ^ (7 * i)) (by omega) (by omega) (by omega) (by rw [pow7_succ]; omega) (by omega)
          rw [show ((i : Int) + 1) = ((i + 1 : Nat) : Int) by omega, this, Nat.add_assoc]
    by_cases e9 : (i : Int) = 9
    · rw [if_pos e9]
      by_cases g : c > 1
      · rw [if_pos g]; exact key true (by simp; omega)
      · rw [if_neg g]
        by_cases g0 : (i : Int) > 0
        · rw [if_pos g0]; exact key (c == 0) (by simp; omega)
        · rw [if_neg g0]; exact key false (by simp; omega)
    · rw [if_neg e9]
      by_cases g0 : (i : Int) > 0
      · rw [if_pos g0]; exact key (c == 0) (by simp; omega)
      · rw [if_neg g0]; exact key false (by simp; omega)
theorem get_f {b : List Int} (hb : ∀ x ∈ b, 0 ≤ x ∧ x ≤ 255) (hl : b.length ≤ 140737488355328) (p : Int) {k : Nat} (hk : 2 * b.length + 2 ≤ k) : wire_Get.f k b p = some (readNum b p) := by
  obtain ⟨k, rfl⟩ : ∃ m, k = m + 1 := ⟨k - 1, by omega⟩
  unfold wire_Get.f readNum
  simp only [wire_Get.j0]
  by_cases h0 : p < 0
  · rw [if_pos h0, if_pos trivial, if_pos (.inl h0)]
  · rw [if_neg h0]
    by_cases h1 : p > b.length
    · rw [if_pos (by simp; omega), if_pos (.inr h1)]
    · rw [if_neg (by simp; omega), if_neg (by omega), w64 (by omega) (by omega)]
      obtain ⟨q, rfl⟩ := Int.eq_ofNat_of_zero_le (show 0 ≤ p by omega)
      have := get_l0 b hb hl q (b.length - q) 0 k 0 (by omega) (by omega) (by omega) (by decide) (by omega)
      simpa using this
/-! works -/
theorem works_f {k : Nat} (hk : 20 ≤ k) : trammellaw01_works.f k = some true := by
  have h1 : wire_Put.f k 300 = some [172, 2] := by
    rw [put_f (by omega) (by omega) (by omega)]
    rw [put_more (by decide), put_small (by decide)]
    rfl
  have h2 : wire_Get.f k [172, 2] 0 = some (300, 2, 0) := by
    rw [get_f (by simp) (by simp) 0 (by simp; omega)]
    rfl
  unfold trammellaw01_works.f
  rw [h1]; simp only [Option.bind_some]
  rw [h2]; simp only [Option.bind_some]
  rw [if_pos (show (strOfNums [172, 2]).toList = [172, 2] from by decide +kernel)]
  rfl
/-! wire_Sum -/
theorem sum_l1 (xs : List Int) (n i : Int) (hi : wrap64 (i + 1) = i + 1) : ∀ (d k : Nat) (s : BitVec 32), d ≤ 8 → wire_Sum.l1 (k + d + 1) (s.toNat : Int) xs n i (8 - (d : Int)) = wire_Sum.l0 k ((stps d s).toNat : Int) xs n (i + 1) := by
  intro d
  induction d with
  | zero =>
    intro k s _
    simp only [wire_Sum.l1, stps]
    rw [if_neg (by omega), hi]
  | succ d ih =>
    intro k s hd
    rw [show k + (d + 1) + 1 = (k + d + 1) + 1 by omega]
    simp only [wire_Sum.l1, stps]
    rw [if_pos (by omega), w64 (by omega) (by omega), bv_step, show (8 : Int) - ((d + 1 : Nat) : Int) + 1 = 8 - (d : Int) by omega]
    exact ih k (stp s) (by omega)
theorem sum_l0 (xs : List Int) (hb : ∀ x ∈ xs, 0 ≤ x ∧ x ≤ 255) (hl : xs.length ≤ 140737488355328) : ∀ (d i k : Nat) (s : BitVec 32), i + d = xs.length → 10 * d < k →
    wire_Sum.l0 k (s.toNat : Int) xs (xs.length : Int) i = some ((~~~ crc s (xs.drop i)).toNat : Int) := by
  intro d
  induction d with
  | zero =>
    intro i k s hd hk
    obtain ⟨k, rfl⟩ : ∃ m, k = m + 1 := ⟨k - 1, by omega⟩
    simp only [wire_Sum.l0]
    rw [if_neg (by omega), List.drop_eq_nil_of_le (by omega), bv_not]
    rfl
  | succ d ih =>
    intro i k s hd hk
    obtain ⟨k, rfl⟩ : ∃ m, k = (m + 8 + 1) + 1 := ⟨k - 10, by omega⟩
    have hlt : i < xs.length := by omega
    obtain ⟨h0, h1⟩ := hb xs[i] (List.getElem_mem hlt)
    have hr := rd_nat xs i hlt
    simp only [wire_Sum.l0]
    rw [if_pos (by omega), if_pos (by omega), if_pos (by omega), hr, bv_in s h0 h1]
    have h2 := sum_l1 xs (xs.length : Int) (i : Int) (by rw [w64 (by omega) (by omega)]) 8 k (s ^^^ BitVec.ofInt 32 xs[i]) (by omega)
    rw [show (8 : Int) - ((8 : Nat) : Int) = 0 by omega] at h2
    rw [h2, show (i : Int) + 1 = ((i + 1 : Nat) : Int) by omega, ih (i + 1) k _ (by omega) (by omega)]
    rw [List.drop_eq_getElem_cons hlt]
    rfl
theorem sum_f {xs : List Int} (hb : ∀ x ∈ xs, 0 ≤ x ∧ x ≤ 255) (hl : xs.length ≤ 140737488355328) {k : Nat} (hk : 10 * xs.length < k) : wire_Sum.f k xs = some (sumOf xs) := by
  unfold wire_Sum.f
  have := sum_l0 xs hb hl xs.length 0 k 4294967295#32 (by omega) hk
  simpa [sumOf] using this
theorem core {xs : List Int} (hb : ∀ x ∈ xs, 0 ≤ x ∧ x ≤ 255) {c : Int} (hc : 0 ≤ c ∧ c ≤ 255) {i : Nat} (hi : i < xs.length) : ((sumOf xs == sumOf (xs.set i c)) == (rd xs (i : Int) == c)) = true := by
  have hr := rd_nat xs i hi
  have h := sum_set hb hi hc.1 hc.2
  rw [hr]
  by_cases e : xs[i] = c
  · rw [e, h.2 e]; simp
  · have : ¬ sumOf xs = sumOf (xs.set i c) := fun g => e (h.1 g)
    rw [beq_eq_false_iff_ne.mpr e, beq_eq_false_iff_ne.mpr this]; rfl
end Go.Proofs.Ytclmnipllboekaa.Pure.WireSumss
namespace Go.Proofs.Ytclmnipllboekaa.Pure
open WireSumss Go.RowKit Go.Proofs.Ytclmnipllboekaa.PWireSums Go.Proofs.YtclmnipllboekaaW.PrintWords Go.Proofs.YtclmnipllboekaaW.PrintLast Go.Proofs.YtclmnipllboekaaW.PrintMore Go.Proofs.Ytclmnipllboekaa.Plain
theorem WireSums : trammellaw01_WireSums.Pure := by
  intro xs a c hm hm2 hb ha hc
  have hb' : ∀ x ∈ xs, 0 ≤ x ∧ x ≤ 255 := fun x hx => wf8 (hb x hx)
  have ha' := wf64 ha
  have hc' := wf8 hc
  refine ⟨10 * xs.length + 40, ?_⟩
  unfold trammellaw01_WireSums.f
  obtain ⟨k, hk⟩ : ∃ k, 10 * xs.length + 40 = k + 1 := ⟨10 * xs.length + 39, by omega⟩
  rw [hk]
  simp only [trammellaw01_WireSums.j0]
  by_cases h1 : (xs.length : Int) > 16384
  · rw [if_pos h1, if_pos trivial, works_f (by omega)]; rfl
  · rw [if_neg h1]
    by_cases h2 : (xs.length : Int) = 0
    · rw [if_pos (by simp [h2]), works_f (by omega)]; rfl
    · rw [if_neg (by simpa using h2), if_neg h2]
      have hpos : 0 < (xs.length : Int) := by omega
      have hlen : ([] : List Int).length + xs.length < 140737488355328 := by simp; omega
      have hS := sum_f hb' (show xs.length ≤ 140737488355328 by omega) (k := k) (by omega)
      have fin : ∀ i : Nat, i < xs.length → wire_Sum.f k (xs.set i c) = some (sumOf (xs.set i c)) := fun i hi =>
        sum_f (fun x hx => by rcases List.mem_or_eq_of_mem_set hx with h | rfl; exact hb' x h; exact hc') (by simp; omega) (by simp; omega)
      have ht := Int.tmod_lt_of_pos a hpos
      have ht0 := Int.lt_tmod_of_pos a hpos
      generalize Int.tmod a (xs.length : Int) = t at *
      simp only [List.nil_append, Option.bind_some]
      by_cases h3 : t < 0
      · rw [if_pos h3, if_pos hlen]
        rw [w64 (by omega) (by omega), if_pos (by omega), if_pos (by omega), hS]
        obtain ⟨i, hi⟩ := Int.eq_ofNat_of_zero_le (show 0 ≤ t + (xs.length : Int) by omega)
        rw [hi]
        simp only [Option.bind_some, Int.toNat_natCast]
        rw [fin i (by omega)]
        simp only [Option.bind_some]
        rw [if_pos (by omega), if_pos (core hb' hc' (by omega)), works_f (by omega)]
        rfl
      · rw [if_neg h3, if_pos hlen]
        rw [if_pos (by omega), if_pos (by omega), hS]
        obtain ⟨i, rfl⟩ := Int.eq_ofNat_of_zero_le (show 0 ≤ t by omega)
        simp only [Option.bind_some, Int.toNat_natCast]
        rw [fin i (by omega)]
        simp only [Option.bind_some]
        rw [if_pos (by omega), if_pos (core hb' hc' (by omega)), works_f (by omega)]
        rfl
end Go.Proofs.Ytclmnipllboekaa.Pure
