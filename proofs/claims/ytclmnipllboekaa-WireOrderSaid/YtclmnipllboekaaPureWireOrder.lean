/- WireOrder: a greater number has no fewer bytes, and the fixed forms agree, in plain Lean. Under no conditions beyond the statement's own. -/
import Derived.Test.YtclmnipllboekaaPWireOrderx
import Derived.Test.YtclmnipllboekaaPlainInt
namespace Go.Proofs.Ytclmnipllboekaa.Pure.WireOrders
open Go.RowKit Go.Proofs.Ytclmnipllboekaa.PWireOrder Go.Proofs.YtclmnipllboekaaW.PrintWords Go.Proofs.YtclmnipllboekaaW.PrintLast Go.Proofs.YtclmnipllboekaaW.PrintMore Go.Proofs.Ytclmnipllboekaa.Plain
/-! wire_Put -/
theorem put_l0 (n : Nat) : ∀ (k : Nat) (xs : List Int), (put n).length ≤ k → xs.length + (put n).length ≤ 140737488355328 → wire_Put.l0 k n xs = some (xs ++ put n) := by
  induction n using Nat.strongRecOn with
  | ind n ih =>
    intro k xs hk hx
    have h1 := put_pos n
    obtain ⟨k, rfl⟩ : ∃ m, k = m + 1 := ⟨k - 1, by omega⟩
    by_cases c : n < 128
    · simp only [wire_Put.l0]
      rw [if_neg (by omega), if_pos (by omega), put_small c, show (n : Int) % 256 = n by omega]
    · have hp := put_more c
      have hl : (put n).length = (put (n / 128)).length + 1 := by rw [hp]; simp
      simp only [wire_Put.l0]
      rw [if_pos (by omega), if_pos (by omega), or128 (by omega) (by omega), show (n : Int) / 128 = ((n / 128 : Nat) : Int) by omega,
        ih (n / 128) (by omega) k _ (by omega) (by simp; omega), hp, show (n : Int) % 256 % 128 + 128 = ((n % 128 + 128 : Nat) : Int) by omega]
      simp
theorem put_f {n : Int} (h0 : 0 ≤ n) (h1 : n < 18446744073709551616) {k : Nat} (hk : 10 ≤ k) : wire_Put.f k n = some (put n.toNat) := by
  have hl := put_len10 (n := n.toNat) (by omega)
  unfold wire_Put.f
  have := put_l0 n.toNat k (List.replicate 0 0) (by omega) (by simp; omega)
  rw [Int.toNat_of_nonneg h0] at this
  simpa using this
/-! wire_Get -/
theorem get_l0 (b : List Int) (hb : ∀ x ∈ b, 0 ≤ x ∧ x ≤ 255) (hl : b.length ≤ 140737488355328) (p : Nat) : ∀ (d i k : Nat) (a : Int), p + i + d = b.length → i ≤ 9 → 0 ≤ a → a < 2 ^ (7 * i) → 2 * d < k →
    wire_Get.l0 k b p a ((b.length : Int) - p) i = some (fin p (getL (b.drop (p + i)) i a)) := by
  intro d
  induction d with
  | zero =>
    intro i k a hd hi ha ha1 hk
    obtain ⟨k, rfl⟩ : ∃ m, k = m + 1 := ⟨k - 1, by omega⟩
    rw [List.drop_eq_nil_of_le (by omega)]
    simp only [wire_Get.l0, getL, fin]
    rw [if_neg (by omega)]
    rfl
  | succ d ih =>
    intro i k a hd hi ha ha1 hk
    obtain ⟨k, rfl⟩ : ∃ m, k = m + 2 := ⟨k - 2, by omega⟩
    have hlt : p + i < b.length := by omega
    have hw : wrap64 ((p : Int) + i) = ((p + i : Nat) : Int) := by rw [w64 (by omega) (by omega)]; omega
    have hr := rd_nat b (p + i) hlt
    obtain ⟨hc0, hc1⟩ := hb b[p + i] (List.getElem_mem hlt)
    rw [List.drop_eq_getElem_cons hlt]
    generalize hc : b[p + i] = c at *
    simp only [wire_Get.l0, getL]
    rw [if_pos (by omega), hw, if_pos (by omega), if_pos (by omega), hr]
    have key : ∀ B : Bool, (B = true ↔ (i = 9 ∧ c > 1 ∨ i > 0 ∧ c = 0)) → wire_Get.j2 (k + 1) b p a i c ((b.length : Int) - p) i B =
        some (fin p (if i = 9 ∧ c > 1 ∨ i > 0 ∧ c = 0 then (0, 0, 11) else if c < 128 then (a + c * 2 ^ (7 * i), (i : Int) + 1, 0) else getL (List.drop (p + i + 1) b) (i + 1) (a + (c - 128) * 2 ^ (7 * i)))) := by
      intro B hB
      simp only [wire_Get.j2]
      by_cases h : i = 9 ∧ c > 1 ∨ i > 0 ∧ c = 0
      · rw [if_pos (hB.2 h), if_pos h]; rfl
      · rw [if_neg (fun e => h (hB.1 e)), if_neg h, w64 (x := 7 * (i : Int)) (by omega) (by omega), if_pos (by omega), and128 hc0 hc1, and127 hc0 hc1]
        by_cases h2 : c < 128
        · rw [if_pos h2, if_pos rfl, if_pos h2, add_seven hi ha ha1 (by omega) (by omega) (by omega), hw, w64 (by omega) (by omega), show c % 128 = c by omega]
          simp only [fin, if_true, Option.some.injEq, Prod.mk.injEq, true_and, and_true]
          omega
        · have h9 : i ≠ 9 := fun e => h (.inl ⟨e, by omega⟩)
          rw [if_neg h2, if_neg (by decide), if_neg h2, add_seven hi ha ha1 (by omega) (by omega) (by omega), w64 (x := (i : Int) + 1) (by omega) (by omega), show c % 128 = c - 128 by omega]
          have hpos := pow7_pos i
          have hx : (c - 128) * 2 ^ (7 * i) ≤ 127 * 2 ^ (7 * i) := Int.mul_le_mul_of_nonneg_right (by omega) (by omega)
          have hx0 : 0 ≤ (c - 128) * 2 ^ (7 * i) := Int.mul_nonneg (by omega) (by omega)
          have := ih (i + 1) k (a + (c - 128) * 2 ^ (7 * i)) (by omega) (by omega) (by omega) (by rw [pow7_succ]; omega) (by omega)
          rw [show ((i : Int) + 1) = ((i + 1 : Nat) : Int) by omega, this, Nat.add_assoc]
    by_cases e9 : (i : Int) = 9
    · rw [if_pos e9]
      by_cases g : c > 1
      · rw [if_pos g]; exact key true (by simp; omega)
      · rw [if_neg g]
        by_cases g0 : (i : Int) > 0
        · rw [if_pos g0]; exact key (c == 0) (by simp; omega)
        · rw [if_neg g0]; exact key false (by simp; omega)
    · rw [if_neg e9]
      by_cases g0 : (i : Int) > 0
      · rw [if_pos g0]; exact key (c == 0) (by simp; omega)
      · rw [if_neg g0]; exact key false (by simp; omega)
theorem get_f {b : List Int} (hb : ∀ x ∈ b, 0 ≤ x ∧ x ≤ 255) (hl : b.length ≤ 140737488355328) (p : Int) {k : Nat} (hk : 2 * b.length + 2 ≤ k) : wire_Get.f k b p = some (readNum b p) := by
  obtain ⟨k, rfl⟩ : ∃ m, k = m + 1 := ⟨k - 1, by omega⟩
  unfold wire_Get.f readNum
  simp only [wire_Get.j0]
  by_cases h0 : p < 0
  · rw [if_pos h0, if_pos trivial, if_pos (.inl h0)]
  · rw [if_neg h0]
    by_cases h1 : p > b.length
    · rw [if_pos (by simp; omega), if_pos (.inr h1)]
    · rw [if_neg (by simp; omega), if_neg (by omega), w64 (by omega) (by omega)]
      obtain ⟨q, rfl⟩ := Int.eq_ofNat_of_zero_le (show 0 ≤ p by omega)
      have := get_l0 b hb hl q (b.length - q) 0 k 0 (by omega) (by omega) (by omega) (by decide) (by omega)
      simpa using this
/-! works -/
theorem works_f {k : Nat} (hk : 20 ≤ k) : trammellaw01_works.f k = some true := by
  have h1 : wire_Put.f k 300 = some [172, 2] := by
    rw [put_f (by omega) (by omega) (by omega)]
    rw [put_more (by decide), put_small (by decide)]
    rfl
  have h2 : wire_Get.f k [172, 2] 0 = some (300, 2, 0) := by
    rw [get_f (by simp) (by simp) 0 (by simp; omega)]
    rfl
  unfold trammellaw01_works.f
  rw [h1]; simp only [obind]
  rw [h2]; simp only [obind]
  rw [if_pos (show (strOfNums [172, 2]).toList = [172, 2] from by decide +kernel)]
  rfl
/-! wire_Fixed -/
theorem fixed_l0 (n : Int) (s : Nat) (hs : s ≤ 8) : ∀ (d i k : Nat), i + d = s → d < k → wire_Fixed.l0 k n ((List.range i).map (dig n) ++ List.replicate d 0) s i = some ((List.range s).map (dig n)) := by
  intro d
  induction d with
  | zero =>
    intro i k hd hk
    obtain ⟨k, rfl⟩ : ∃ m, k = m + 1 := ⟨k - 1, by omega⟩
    obtain rfl : i = s := by omega
    simp only [wire_Fixed.l0]
    rw [if_neg (by omega)]
    simp
  | succ d ih =>
    intro i k hd hk
    obtain ⟨k, rfl⟩ : ∃ m, k = m + 1 := ⟨k - 1, by omega⟩
    simp only [wire_Fixed.l0]
    have hlen : ((List.range i).map (dig n) ++ List.replicate (d + 1) 0).length = s := by simp; omega
    rw [if_pos (by omega), w64 (x := 8 * (i : Int)) (by omega) (by omega), if_pos (by omega), if_pos (by omega), if_pos (by rw [hlen]; omega), w64 (by omega) (by omega), shr_byte n i (by omega)]
    have e : ((List.range i).map (dig n) ++ List.replicate (d + 1) 0).set ((i : Int)).toNat (dig n i) = (List.range (i + 1)).map (dig n) ++ List.replicate d 0 := by
      rw [Int.toNat_natCast, List.set_append_right _ _ (by simp)]
      simp [List.range_succ, List.replicate_succ]
    rw [e, show (i : Int) + 1 = ((i + 1 : Nat) : Int) by omega]
    exact ih (i + 1) k (by omega) (by omega)
theorem fixed_f {n : Int} (s : Int) {k : Nat} (hk : 12 ≤ k) : wire_Fixed.f k n s = some (fixed n s) := by
  obtain ⟨k, rfl⟩ : ∃ m, k = m + 1 := ⟨k - 1, by omega⟩
  unfold wire_Fixed.f fixed
  simp only [wire_Fixed.j0]
  by_cases h1 : s < 1
  · rw [if_pos h1, if_pos trivial, if_pos (.inl h1)]
  · rw [if_neg h1]
    by_cases h2 : s > 8
    · rw [if_pos (by simpa using h2), if_pos (.inr h2)]
    · rw [if_neg (by simpa using h2), if_pos (by omega), if_pos (by omega), if_neg (by omega)]
      obtain ⟨t, rfl⟩ := Int.eq_ofNat_of_zero_le (show 0 ≤ s by omega)
      have := fixed_l0 n t (by omega) t 0 k (by omega) (by omega)
      simpa using this
/-! wire_Wide -/
theorem wide_l0 (b : List Int) (hb : ∀ x ∈ b, 0 ≤ x ∧ x ≤ 255) (hl : b.length ≤ 140737488355328) (p s : Nat) (hs : s ≤ 8) (hps : p + s ≤ b.length) : ∀ (d i k : Nat) (a : Int), i + d = s → 0 ≤ a → a < 2 ^ (8 * i) → d < k →
    wire_Wide.l0 k b p s a s i = some (a + le ((b.drop (p + i)).take d) * 2 ^ (8 * i), (p : Int) + s, 0) := by
  intro d
  induction d with
  | zero =>
    intro i k a hd ha ha1 hk
    obtain ⟨k, rfl⟩ : ∃ m, k = m + 1 := ⟨k - 1, by omega⟩
    simp only [wire_Wide.l0]
    rw [if_neg (by omega), w64 (by omega) (by omega)]
    simp [le]
  | succ d ih =>
    intro i k a hd ha ha1 hk
    obtain ⟨k, rfl⟩ : ∃ m, k = m + 1 := ⟨k - 1, by omega⟩
    have hlt : p + i < b.length := by omega
    obtain ⟨hc0, hc1⟩ := hb b[p + i] (List.getElem_mem hlt)
    simp only [wire_Wide.l0]
    rw [if_pos (by omega), w64 (x := (p : Int) + i) (by omega) (by omega), show (p : Int) + i = ((p + i : Nat) : Int) by omega, if_pos (by omega), if_pos (by omega), rd_nat b (p + i) hlt,
      w64 (x := 8 * (i : Int)) (by omega) (by omega), if_pos (by omega), w64 (by omega) (by omega), add_eight (show i ≤ 7 by omega) ha ha1 hc0 hc1, show (i : Int) + 1 = ((i + 1 : Nat) : Int) by omega]
    have hp := pow8_pos i
    have hx : b[p + i] * 2 ^ (8 * i) ≤ 255 * 2 ^ (8 * i) := Int.mul_le_mul_of_nonneg_right (by omega) (by omega)
    have hx0 : 0 ≤ b[p + i] * 2 ^ (8 * i) := Int.mul_nonneg (by omega) (by omega)
    rw [ih (i + 1) k _ (by omega) (by omega) (by rw [pow8_succ]; omega) (by omega)]
    rw [List.drop_eq_getElem_cons hlt, List.take_succ_cons, le_cons, pow8_succ]
    generalize b[p + i] = c
    rw [show p + (i + 1) = p + i + 1 by omega]
    generalize le (List.take d (List.drop (p + i + 1) b)) = u
    simp only [Option.some.injEq, Prod.mk.injEq, and_true]
    rw [Int.add_mul, Int.mul_assoc 256, ← Int.mul_assoc u, Int.mul_comm u 256, Int.mul_assoc 256]
    omega
theorem wide_f {b : List Int} (hb : ∀ x ∈ b, 0 ≤ x ∧ x ≤ 255) (hl : b.length ≤ 140737488355328) (p s : Int) {k : Nat} (hk : 12 ≤ k) : wire_Wide.f k b p s = some (wide b p s) := by
  obtain ⟨k, rfl⟩ : ∃ m, k = m + 1 := ⟨k - 1, by omega⟩
  unfold wire_Wide.f wide
  simp only [wire_Wide.j0]
  by_cases h1 : s < 1
  · rw [if_pos h1, if_pos (by simpa using h1), if_pos (.inl h1)]
  · rw [if_neg h1]
    by_cases h2 : s > 8
    · rw [if_pos h2, if_pos (by simpa using h2), if_pos (.inr (.inl h2))]
    · rw [if_neg h2]
      by_cases h3 : p < 0
      · rw [if_pos h3, if_pos (by simpa using h3), if_pos (.inr (.inr (.inl h3)))]
      · rw [if_neg h3]
        by_cases h4 : p > b.length
        · rw [if_pos (by simpa using h4), if_pos (.inr (.inr (.inr h4)))]
        · rw [if_neg (by simpa using h4), w64 (by omega) (by omega), if_neg (show ¬ (s < 1 ∨ s > 8 ∨ p < 0 ∨ p > (b.length : Int)) by omega)]
          by_cases h5 : s > (b.length : Int) - p
          · rw [if_pos h5, if_pos h5]
          · rw [if_neg h5, if_neg h5]
            obtain ⟨q, rfl⟩ := Int.eq_ofNat_of_zero_le (show 0 ≤ p by omega)
            obtain ⟨t, rfl⟩ := Int.eq_ofNat_of_zero_le (show 0 ≤ s by omega)
            have := wide_l0 b hb hl q t (by omega) (by omega) t 0 k 0 (by omega) (by omega) (by decide) (by omega)
            simpa using this
theorem strEq {a b : List Int} (h : a = b) : ((strOfNums a).toList != (strOfNums b).toList) = false := by subst h; simp
theorem j3_f {x y : Int} (hx : 0 ≤ x) (hy : y < 18446744073709551616) (hxy : x ≤ y) {k : Nat} (hk : 40 ≤ k) : trammellaw01_WireOrder.j3 k x y false = some true := by
  obtain ⟨k, rfl⟩ : ∃ m, k = m + 1 := ⟨k - 1, by omega⟩
  have hm := put_mono x.toNat y.toNat (by omega)
  simp only [trammellaw01_WireOrder.j3]
  rw [if_neg (by decide), put_f hx (by omega) (by omega), put_f (by omega) hy (by omega)]
  simp only [obind]
  rw [if_pos (by omega), works_f (by omega)]
  rfl
theorem shl1 (t : Nat) (ht : t ≤ 7) : shl .u64 1 (8 * (t : Int)) = 2 ^ (8 * t) := by
  have := pow8 ht
  have := pow8_pos t
  unfold shl
  rw [show min (8 * (t : Int)).toNat IntKind.u64.bits = 8 * t by show min (8 * (t : Int)).toNat 64 = 8 * t; omega, Int.one_mul, u64_id (by omega) (by omega)]
theorem j1_f {x y : Int} (hx : 0 ≤ x) (hy : y < 18446744073709551616) (hxy : x ≤ y) (t : Nat) (ht : t ≤ 7) {k : Nat} (hk : 60 ≤ k) : trammellaw01_WireOrder.j1 k x y t = some true := by
  obtain ⟨k, rfl⟩ : ∃ m, k = m + 1 + 1 := ⟨k - 2, by omega⟩
  have h8 := fixed_len (n := x) (s := 8) (by omega) (by omega)
  have hs := fixed_len (n := x) (s := (t : Int)) (by omega) (by omega)
  simp only [trammellaw01_WireOrder.j1]
  rw [fixed_f 8 (by omega), fixed_f (t : Int) (by omega)]
  simp only [obind]
  rw [if_pos h8, if_pos hs, if_pos (by omega), if_pos (by omega), Int.toNat_natCast, strEq (fixed_take x t ht)]
  simp only [trammellaw01_WireOrder.j2]
  rw [if_neg (by decide), wide_f (fixed_bytes _ _) (by omega) _ _ (by omega)]
  by_cases h0 : t = 0
  · subst h0
    have e : wide (fixed x ((0 : Nat) : Int)) 0 ((0 : Nat) : Int) = (0, 0, 2) := by rw [wide_fixed x 0 ht]; rfl
    rw [e]
    simp only [obind]
    rw [if_neg (by decide), if_pos (show ((0 : Nat) : Int) = 0 from rfl)]
    exact j3_f hx hy hxy (by omega)
  · have hp := pow8_pos t
    have e : wide (fixed x (t : Int)) 0 (t : Int) = (x % 2 ^ (8 * t), (t : Int), 0) := by rw [wide_fixed x t ht, if_neg (by omega)]
    rw [e]
    simp only [obind]
    rw [if_pos (by omega), if_pos trivial, w64 (by omega) (by omega), if_pos (by omega), shl1 t ht, if_neg (by omega), if_pos (by rw [Int.tmod_eq_emod_of_nonneg hx]), if_neg (by omega)]
    exact j3_f hx hy hxy (by omega)
theorem j0_f {x y : Int} (hx : 0 ≤ x) (hy : y < 18446744073709551616) (hxy : x ≤ y) {s : Int} {k : Nat} (hk : 70 ≤ k) : trammellaw01_WireOrder.j0 k x y s = some true := by
  obtain ⟨k, rfl⟩ : ∃ m, k = m + 1 := ⟨k - 1, by omega⟩
  have ht := Int.tmod_lt_of_pos s (show (0 : Int) < 8 by omega)
  have ht0 := Int.lt_tmod_of_pos s (show (0 : Int) < 8 by omega)
  simp only [trammellaw01_WireOrder.j0]
  generalize Int.tmod s 8 = r at *
  by_cases h : r < 0
  · rw [if_pos h, w64 (by omega) (by omega)]
    obtain ⟨t, e⟩ := Int.eq_ofNat_of_zero_le (show 0 ≤ r + 8 by omega)
    rw [e]
    exact j1_f hx hy hxy t (by omega) (by omega)
  · rw [if_neg h]
    obtain ⟨t, rfl⟩ := Int.eq_ofNat_of_zero_le (show 0 ≤ r by omega)
    exact j1_f hx hy hxy t (by omega) (by omega)
end Go.Proofs.Ytclmnipllboekaa.Pure.WireOrders
namespace Go.Proofs.Ytclmnipllboekaa.Pure
open WireOrders Go.RowKit Go.Proofs.Ytclmnipllboekaa.PWireOrder Go.Proofs.YtclmnipllboekaaW.PrintWords Go.Proofs.YtclmnipllboekaaW.PrintLast Go.Proofs.YtclmnipllboekaaW.PrintMore Go.Proofs.Ytclmnipllboekaa.Plain
theorem WireOrder : trammellaw01_WireOrder.Pure := by
  intro a b s ha hb _
  obtain ⟨a0, a1⟩ := wfu64 ha
  obtain ⟨b0, b1⟩ := wfu64 hb
  refine ⟨100, ?_⟩
  unfold trammellaw01_WireOrder.f
  by_cases h : a > b
  · rw [if_pos h]; exact j0_f b0 a1 (by omega) (by omega)
  · rw [if_neg h]; exact j0_f a0 b1 (by omega) (by omega)
end Go.Proofs.Ytclmnipllboekaa.Pure
