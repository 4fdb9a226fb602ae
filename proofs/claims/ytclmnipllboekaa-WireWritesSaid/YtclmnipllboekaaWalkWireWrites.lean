/- WireWrites: the walk typed by hand over the printed Put, PutInt, Fixed, their references and spoilt. Under no conditions beyond the statement's own. -/
import Derived.Test.YtclmnipllboekaaPWireWritesx2
import Derived.Test.YtclmnipllboekaaPlainInt
import Derived.Test.YtclmnipllboekaaPlainSum
import Derived.Outline
import Derived.Deep.RegionWith
import Derived.Test.YtclmnipllboekaaSwitch
set_option linter.unusedSimpArgs false
set_option linter.unusedVariables false
namespace Go.Proofs.Ytclmnipllboekaa.WalkWireWrites
open Go.RowKit Go.Proofs.Ytclmnipllboekaa.PWireWrites Go.Proofs.YtclmnipllboekaaW.PrintWords Go.Proofs.YtclmnipllboekaaW.PrintLast Go.Proofs.YtclmnipllboekaaW.PrintMore Go.Proofs.Ytclmnipllboekaa.Plain
/-! wire_Put -/
theorem put_l0 (n : Nat) : ∀ (k : Nat) (xs : List Int), (put n).length ≤ k → xs.length + (put n).length ≤ 140737488355328 → wire_Put.l0 k n xs = some (xs ++ put n) := by
  induction n using Nat.strongRecOn with
  | ind n ih =>
    intro k xs hk hx
    have h1 := put_pos n
    obtain ⟨k, rfl⟩ : ∃ m, k = m + 1 := ⟨k - 1, by omega⟩
    by_cases c : n < 128
    · simp only [wire_Put.l0]
      rw [if_neg (by omega), if_pos (by omega), put_small c, show (n : Int) % 256 = n by omega]
    · have hp := put_more c
      have hl : (put n).length = (put (n / 128)).length + 1 := by rw [hp]; simp
      simp only [wire_Put.l0]
      rw [if_pos (by omega), if_pos (by omega), or128 (by omega) (by omega), show (n : Int) / 128 = ((n / 128 : Nat) : Int) by omega,
        ih (n / 128) (by omega) k _ (by omega) (by simp; omega), hp, show (n : Int) % 256 % 128 + 128 = ((n % 128 + 128 : Nat) : Int) by omega]
      simp
theorem put_f {n : Int} (h0 : 0 ≤ n) (h1 : n < 18446744073709551616) {k : Nat} (hk : 10 ≤ k) : wire_Put.f k n = some (put n.toNat) := by
  have hl := put_len10 (n := n.toNat) (by omega)
  unfold wire_Put.f
  have := put_l0 n.toNat k (List.replicate 0 0) (by omega) (by simp; omega)
  rw [Int.toNat_of_nonneg h0] at this
  simpa using this
/-! wire_Get -/
theorem get_l0 (b : List Int) (hb : ∀ x ∈ b, 0 ≤ x ∧ x ≤ 255) (hl : b.length ≤ 140737488355328) (p : Nat) : ∀ (d i k : Nat) (a : Int), p + i + d = b.length → i ≤ 9 → 0 ≤ a → a < 2 ^ (7 * i) → 2 * d < k →
    wire_Get.l0 k b p a ((b.length : Int) - p) i = some (fin p (getL (b.drop (p + i)) i a)) := by
  intro d
  induction d with
  | zero =>
    intro i k a hd hi ha ha1 hk
    obtain ⟨k, rfl⟩ : ∃ m, k = m + 1 := ⟨k - 1, by omega⟩
    rw [List.drop_eq_nil_of_le (by omega)]
    simp only [wire_Get.l0, getL, fin]
    rw [if_neg (by omega)]
    rfl
  | succ d ih =>
    intro i k a hd hi ha ha1 hk
    obtain ⟨k, rfl⟩ : ∃ m, k = m + 2 := ⟨k - 2, by omega⟩
    have hlt : p + i < b.length := by omega
    have hw : wrap64 ((p : Int) + i) = ((p + i : Nat) : Int) := by rw [w64 (by omega) (by omega)]; omega
    have hr := rd_nat b (p + i) hlt
    obtain ⟨hc0, hc1⟩ := hb b[p + i] (List.getElem_mem hlt)
    rw [List.drop_eq_getElem_cons hlt]
    generalize hc : b[p + i] = c at *
    simp only [wire_Get.l0, getL]
    rw [if_pos (by omega), hw, if_pos (by omega), if_pos (by omega), hr]
    have key : ∀ B : Bool, (B = true ↔ (i = 9 ∧ c > 1 ∨ i > 0 ∧ c = 0)) → wire_Get.j2 (k + 1) b p a i c ((b.length : Int) - p) i B =
        some (fin p (if i = 9 ∧ c > 1 ∨ i > 0 ∧ c = 0 then (0, 0, 11) else if c < 128 then (a + c * 2 ^ (7 * i), (i : Int) + 1, 0) else getL (List.drop (p + i + 1) b) (i + 1) (a + (c - 128) * 2 ^ (7 * i)))) := by
      intro B hB
      simp only [wire_Get.j2]
      by_cases h : i = 9 ∧ c > 1 ∨ i > 0 ∧ c = 0
      · rw [if_pos (hB.2 h), if_pos h]; rfl
      · rw [if_neg (fun e => h (hB.1 e)), if_neg h, w64 (x := 7 * (i : Int)) (by omega) (by omega), if_pos (by omega), and128 hc0 hc1, and127 hc0 hc1]
        by_cases h2 : c < 128
        · rw [if_pos h2, if_pos rfl, if_pos h2, add_seven hi ha ha1 (by omega) (by omega) (by omega), hw, w64 (by omega) (by omega), show c % 128 = c by omega]
          simp only [fin, if_true, Option.some.injEq, Prod.mk.injEq, true_and, and_true]
          omega
        · have h9 : i ≠ 9 := fun e => h (.inl ⟨e, by omega⟩)
          rw [if_neg h2, if_neg (by decide), if_neg h2, add_seven hi ha ha1 (by omega) (by omega) (by omega), w64 (x := (i : Int) + 1) (by omega) (by omega), show c % 128 = c - 128 by omega]
          have hpos := pow7_pos i
          have hx : (c - 128) * 2 ^ (7 * i) ≤ 127 * 2 ^ (7 * i) := Int.mul_le_mul_of_nonneg_right (by omega) (by omega)
          have hx0 : 0 ≤ (c - 128) * 2 ^ (7 * i) := Int.mul_nonneg (by omega) (by omega)
          have := ih (i + 1) k (a + (c - 128) * 2 ^ (7 * i)) (by omega) (by omega) (by omega) (by rw [pow7_succ]; omega) (by omega)
          rw [show ((i : Int) + 1) = ((i + 1 : Nat) : Int) by omega, this, Nat.add_assoc]
    by_cases e9 : (i : Int) = 9
    · rw [if_pos e9]
      by_cases g : c > 1
      · rw [if_pos g]; exact key true (by simp; omega)
      · rw [if_neg g]
        by_cases g0 : (i : Int) > 0
        · rw [if_pos g0]; exact key (c == 0) (by simp; omega)
        · rw [if_neg g0]; exact key false (by simp; omega)
    · rw [if_neg e9]
      by_cases g0 : (i : Int) > 0
      · rw [if_pos g0]; exact key (c == 0) (by simp; omega)
      · rw [if_neg g0]; exact key false (by simp; omega)
theorem get_f {b : List Int} (hb : ∀ x ∈ b, 0 ≤ x ∧ x ≤ 255) (hl : b.length ≤ 140737488355328) (p : Int) {k : Nat} (hk : 2 * b.length + 2 ≤ k) : wire_Get.f k b p = some (readNum b p) := by
  obtain ⟨k, rfl⟩ : ∃ m, k = m + 1 := ⟨k - 1, by omega⟩
  unfold wire_Get.f readNum
  simp only [wire_Get.j0]
  by_cases h0 : p < 0
  · rw [if_pos h0, if_pos trivial, if_pos (.inl h0)]
  · rw [if_neg h0]
    by_cases h1 : p > b.length
    · rw [if_pos (by simp; omega), if_pos (.inr h1)]
    · rw [if_neg (by simp; omega), if_neg (by omega), w64 (by omega) (by omega)]
      obtain ⟨q, rfl⟩ := Int.eq_ofNat_of_zero_le (show 0 ≤ p by omega)
      have := get_l0 b hb hl q (b.length - q) 0 k 0 (by omega) (by omega) (by omega) (by decide) (by omega)
      simpa using this
/-! works -/
theorem works_f {k : Nat} (hk : 20 ≤ k) : trammellaw01_works.f k = some true := by
  have h1 : wire_Put.f k 300 = some [172, 2] := by
    rw [put_f (by omega) (by omega) (by omega)]
    rw [put_more (by decide), put_small (by decide)]
    rfl
  have h2 : wire_Get.f k [172, 2] 0 = some (300, 2, 0) := by
    rw [get_f (by simp) (by simp) 0 (by simp; omega)]
    rfl
  unfold trammellaw01_works.f
  rw [h1]; simp only [obind]
  rw [h2]; simp only [obind]
  rw [if_pos (show (strOfNums [172, 2]).toList = [172, 2] from by decide +kernel)]
  rfl
/-! wire_PutInt, wire_GetInt -/
theorem putInt_f {n : Int} (h0 : -9223372036854775808 ≤ n) (h1 : n ≤ 9223372036854775807) {k : Nat} (hk : 10 ≤ k) : wire_PutInt.f k n = some (put (zig n).toNat) := by
  unfold wire_PutInt.f
  rw [zig_eq h0 h1, put_f (zig_lo n) (zig_hi h0 h1) hk]
  rfl
/-! wire_Fixed -/
theorem fixed_l0 (n : Int) (s : Nat) (hs : s ≤ 8) : ∀ (d i k : Nat), i + d = s → d < k → wire_Fixed.l0 k n ((List.range i).map (dig n) ++ List.replicate d 0) s i = some ((List.range s).map (dig n)) := by
  intro d
  induction d with
  | zero =>
    intro i k hd hk
    obtain ⟨k, rfl⟩ : ∃ m, k = m + 1 := ⟨k - 1, by omega⟩
    obtain rfl : i = s := by omega
    simp only [wire_Fixed.l0]
    rw [if_neg (by omega)]
    simp
  | succ d ih =>
    intro i k hd hk
    obtain ⟨k, rfl⟩ : ∃ m, k = m + 1 := ⟨k - 1, by omega⟩
    simp only [wire_Fixed.l0]
    have hlen : ((List.range i).map (dig n) ++ List.replicate (d + 1) 0).length = s := by simp; omega
    rw [if_pos (by omega), w64 (x := 8 * (i : Int)) (by omega) (by omega), if_pos (by omega), if_pos (by omega), if_pos (by rw [hlen]; omega), w64 (by omega) (by omega), shr_byte n i (by omega)]
    have e : ((List.range i).map (dig n) ++ List.replicate (d + 1) 0).set ((i : Int)).toNat (dig n i) = (List.range (i + 1)).map (dig n) ++ List.replicate d 0 := by
      rw [Int.toNat_natCast, List.set_append_right _ _ (by simp)]
      simp [List.range_succ, List.replicate_succ]
    rw [e, show (i : Int) + 1 = ((i + 1 : Nat) : Int) by omega]
    exact ih (i + 1) k (by omega) (by omega)
theorem fixed_f {n : Int} (s : Int) {k : Nat} (hk : 12 ≤ k) : wire_Fixed.f k n s = some (fixed n s) := by
  obtain ⟨k, rfl⟩ : ∃ m, k = m + 1 := ⟨k - 1, by omega⟩
  unfold wire_Fixed.f fixed
  simp only [wire_Fixed.j0]
  by_cases h1 : s < 1
  · rw [if_pos h1, if_pos trivial, if_pos (.inl h1)]
  · rw [if_neg h1]
    by_cases h2 : s > 8
    · rw [if_pos (by simpa using h2), if_pos (.inr h2)]
    · rw [if_neg (by simpa using h2), if_pos (by omega), if_pos (by omega), if_neg (by omega)]
      obtain ⟨t, rfl⟩ := Int.eq_ofNat_of_zero_le (show 0 ≤ s by omega)
      have := fixed_l0 n t (by omega) t 0 k (by omega) (by omega)
      simpa using this
/-! trammelref01: Put, PutInt, Fixed -/
theorem refput_l0 (n : Nat) : ∀ (k : Nat) (xs : List Int), n < 18446744073709551616 → (put n).length ≤ k → xs.length + (put n).length ≤ 140737488355328 → trammelref01_Put.l0 k n xs = some (xs ++ put n) := by
  induction n using Nat.strongRecOn with
  | ind n ih =>
    intro k xs hn hk hx
    have h1 := put_pos n
    obtain ⟨k, rfl⟩ : ∃ m, k = m + 1 := ⟨k - 1, by omega⟩
    by_cases c : n < 128
    · simp only [trammelref01_Put.l0]
      rw [if_neg (by omega), if_pos (by omega), put_small c, show (n : Int) % 256 = n by omega]
    · have hp := put_more c
      have hl : (put n).length = (put (n / 128)).length + 1 := by rw [hp]; simp
      have e1 : Int.tdiv (n : Int) 128 = ((n / 128 : Nat) : Int) := by rw [Int.tdiv_eq_ediv_of_nonneg (by omega)]; omega
      have e2 : Int.tmod (n : Int) 128 = ((n % 128 : Nat) : Int) := by rw [Int.tmod_eq_emod_of_nonneg (by omega)]; omega
      simp only [trammelref01_Put.l0]
      rw [if_pos (by omega), if_pos (by omega), e1, e2, u64_id (n := ((n / 128 : Nat) : Int)) (by omega) (by omega), u64_id (by omega) (by omega),
        ih (n / 128) (by omega) k _ (by omega) (by omega) (by simp; omega), hp, show ((n % 128 : Nat) : Int) + 128 = ((n % 128 + 128 : Nat) : Int) by omega, show ((n % 128 + 128 : Nat) : Int) % 256 = ((n % 128 + 128 : Nat) : Int) by omega]
      simp
theorem refput_f {n : Int} (h0 : 0 ≤ n) (h1 : n < 18446744073709551616) {k : Nat} (hk : 10 ≤ k) : trammelref01_Put.f k n = some (put n.toNat) := by
  have hl := put_len10 (n := n.toNat) (by omega)
  unfold trammelref01_Put.f
  have := refput_l0 n.toNat k [] (by omega) (by omega) (by simp; omega)
  rw [Int.toNat_of_nonneg h0] at this
  simpa using this
theorem refputInt_f {n : Int} (h0 : -9223372036854775808 ≤ n) (h1 : n ≤ 9223372036854775807) {k : Nat} (hk : 10 ≤ k) : trammelref01_PutInt.f k n = some (put (zig n).toNat) := by
  unfold trammelref01_PutInt.f
  by_cases c : n < 0
  · rw [if_pos c, w64 (x := n + 1) (by omega) (by omega), w64 (x := -(n + 1)) (by omega) (by omega), u64_id (n := -(n + 1)) (by omega) (by omega), u64_id (n := 2 * -(n + 1)) (by omega) (by omega), u64_id (n := 2 * -(n + 1) + 1) (by omega) (by omega), refput_f (by omega) (by omega) hk]
    rw [show zig n = 2 * -(n + 1) + 1 by unfold zig; rw [if_pos c]; omega]
    rfl
  · rw [if_neg c, u64_id (n := n) (by omega) (by omega), u64_id (n := 2 * n) (by omega) (by omega), refput_f (by omega) (by omega) hk]
    rw [show zig n = 2 * n by unfold zig; rw [if_neg c]]
    rfl
theorem reffixed_l0 (n : Int) (s : Nat) (hs : s ≤ 8) : ∀ (d i k : Nat), i + d = s → d < k → trammelref01_Fixed.l0 k n s ((List.range i).map (dig n)) i = some ((List.range s).map (dig n)) := by
  intro d
  induction d with
  | zero =>
    intro i k hd hk
    obtain ⟨k, rfl⟩ : ∃ m, k = m + 1 := ⟨k - 1, by omega⟩
    obtain rfl : i = s := by omega
    simp only [trammelref01_Fixed.l0]
    rw [if_neg (by omega)]
  | succ d ih =>
    intro i k hd hk
    obtain ⟨k, rfl⟩ : ∃ m, k = m + 1 := ⟨k - 1, by omega⟩
    simp only [trammelref01_Fixed.l0]
    rw [if_pos (by omega), if_pos (by omega), w64 (x := 8 * (i : Int)) (by omega) (by omega), if_pos (by omega), if_pos (by simp; omega), w64 (by omega) (by omega), shr_byte n i (by omega)]
    rw [show (List.range i).map (dig n) ++ [dig n i] = (List.range (i + 1)).map (dig n) by simp [List.range_succ], show (i : Int) + 1 = ((i + 1 : Nat) : Int) by omega]
    exact ih (i + 1) k (by omega) (by omega)
theorem reffixed_f {n : Int} (s : Int) {k : Nat} (hk : 12 ≤ k) : trammelref01_Fixed.f k n s = some (fixed n s) := by
  obtain ⟨k, rfl⟩ : ∃ m, k = m + 1 := ⟨k - 1, by omega⟩
  unfold trammelref01_Fixed.f fixed
  by_cases h1 : s < 1
  · simp only [trammelref01_Fixed.l0]
    rw [if_neg (by omega), if_pos (.inl h1)]
  · by_cases h2 : s > 8
    · simp only [trammelref01_Fixed.l0]
      rw [if_pos (by omega), if_neg (by omega), if_pos (.inr h2)]
    · rw [if_neg (by omega)]
      obtain ⟨t, rfl⟩ := Int.eq_ofNat_of_zero_le (show 0 ≤ s by omega)
      have := reffixed_l0 n t (by omega) t 0 (k + 1) (by omega) (by omega)
      simpa using this
theorem read_cases {b : List Int} (hb : ∀ x ∈ b, 0 ≤ x ∧ x ≤ 255) (p : Int) : (∃ e, e ≠ 0 ∧ readNum b p = (0, 0, e)) ∨ ∃ q n : Nat, p = q ∧ q + (put n).length ≤ b.length ∧ (b.drop q).take (put n).length = put n ∧ readNum b p = ((n : Int), p + ((put n).length : Int), 0) ∧ n < 18446744073709551616 := by
  unfold readNum
  by_cases h : p < 0 ∨ p > b.length
  · rw [if_pos h]; exact .inl ⟨2, by decide, rfl⟩
  · rw [if_neg h]
    obtain ⟨q, rfl⟩ := Int.eq_ofNat_of_zero_le (show 0 ≤ p by omega)
    rw [Int.toNat_natCast]
    rcases getL_once (b.drop q) (fun x hx => hb x (List.mem_of_mem_drop hx)) 0 0 (by omega) (by omega) (by decide) with g | g | ⟨n, hl, ht, g, g2, _⟩
    · rw [g]; exact .inl ⟨10, by decide, rfl⟩
    · rw [g]; exact .inl ⟨11, by decide, rfl⟩
    · rw [g]
      have := put_pos n
      rw [List.length_drop] at hl
      simp only [Nat.mul_zero, Int.pow_zero, Int.mul_one, Int.zero_add] at g2
      refine .inr ⟨q, n, rfl, by omega, ht, ?_, by omega⟩
      simp [fin]
/-! The callees, by what they answer. Bytes that are handed back: a slice that reads as they are, in memory of the call's own. -/
abbrev Rd (W : World) (A : Option Addr) (xs : List Int) : Prop := Kd.C (Kd.int .u8) W A xs.length xs
def Bytes (xs : List Int) (w : World) (e : Ending) (w' : World) : Prop := ∃ A c, e = .returned (.slice A xs.length c) ∧ xs.length ≤ c ∧ Rd w' A xs ∧ Below w.heap.size w w'
theorem bytes_of {xs : List Int} {w : World} {e : Ending} {w' : World} (h : ∃ v0_ : Value, e = .returned (v0_) ∧ Kd.R (Kd.int .u8) 5 w' w.heap.size (fun _ => True) v0_ xs ∧ Below w.heap.size w w') : Bytes xs w e w' := by
  obtain ⟨v, rfl, hR, hb⟩ := h
  obtain ⟨A, c, rfl⟩ := Kd.R_slice hR
  obtain ⟨_, hc, hC⟩ := Kd.R_reads' hR
  exact ⟨A, c, rfl, hc, hC, hb⟩
/-- The string of bytes that are read, whatever has been made or drawn since. -/
theorem str_c {w W : World} {A : Option Addr} {xs : List Int} (c : Nat) (h : Rd w A xs) (hb : Below w.heap.size w W) : (convert 22 9 (.slice A xs.length c)).run Try.prog W = .ok (.string (strOfNums xs)) W :=
  Kd.C_string Try.underlying22 Try.underlying5 Try.underlying9 (Kd.C_below h hb)
theorem put_c {n : Int} (h0 : 0 ≤ n) (h1 : n < 18446744073709551616) (w : World) : Calls Try.prog 13 #[.int .u64 n] w (Bytes (put n.toNat) w) :=
  (wire_Put.calls 12 n _ w (put_f h0 h1 (by decide))).mono fun _ _ h => bytes_of h
theorem works_c (w : World) : Calls Try.prog 10 #[] w fun e w' => e = .returned (.bool true) ∧ Below w.heap.size w w' := trammellaw01_works.calls 20 true w (works_f (by decide))
theorem get_c {b : List Int} (hb : ∀ x ∈ b, 0 ≤ x ∧ x ≤ 255) (hl : b.length ≤ 140737488355328) (p : Int) (A : Option Addr) (c : Nat) (hc : b.length ≤ c) (w : World) (h : Rd w A b) :
    Calls Try.prog 11 #[.slice A b.length c, .int .i64 p] w fun e w' => e = .returned (.tuple #[.int .u64 (readNum b p).1, .int .i64 (readNum b p).2.1, .int .i64 (readNum b p).2.2]) ∧ Drawn0 w w' :=
  wire_Get.calls (2 * b.length + 2) A c b p _ _ _ w h hc (get_f hb hl p (Nat.le_refl _))
open Switch
abbrev Ow (W : World) (b : Nat) (P : Nat → Prop) (v : Value) (xs : List Int) : Prop := Kd.R (Kd.int .u8) 5 W b P v xs
/-- Bytes that are handed back are the caller's. -/
def Own (xs : List Int) (w : World) (e : Ending) (w' : World) : Prop := ∃ A c, e = .returned (.slice A xs.length c) ∧ xs.length ≤ c ∧ Ow w' w.heap.size (fun _ => True) (.slice A xs.length c) xs ∧ Rd w' A xs ∧ Below w.heap.size w w'
theorem own_of {xs : List Int} {w : World} {e : Ending} {w' : World} (h : ∃ v0_ : Value, e = .returned (v0_) ∧ Kd.R (Kd.int .u8) 5 w' w.heap.size (fun _ => True) v0_ xs ∧ Below w.heap.size w w') : Own xs w e w' := by
  obtain ⟨v, rfl, hR, hb⟩ := h
  obtain ⟨A, c, rfl⟩ := Kd.R_slice hR
  obtain ⟨_, hc, hC⟩ := Kd.R_reads' hR
  exact ⟨A, c, rfl, hc, hR, hC, hb⟩
/-- What is known of the three rows: each of its own place; the world is below. -/
structure Inv (w : World) (N1 N2 : Nat) (A1 A2 A3 : Option Addr) (c1 c2 c3 : Nat) (p1 p2 p3 : List Int) (W : World) : Prop where
  b : Below w.heap.size w W
  r1 : Ow W w.heap.size (fun k => k < N1) (.slice A1 p1.length c1) p1
  r2 : Ow W w.heap.size (fun k => N1 ≤ k ∧ k < N2) (.slice A2 p2.length c2) p2
  r3 : Ow W w.heap.size (fun k => N2 ≤ k) (.slice A3 p3.length c3) p3
theorem rd_of {W : World} {b : Nat} {P : Nat → Prop} {A : Option Addr} {c : Nat} {p : List Int} (h : Ow W b P (.slice A p.length c) p) : Rd W A p := (Kd.R_reads' h).2.2
section
variable {w W W2 : World} {N1 N2 : Nat} {A1 A2 A3 : Option Addr} {c1 c2 c3 : Nat} {p1 p2 p3 : List Int}
theorem Inv.below (h : Inv w N1 N2 A1 A2 A3 c1 c2 c3 p1 p2 p3 W) (hb : Below W.heap.size W W2) : Inv w N1 N2 A1 A2 A3 c1 c2 c3 p1 p2 p3 W2 :=
  ⟨below_step h.b hb, Kd.R_below h.r1 hb, Kd.R_below h.r2 hb, Kd.R_below h.r3 hb⟩
theorem Inv.rd1 (h : Inv w N1 N2 A1 A2 A3 c1 c2 c3 p1 p2 p3 W) : Rd W A1 p1 := rd_of h.r1
theorem Inv.rd2 (h : Inv w N1 N2 A1 A2 A3 c1 c2 c3 p1 p2 p3 W) : Rd W A2 p2 := rd_of h.r2
theorem Inv.rd3 (h : Inv w N1 N2 A1 A2 A3 c1 c2 c3 p1 p2 p3 W) : Rd W A3 p3 := rd_of h.r3
end
theorem inv_of {w w1 V1 w2 V2 w3 : World} {A1 A2 A3 : Option Addr} {c1 c2 c3 : Nat} {p1 p2 p3 : List Int} (h1 : Ow w1 w.heap.size (fun _ => True) (.slice A1 p1.length c1) p1) (b1 : Below w.heap.size w w1) (d1 : Below w1.heap.size w1 V1)
    (h2 : Ow w2 V1.heap.size (fun _ => True) (.slice A2 p2.length c2) p2) (b2 : Below V1.heap.size V1 w2) (d2 : Below w2.heap.size w2 V2)
    (h3 : Ow w3 V2.heap.size (fun _ => True) (.slice A3 p3.length c3) p3) (b3 : Below V2.heap.size V2 w3) : Inv w V1.heap.size V2.heap.size A1 A2 A3 c1 c2 c3 p1 p2 p3 w3 := by
  have e1 := below_step d1 b2
  have e2 := below_step d2 b3
  have e3 := below_step e1 e2
  refine ⟨below_step b1 e3, ?_, ?_, ?_⟩
  · exact Kd.R_below (Kd.R_mono (Kd.R_bound h1) (fun k hk => Nat.lt_of_lt_of_le hk.2.2.1 d1.size)) e3
  · exact Kd.R_below (Kd.R_lower (Kd.R_mono (Kd.R_bound h2) (fun k hk => ⟨hk.2.1, Nat.lt_of_lt_of_le hk.2.2.1 d2.size⟩)) (Nat.le_trans b1.size d1.size)) e2
  · exact Kd.R_lower (Kd.R_mono (Kd.R_bound h3) (fun k hk => hk.2.1)) (Nat.le_trans (Nat.le_trans b1.size e1.size) d2.size)
theorem spoil_l0 : ∀ (d i : Nat) (xs : List Int) (k : Nat), i + d = xs.length → xs.length < 4611686018427387904 → d < k → ∃ r, trammellaw01_spoilt.l0 k xs i = some r
  | 0, i, xs, k + 1, hd, _, _ => by
    simp only [trammellaw01_spoilt.l0]
    rw [if_neg (by omega)]
    exact ⟨_, rfl⟩
  | d + 1, i, xs, k + 1, hd, hx, hk => by
    simp only [trammellaw01_spoilt.l0]
    rw [if_pos (by omega), if_pos (by omega), w64 (by omega) (by omega), show (i : Int) + 1 = ((i + 1 : Nat) : Int) by omega]
    exact spoil_l0 d (i + 1) _ k (by simp; omega) (by simpa using hx) (by omega)
theorem spoil_c {w W : World} {P : Nat → Prop} {v : Value} {p : List Int} (hB : Below w.heap.size w W) (h : Ow W w.heap.size P v p) (hp : p.length < 4611686018427387904) :
    Calls Try.prog 20 #[v] W fun e W' => e = .returned (.tuple #[]) ∧ Below w.heap.size w W' ∧ Kept W W' P := by
  obtain ⟨r, hr⟩ := spoil_l0 p.length 0 p (p.length + 1) (by omega) hp (by omega)
  exact (trammellaw01_spoilt.calls (p.length + 1) P v p r w W hB h hr).mono fun _ _ h => ⟨h.1, h.2.2.1, h.2.2.2⟩
structure Inv2 (w : World) (N1 N2 : Nat) (A2 A3 : Option Addr) (c2 c3 : Nat) (p2 p3 : List Int) (W : World) : Prop where
  b : Below w.heap.size w W
  r2 : Ow W w.heap.size (fun k => N1 ≤ k ∧ k < N2) (.slice A2 p2.length c2) p2
  r3 : Ow W w.heap.size (fun k => N2 ≤ k) (.slice A3 p3.length c3) p3
structure Inv3 (w : World) (N2 : Nat) (A3 : Option Addr) (c3 : Nat) (p3 : List Int) (W : World) : Prop where
  b : Below w.heap.size w W
  r3 : Ow W w.heap.size (fun k => N2 ≤ k) (.slice A3 p3.length c3) p3
section
variable {w W W2 : World} {N1 N2 : Nat} {A1 A2 A3 : Option Addr} {c1 c2 c3 : Nat} {p1 p2 p3 : List Int}
theorem Inv2.below (h : Inv2 w N1 N2 A2 A3 c2 c3 p2 p3 W) (hb : Below W.heap.size W W2) : Inv2 w N1 N2 A2 A3 c2 c3 p2 p3 W2 := ⟨below_step h.b hb, Kd.R_below h.r2 hb, Kd.R_below h.r3 hb⟩
theorem Inv3.below (h : Inv3 w N2 A3 c3 p3 W) (hb : Below W.heap.size W W2) : Inv3 w N2 A3 c3 p3 W2 := ⟨below_step h.b hb, Kd.R_below h.r3 hb⟩
theorem Inv.spoil (h : Inv w N1 N2 A1 A2 A3 c1 c2 c3 p1 p2 p3 W) (hl : p1.length < 100) (hN : N1 ≤ N2) : Calls Try.prog 20 #[.slice A1 p1.length c1] W fun e W' => e = .returned (.tuple #[]) ∧ Inv2 w N1 N2 A2 A3 c2 c3 p2 p3 W' :=
  (spoil_c h.b h.r1 (by omega)).mono fun _ _ k => ⟨k.1, k.2.1, Kd.R_kept h.r2 k.2.2 (fun _ h1 h2 => by omega), Kd.R_kept h.r3 k.2.2 (fun _ h1 h2 => by omega)⟩
theorem Inv2.spoil (h : Inv2 w N1 N2 A2 A3 c2 c3 p2 p3 W) (hl : p2.length < 100) : Calls Try.prog 20 #[.slice A2 p2.length c2] W fun e W' => e = .returned (.tuple #[]) ∧ Inv3 w N2 A3 c3 p3 W' :=
  (spoil_c h.b h.r2 (by omega)).mono fun _ _ k => ⟨k.1, k.2.1, Kd.R_kept h.r3 k.2.2 (fun _ h1 h2 => by omega)⟩
theorem Inv3.spoil (h : Inv3 w N2 A3 c3 p3 W) (hl : p3.length < 100) : Calls Try.prog 20 #[.slice A3 p3.length c3] W fun e W' => e = .returned (.tuple #[]) ∧ Below w.heap.size w W' :=
  (spoil_c h.b h.r3 (by omega)).mono fun _ _ k => ⟨k.1, k.2.1⟩
end
set_option maxHeartbeats 8000000 in
set_option maxRecDepth 100000 in
theorem writes (n s : Int) (p1 p2 p3 : List Int) (hl1 : p1.length < 100) (hl2 : p2.length < 100) (hl3 : p3.length < 100) (C13 : ∀ w, Calls Try.prog 13 #[.int .u64 n] w (Own p1 w)) (C14 : ∀ w, Calls Try.prog 14 #[.int .i64 (wrap64 n)] w (Own p2 w)) (C16 : ∀ w, Calls Try.prog 16 #[.int .u64 n, .int .i64 s] w (Own p3 w))
    (C17 : ∀ w, Calls Try.prog 17 #[.int .u64 n] w (Own p1 w)) (C18 : ∀ w, Calls Try.prog 18 #[.int .i64 (wrap64 n)] w (Own p2 w)) (C19 : ∀ w, Calls Try.prog 19 #[.int .u64 n, .int .i64 s] w (Own p3 w)) (w : World) :
    Calls Try.prog 5 #[.int .u64 n, .int .i64 s] w fun e w' => e = .returned (.bool true) ∧ Below w.heap.size w w' := by
  have hs1 : ((strOfNums p1).toList == (strOfNums p1).toList) = true := beq_self_eq_true _
  have hs2 : ((strOfNums p2).toList == (strOfNums p2).toList) = true := beq_self_eq_true _
  have hs3 : ((strOfNums p3).toList == (strOfNums p3).toList) = true := beq_self_eq_true _
  have ht1 : ((strOfNums p1).toList != (strOfNums p1).toList) = false := bne_self_eq_false _
  have ht2 : ((strOfNums p2).toList != (strOfNums p2).toList) = false := bne_self_eq_false _
  have ht3 : ((strOfNums p3).toList != (strOfNums p3).toList) = false := bne_self_eq_false _
  have D13 := Aside0.mk C13
  have D14 := Aside0.mk C14
  have D16 := Aside0.mk C16
  have D17 := Aside0.mk C17
  have D18 := Aside0.mk C18
  have D19 := Aside0.mk C19
  clear C13 C14 C16 C17 C18 C19
  go_enter Try.func5, Try.ntmps5
  go_wp2_with (first
    | (go_at_call 13; refine (D13.out _).mono ?_; rintro e w1 ⟨A1, c1, rfl, hc1, hR1, hr1, hb1⟩)
    | (go_at_call 14; refine (D14.out _).mono ?_; rintro e w2 ⟨A2, c2, rfl, hc2, hR2, hr2, hb2⟩)
    | (go_at_call 16; refine (D16.out _).mono ?_; rintro e w3 ⟨A3, c3, rfl, hc3, hR3, hr3, hb3⟩))
  have HI := inv_of hR1 (below_step (w := w) (by repeat (first | (with_reducible first | exact Below.refl _ _ | apply pw_below_drewN | apply below_drew))) hb1) (by repeat (first | (with_reducible first | exact Below.refl _ _ | apply pw_below_drewN | apply below_drew))) hR2 hb2 (by repeat (first | (with_reducible first | exact Below.refl _ _ | apply pw_below_drewN | apply below_drew))) hR3 hb3
  have HN := hb2.size
  clear hc1 hc2 hc3 hR1 hR2 hR3 hr1 hr2 hr3 hb1 hb2 hb3
  -- region 2
  refine startB_ (n := 24) #[false, false, false, false, false, false, false, false, false, false, false, false, false, false, false, false, false, false, false, false, false, false, false, false] (by kernel_rfl) rfl rfl (fun W0 D0 => ?_)
  have E0 := Aside0.mk (Below.refl W0.heap.size W0)
  have HI0 := HI.below D0
  have q1 := HI0.rd1
  have q2 := HI0.rd2
  have q3 := HI0.rd3
  refine pure_ (i := 0) (N := some 16) (v := ?_) (a' := ?_) #[true, false, false, false, false, false, false, false, false, false, false, false, false, false, false, false, false, false, false, false, false, false, false, false] rfl rfl (by kernel_rfl) (fun _ _ _ h => h) (Or.inl ⟨by rfl, ?_⟩) ?_ ?_
  rotate_left
  · intro w'
    go_simp
    with_reducible rfl
  rotate_left
  · simp only [Act.put, List.setIfInBounds_toArray, List.set_cons_zero, List.set_cons_succ, i64_w, i32_w]
    rfl
  refine pure_ (i := 2) (N := some 18) (v := ?_) (a' := ?_) #[true, false, true, false, false, false, false, false, false, false, false, false, false, false, false, false, false, false, false, false, false, false, false, false] rfl rfl (by kernel_rfl) (fun _ _ _ h => h) (Or.inl ⟨by rfl, ?_⟩) ?_ ?_
  rotate_left
  · intro w'
    go_simp
    with_reducible rfl
  rotate_left
  · simp only [Act.put, List.setIfInBounds_toArray, List.set_cons_zero, List.set_cons_succ, i64_w, i32_w]
    rfl
  refine take_ (i := 1) (N := some 17) (v := ?_) (a' := ?_) #[true, true, true, false, false, false, false, false, false, false, false, false, false, false, false, false, false, false, false, false, false, false, false, false] rfl rfl (by kernel_rfl) (fun _ _ _ h => h) (Or.inl ⟨by rfl, ?_⟩) (Below.refl _ _) ?_ ?_
  rotate_left
  · intro w' hS
    have hq_ := str_c c1 q1 (below_step E0.out hS)
    go_simp
    with_reducible rfl
  rotate_left
  · simp only [Act.put, List.setIfInBounds_toArray, List.set_cons_zero, List.set_cons_succ, i64_w, i32_w]
    rfl
  refine one_ (i := 3) (N := some 19) #[true, true, true, true, false, false, false, false, false, false, false, false, false, false, false, false, false, false, false, false, false, false, false, false] rfl rfl (by kernel_rfl) (by decide) (fun K hK => ?_)
  refine goes_ Try.func17 (by kernel_rfl) rfl #[.int .u64 n] (by rfl) rfl rfl (by (try simp only [List.map_toArray, List.map_cons, List.map_nil]); first | done | rfl) ?_
  with_reducible refine (D17.out _).mono ?_
  rintro e W1 ⟨A4, c4, rfl, hc4, hR4, hr4, D1⟩
  refine ⟨_, rfl, ?_⟩
  have E1 := Aside0.mk (below_step E0.out D1)
  refine hK.out _ _ D1 (fun _ => behind_ D1 ?_)
  clear hK K
  refine norm_ (a' := ?_) ?_ ?_
  rotate_left
  · show Act.put _ (some 19) _ = _
    simp only [Act.put, List.setIfInBounds_toArray, List.set_cons_zero, List.set_cons_succ, i64_w, i32_w]
    rfl
  refine take_ (i := 4) (N := some 20) (v := ?_) (a' := ?_) #[true, true, true, true, true, false, false, false, false, false, false, false, false, false, false, false, false, false, false, false, false, false, false, false] rfl rfl (by kernel_rfl) (fun _ _ _ h => h) (Or.inl ⟨by rfl, ?_⟩) (Below.refl _ _) ?_ ?_
  rotate_left
  · intro w' hS
    have hq_ := str_c c4 hr4 hS
    go_simp
    with_reducible rfl
  rotate_left
  · simp only [Act.put, List.setIfInBounds_toArray, List.set_cons_zero, List.set_cons_succ, i64_w, i32_w]
    rfl
  refine pure_ (i := 5) (N := some 21) (v := ?_) (a' := ?_) #[true, true, true, true, true, true, false, false, false, false, false, false, false, false, false, false, false, false, false, false, false, false, false, false] rfl rfl (by kernel_rfl) (fun _ _ _ h => h) (Or.inl ⟨by rfl, ?_⟩) ?_ ?_
  rotate_left
  · intro w'
    go_simp
    with_reducible rfl
  rotate_left
  · simp only [Act.put, List.setIfInBounds_toArray, List.set_cons_zero, List.set_cons_succ, i64_w, i32_w]
    rfl
  refine pure_ (i := 6) (N := some 22) (v := ?_) (a' := ?_) #[true, true, true, true, true, true, true, false, false, false, false, false, false, false, false, false, false, false, false, false, false, false, false, false] rfl rfl (by kernel_rfl) (fun _ _ _ h => h) (Or.inl ⟨by rfl, ?_⟩) ?_ ?_
  rotate_left
  · intro w'
    go_simp
    with_reducible rfl
  rotate_left
  · simp only [Act.put, List.setIfInBounds_toArray, List.set_cons_zero, List.set_cons_succ, i64_w, i32_w]
    rfl
  refine pure_ (i := 7) (N := some 23) (v := ?_) (a' := ?_) #[true, true, true, true, true, true, true, true, false, false, false, false, false, false, false, false, false, false, false, false, false, false, false, false] rfl rfl (by kernel_rfl) (fun _ _ _ h => h) (Or.inl ⟨by rfl, ?_⟩) ?_ ?_
  rotate_left
  · intro w'
    go_simp
    with_reducible rfl
  rotate_left
  · simp only [Act.put, List.setIfInBounds_toArray, List.set_cons_zero, List.set_cons_succ, i64_w, i32_w]
    rfl
  refine pure_ (i := 9) (N := some 25) (v := ?_) (a' := ?_) #[true, true, true, true, true, true, true, true, false, true, false, false, false, false, false, false, false, false, false, false, false, false, false, false] rfl rfl (by kernel_rfl) (fun _ _ _ h => h) (Or.inl ⟨by rfl, ?_⟩) ?_ ?_
  rotate_left
  · intro w'
    go_simp
    with_reducible rfl
  rotate_left
  · simp only [Act.put, List.setIfInBounds_toArray, List.set_cons_zero, List.set_cons_succ, i64_w, i32_w]
    rfl
  refine pure_ (i := 10) (N := some 26) (v := ?_) (a' := ?_) #[true, true, true, true, true, true, true, true, false, true, true, false, false, false, false, false, false, false, false, false, false, false, false, false] rfl rfl (by kernel_rfl) (fun _ _ _ h => h) (Or.inl ⟨by rfl, ?_⟩) ?_ ?_
  rotate_left
  · intro w'
    go_simp
    with_reducible rfl
  rotate_left
  · simp only [Act.put, List.setIfInBounds_toArray, List.set_cons_zero, List.set_cons_succ, i64_w, i32_w]
    rfl
  refine take_ (i := 8) (N := some 24) (v := ?_) (a' := ?_) #[true, true, true, true, true, true, true, true, true, true, true, false, false, false, false, false, false, false, false, false, false, false, false, false] rfl rfl (by kernel_rfl) (fun _ _ _ h => h) (Or.inl ⟨by rfl, ?_⟩) (Below.refl _ _) ?_ ?_
  rotate_left
  · intro w' hS
    have hq_ := str_c c2 q2 (below_step E1.out hS)
    go_simp
    with_reducible rfl
  rotate_left
  · simp only [Act.put, List.setIfInBounds_toArray, List.set_cons_zero, List.set_cons_succ, i64_w, i32_w]
    rfl
  refine one_ (i := 11) (N := some 27) #[true, true, true, true, true, true, true, true, true, true, true, true, false, false, false, false, false, false, false, false, false, false, false, false] rfl rfl (by kernel_rfl) (by decide) (fun K hK => ?_)
  refine goes_ Try.func18 (by kernel_rfl) rfl #[.int .i64 (wrap64 n)] (by rfl) rfl rfl (by (try simp only [List.map_toArray, List.map_cons, List.map_nil]); first | done | rfl) ?_
  with_reducible refine (D18.out _).mono ?_
  rintro e W2 ⟨A5, c5, rfl, hc5, hR5, hr5, D2⟩
  refine ⟨_, rfl, ?_⟩
  have E2 := Aside0.mk (below_step E1.out D2)
  refine hK.out _ _ D2 (fun _ => behind_ D2 ?_)
  clear hK K
  refine norm_ (a' := ?_) ?_ ?_
  rotate_left
  · show Act.put _ (some 27) _ = _
    simp only [Act.put, List.setIfInBounds_toArray, List.set_cons_zero, List.set_cons_succ, i64_w, i32_w]
    rfl
  refine take_ (i := 12) (N := some 28) (v := ?_) (a' := ?_) #[true, true, true, true, true, true, true, true, true, true, true, true, true, false, false, false, false, false, false, false, false, false, false, false] rfl rfl (by kernel_rfl) (fun _ _ _ h => h) (Or.inl ⟨by rfl, ?_⟩) (Below.refl _ _) ?_ ?_
  rotate_left
  · intro w' hS
    have hq_ := str_c c5 hr5 hS
    go_simp
    with_reducible rfl
  rotate_left
  · simp only [Act.put, List.setIfInBounds_toArray, List.set_cons_zero, List.set_cons_succ, i64_w, i32_w]
    rfl
  refine pure_ (i := 13) (N := some 29) (v := ?_) (a' := ?_) #[true, true, true, true, true, true, true, true, true, true, true, true, true, true, false, false, false, false, false, false, false, false, false, false] rfl rfl (by kernel_rfl) (fun _ _ _ h => h) (Or.inl ⟨by rfl, ?_⟩) ?_ ?_
  rotate_left
  · intro w'
    go_simp
    with_reducible rfl
  rotate_left
  · simp only [Act.put, List.setIfInBounds_toArray, List.set_cons_zero, List.set_cons_succ, i64_w, i32_w]
    rfl
  refine pure_ (i := 14) (N := some 30) (v := ?_) (a' := ?_) #[true, true, true, true, true, true, true, true, true, true, true, true, true, true, true, false, false, false, false, false, false, false, false, false] rfl rfl (by kernel_rfl) (fun _ _ _ h => h) (Or.inl ⟨by rfl, ?_⟩) ?_ ?_
  rotate_left
  · intro w'
    go_simp
    with_reducible rfl
  rotate_left
  · simp only [Act.put, List.setIfInBounds_toArray, List.set_cons_zero, List.set_cons_succ, i64_w, i32_w]
    rfl
  refine pure_ (i := 15) (N := some 31) (v := ?_) (a' := ?_) #[true, true, true, true, true, true, true, true, true, true, true, true, true, true, true, true, false, false, false, false, false, false, false, false] rfl rfl (by kernel_rfl) (fun _ _ _ h => h) (Or.inl ⟨by rfl, ?_⟩) ?_ ?_
  rotate_left
  · intro w'
    go_simp
    with_reducible rfl
  rotate_left
  · simp only [Act.put, List.setIfInBounds_toArray, List.set_cons_zero, List.set_cons_succ, i64_w, i32_w]
    rfl
  refine pure_ (i := 16) (N := some 32) (v := ?_) (a' := ?_) #[true, true, true, true, true, true, true, true, true, true, true, true, true, true, true, true, true, false, false, false, false, false, false, false] rfl rfl (by kernel_rfl) (fun _ _ _ h => h) (Or.inl ⟨by rfl, ?_⟩) ?_ ?_
  rotate_left
  · intro w'
    go_simp
    with_reducible rfl
  rotate_left
  · simp only [Act.put, List.setIfInBounds_toArray, List.set_cons_zero, List.set_cons_succ, i64_w, i32_w]
    rfl
  refine pure_ (i := 18) (N := some 34) (v := ?_) (a' := ?_) #[true, true, true, true, true, true, true, true, true, true, true, true, true, true, true, true, true, false, true, false, false, false, false, false] rfl rfl (by kernel_rfl) (fun _ _ _ h => h) (Or.inl ⟨by rfl, ?_⟩) ?_ ?_
  rotate_left
  · intro w'
    go_simp
    with_reducible rfl
  rotate_left
  · simp only [Act.put, List.setIfInBounds_toArray, List.set_cons_zero, List.set_cons_succ, i64_w, i32_w]
    rfl
  refine pure_ (i := 19) (N := some 35) (v := ?_) (a' := ?_) #[true, true, true, true, true, true, true, true, true, true, true, true, true, true, true, true, true, false, true, true, false, false, false, false] rfl rfl (by kernel_rfl) (fun _ _ _ h => h) (Or.inl ⟨by rfl, ?_⟩) ?_ ?_
  rotate_left
  · intro w'
    go_simp
    with_reducible rfl
  rotate_left
  · simp only [Act.put, List.setIfInBounds_toArray, List.set_cons_zero, List.set_cons_succ, i64_w, i32_w]
    rfl
  refine take_ (i := 17) (N := some 33) (v := ?_) (a' := ?_) #[true, true, true, true, true, true, true, true, true, true, true, true, true, true, true, true, true, true, true, true, false, false, false, false] rfl rfl (by kernel_rfl) (fun _ _ _ h => h) (Or.inl ⟨by rfl, ?_⟩) (Below.refl _ _) ?_ ?_
  rotate_left
  · intro w' hS
    have hq_ := str_c c3 q3 (below_step E2.out hS)
    go_simp
    with_reducible rfl
  rotate_left
  · simp only [Act.put, List.setIfInBounds_toArray, List.set_cons_zero, List.set_cons_succ, i64_w, i32_w]
    rfl
  refine one_ (i := 20) (N := some 36) #[true, true, true, true, true, true, true, true, true, true, true, true, true, true, true, true, true, true, true, true, true, false, false, false] rfl rfl (by kernel_rfl) (by decide) (fun K hK => ?_)
  refine goes_ Try.func19 (by kernel_rfl) rfl #[.int .u64 n, .int .i64 s] (by rfl) rfl rfl (by (try simp only [List.map_toArray, List.map_cons, List.map_nil]); first | done | rfl) ?_
  with_reducible refine (D19.out _).mono ?_
  rintro e W3 ⟨A6, c6, rfl, hc6, hR6, hr6, D3⟩
  refine ⟨_, rfl, ?_⟩
  have E3 := Aside0.mk (below_step E2.out D3)
  refine hK.out _ _ D3 (fun _ => behind_ D3 ?_)
  clear hK K
  refine norm_ (a' := ?_) ?_ ?_
  rotate_left
  · show Act.put _ (some 36) _ = _
    simp only [Act.put, List.setIfInBounds_toArray, List.set_cons_zero, List.set_cons_succ, i64_w, i32_w]
    rfl
  refine take_ (i := 21) (N := some 37) (v := ?_) (a' := ?_) #[true, true, true, true, true, true, true, true, true, true, true, true, true, true, true, true, true, true, true, true, true, true, false, false] rfl rfl (by kernel_rfl) (fun _ _ _ h => h) (Or.inl ⟨by rfl, ?_⟩) (Below.refl _ _) ?_ ?_
  rotate_left
  · intro w' hS
    have hq_ := str_c c6 hr6 hS
    go_simp
    with_reducible rfl
  rotate_left
  · simp only [Act.put, List.setIfInBounds_toArray, List.set_cons_zero, List.set_cons_succ, i64_w, i32_w]
    rfl
  refine pure_ (i := 22) (N := some 38) (v := ?_) (a' := ?_) #[true, true, true, true, true, true, true, true, true, true, true, true, true, true, true, true, true, true, true, true, true, true, true, false] rfl rfl (by kernel_rfl) (fun _ _ _ h => h) (Or.inl ⟨by rfl, ?_⟩) ?_ ?_
  rotate_left
  · intro w'
    go_simp
    with_reducible rfl
  rotate_left
  · simp only [Act.put, List.setIfInBounds_toArray, List.set_cons_zero, List.set_cons_succ, i64_w, i32_w]
    rfl
  refine pure_ (i := 23) (N := some 39) (v := ?_) (a' := ?_) #[true, true, true, true, true, true, true, true, true, true, true, true, true, true, true, true, true, true, true, true, true, true, true, true] rfl rfl (by kernel_rfl) (fun _ _ _ h => h) (Or.inl ⟨by rfl, ?_⟩) ?_ ?_
  rotate_left
  · intro w'
    go_simp
    with_reducible rfl
  rotate_left
  · simp only [Act.put, List.setIfInBounds_toArray, List.set_cons_zero, List.set_cons_succ, i64_w, i32_w]
    rfl
  refine done_ (by kernel_rfl) ?_
  -- behind 2
  have q := HI0.below E3.out
  have hN : w1.heap.size ≤ w2.heap.size := HN
  go_wp2_with (first
    | (go_at_call 20; with_reducible refine (Inv.spoil (by first | exact q | exact q.below (by repeat (first | (with_reducible first | exact Below.refl _ _ | apply pw_below_drewN | apply below_drew)))) hl1 hN).mono ?_; rintro e u1 ⟨rfl, qq2⟩)
    | (go_at_call 20; with_reducible refine (Inv2.spoil (by first | exact qq2 | exact qq2.below (by repeat (first | (with_reducible first | exact Below.refl _ _ | apply pw_below_drewN | apply below_drew)))) hl2).mono ?_; rintro e u2 ⟨rfl, qq3⟩)
    | (go_at_call 20; with_reducible refine (Inv3.spoil (by first | exact qq3 | exact qq3.below (by repeat (first | (with_reducible first | exact Below.refl _ _ | apply pw_below_drewN | apply below_drew)))) hl3).mono ?_; rintro e u3 ⟨rfl, qq4⟩))
  have QE := Aside0.mk qq4
  clear qq2 qq3 qq4 q HN hN HI HI0 q1 q2 q3 E3 E2 E1 E0 D0 D1 D2 D3
  -- region 7
  refine startB_ (n := 33) #[false, false, false, false, false, false, false, false, false, false, false, false, false, false, false, false, false, false, false, false, false, false, false, false, false, false, false, false, false, false, false, false, false] (by kernel_rfl) rfl rfl (fun W0 D0 => ?_)
  have E0 := Aside0.mk (Below.refl W0.heap.size W0)
  refine pure_ (i := 0) (N := some 46) (v := ?_) (a' := ?_) #[true, false, false, false, false, false, false, false, false, false, false, false, false, false, false, false, false, false, false, false, false, false, false, false, false, false, false, false, false, false, false, false, false] rfl rfl (by kernel_rfl) (fun _ _ _ h => h) (Or.inl ⟨by rfl, ?_⟩) ?_ ?_
  rotate_left
  · intro w'
    go_simp
    with_reducible rfl
  rotate_left
  · simp only [Act.put, List.setIfInBounds_toArray, List.set_cons_zero, List.set_cons_succ, i64_w, i32_w]
    rfl
  refine pure_ (i := 3) (N := some 49) (v := ?_) (a' := ?_) #[true, false, false, true, false, false, false, false, false, false, false, false, false, false, false, false, false, false, false, false, false, false, false, false, false, false, false, false, false, false, false, false, false] rfl rfl (by kernel_rfl) (fun _ _ _ h => h) (Or.inl ⟨by rfl, ?_⟩) ?_ ?_
  rotate_left
  · intro w'
    go_simp
    with_reducible rfl
  rotate_left
  · simp only [Act.put, List.setIfInBounds_toArray, List.set_cons_zero, List.set_cons_succ, i64_w, i32_w]
    rfl
  refine one_ (i := 1) (N := some 47) #[true, true, false, true, false, false, false, false, false, false, false, false, false, false, false, false, false, false, false, false, false, false, false, false, false, false, false, false, false, false, false, false, false] rfl rfl (by kernel_rfl) (by decide) (fun K hK => ?_)
  refine goes_ Try.func13 (by kernel_rfl) rfl #[.int .u64 n] (by rfl) rfl rfl (by (try simp only [List.map_toArray, List.map_cons, List.map_nil]); first | done | rfl) ?_
  with_reducible refine (D13.out _).mono ?_
  rintro e W1 ⟨A1, c1, rfl, hc1, hR1, hr1, D1⟩
  refine ⟨_, rfl, ?_⟩
  have E1 := Aside0.mk (below_step E0.out D1)
  refine hK.out _ _ D1 (fun _ => behind_ D1 ?_)
  clear hK K
  refine norm_ (a' := ?_) ?_ ?_
  rotate_left
  · show Act.put _ (some 47) _ = _
    simp only [Act.put, List.setIfInBounds_toArray, List.set_cons_zero, List.set_cons_succ, i64_w, i32_w]
    rfl
  refine take_ (i := 2) (N := some 48) (v := ?_) (a' := ?_) #[true, true, true, true, false, false, false, false, false, false, false, false, false, false, false, false, false, false, false, false, false, false, false, false, false, false, false, false, false, false, false, false, false] rfl rfl (by kernel_rfl) (fun _ _ _ h => h) (Or.inl ⟨by rfl, ?_⟩) (Below.refl _ _) ?_ ?_
  rotate_left
  · intro w' hS
    have hq_ := str_c c1 hr1 hS
    go_simp
    with_reducible rfl
  rotate_left
  · simp only [Act.put, List.setIfInBounds_toArray, List.set_cons_zero, List.set_cons_succ, i64_w, i32_w]
    rfl
  refine one_ (i := 4) (N := some 50) #[true, true, true, true, true, false, false, false, false, false, false, false, false, false, false, false, false, false, false, false, false, false, false, false, false, false, false, false, false, false, false, false, false] rfl rfl (by kernel_rfl) (by decide) (fun K hK => ?_)
  refine goes_ Try.func17 (by kernel_rfl) rfl #[.int .u64 n] (by rfl) rfl rfl (by (try simp only [List.map_toArray, List.map_cons, List.map_nil]); first | done | rfl) ?_
  with_reducible refine (D17.out _).mono ?_
  rintro e W2 ⟨A2, c2, rfl, hc2, hR2, hr2, D2⟩
  refine ⟨_, rfl, ?_⟩
  have E2 := Aside0.mk (below_step E1.out D2)
  refine hK.out _ _ D2 (fun _ => behind_ D2 ?_)
  clear hK K
  refine norm_ (a' := ?_) ?_ ?_
  rotate_left
  · show Act.put _ (some 50) _ = _
    simp only [Act.put, List.setIfInBounds_toArray, List.set_cons_zero, List.set_cons_succ, i64_w, i32_w]
    rfl
  refine take_ (i := 5) (N := some 51) (v := ?_) (a' := ?_) #[true, true, true, true, true, true, false, false, false, false, false, false, false, false, false, false, false, false, false, false, false, false, false, false, false, false, false, false, false, false, false, false, false] rfl rfl (by kernel_rfl) (fun _ _ _ h => h) (Or.inl ⟨by rfl, ?_⟩) (Below.refl _ _) ?_ ?_
  rotate_left
  · intro w' hS
    have hq_ := str_c c2 hr2 hS
    go_simp
    with_reducible rfl
  rotate_left
  · simp only [Act.put, List.setIfInBounds_toArray, List.set_cons_zero, List.set_cons_succ, i64_w, i32_w]
    rfl
  refine pure_ (i := 6) (N := some 52) (v := ?_) (a' := ?_) #[true, true, true, true, true, true, true, false, false, false, false, false, false, false, false, false, false, false, false, false, false, false, false, false, false, false, false, false, false, false, false, false, false] rfl rfl (by kernel_rfl) (fun _ _ _ h => h) (Or.inl ⟨by rfl, ?_⟩) ?_ ?_
  rotate_left
  · intro w'
    go_simp
    with_reducible rfl
  rotate_left
  · simp only [Act.put, List.setIfInBounds_toArray, List.set_cons_zero, List.set_cons_succ, i64_w, i32_w]
    rfl
  refine pure_ (i := 7) (N := some 53) (v := ?_) (a' := ?_) #[true, true, true, true, true, true, true, true, false, false, false, false, false, false, false, false, false, false, false, false, false, false, false, false, false, false, false, false, false, false, false, false, false] rfl rfl (by kernel_rfl) (fun _ _ _ h => h) (Or.inl ⟨by rfl, ?_⟩) ?_ ?_
  rotate_left
  · intro w'
    go_simp
    with_reducible rfl
  rotate_left
  · simp only [Act.put, List.setIfInBounds_toArray, List.set_cons_zero, List.set_cons_succ, i64_w, i32_w]
    rfl
  refine pure_ (i := 8) (N := some 54) (v := ?_) (a' := ?_) #[true, true, true, true, true, true, true, true, true, false, false, false, false, false, false, false, false, false, false, false, false, false, false, false, false, false, false, false, false, false, false, false, false] rfl rfl (by kernel_rfl) (fun _ _ _ h => h) (Or.inl ⟨by rfl, ?_⟩) ?_ ?_
  rotate_left
  · intro w'
    go_simp
    with_reducible rfl
  rotate_left
  · simp only [Act.put, List.setIfInBounds_toArray, List.set_cons_zero, List.set_cons_succ, i64_w, i32_w]
    rfl
  refine pure_ (i := 9) (N := some 55) (v := ?_) (a' := ?_) #[true, true, true, true, true, true, true, true, true, true, false, false, false, false, false, false, false, false, false, false, false, false, false, false, false, false, false, false, false, false, false, false, false] rfl rfl (by kernel_rfl) (fun _ _ _ h => h) (Or.inl ⟨by rfl, ?_⟩) ?_ ?_
  rotate_left
  · intro w'
    go_simp
    with_reducible rfl
  rotate_left
  · simp only [Act.put, List.setIfInBounds_toArray, List.set_cons_zero, List.set_cons_succ, i64_w, i32_w]
    rfl
  refine pure_ (i := 12) (N := some 58) (v := ?_) (a' := ?_) #[true, true, true, true, true, true, true, true, true, true, false, false, true, false, false, false, false, false, false, false, false, false, false, false, false, false, false, false, false, false, false, false, false] rfl rfl (by kernel_rfl) (fun _ _ _ h => h) (Or.inl ⟨by rfl, ?_⟩) ?_ ?_
  rotate_left
  · intro w'
    go_simp
    with_reducible rfl
  rotate_left
  · simp only [Act.put, List.setIfInBounds_toArray, List.set_cons_zero, List.set_cons_succ, i64_w, i32_w]
    rfl
  refine pure_ (i := 13) (N := some 59) (v := ?_) (a' := ?_) #[true, true, true, true, true, true, true, true, true, true, false, false, true, true, false, false, false, false, false, false, false, false, false, false, false, false, false, false, false, false, false, false, false] rfl rfl (by kernel_rfl) (fun _ _ _ h => h) (Or.inl ⟨by rfl, ?_⟩) ?_ ?_
  rotate_left
  · intro w'
    go_simp
    with_reducible rfl
  rotate_left
  · simp only [Act.put, List.setIfInBounds_toArray, List.set_cons_zero, List.set_cons_succ, i64_w, i32_w]
    rfl
  refine one_ (i := 10) (N := some 56) #[true, true, true, true, true, true, true, true, true, true, true, false, true, true, false, false, false, false, false, false, false, false, false, false, false, false, false, false, false, false, false, false, false] rfl rfl (by kernel_rfl) (by decide) (fun K hK => ?_)
  refine goes_ Try.func14 (by kernel_rfl) rfl #[.int .i64 (wrap64 n)] (by rfl) rfl rfl (by (try simp only [List.map_toArray, List.map_cons, List.map_nil]); first | done | rfl) ?_
  with_reducible refine (D14.out _).mono ?_
  rintro e W3 ⟨A3, c3, rfl, hc3, hR3, hr3, D3⟩
  refine ⟨_, rfl, ?_⟩
  have E3 := Aside0.mk (below_step E2.out D3)
  refine hK.out _ _ D3 (fun _ => behind_ D3 ?_)
  clear hK K
  refine norm_ (a' := ?_) ?_ ?_
  rotate_left
  · show Act.put _ (some 56) _ = _
    simp only [Act.put, List.setIfInBounds_toArray, List.set_cons_zero, List.set_cons_succ, i64_w, i32_w]
    rfl
  refine take_ (i := 11) (N := some 57) (v := ?_) (a' := ?_) #[true, true, true, true, true, true, true, true, true, true, true, true, true, true, false, false, false, false, false, false, false, false, false, false, false, false, false, false, false, false, false, false, false] rfl rfl (by kernel_rfl) (fun _ _ _ h => h) (Or.inl ⟨by rfl, ?_⟩) (Below.refl _ _) ?_ ?_
  rotate_left
  · intro w' hS
    have hq_ := str_c c3 hr3 hS
    go_simp
    with_reducible rfl
  rotate_left
  · simp only [Act.put, List.setIfInBounds_toArray, List.set_cons_zero, List.set_cons_succ, i64_w, i32_w]
    rfl
  refine one_ (i := 14) (N := some 60) #[true, true, true, true, true, true, true, true, true, true, true, true, true, true, true, false, false, false, false, false, false, false, false, false, false, false, false, false, false, false, false, false, false] rfl rfl (by kernel_rfl) (by decide) (fun K hK => ?_)
  refine goes_ Try.func18 (by kernel_rfl) rfl #[.int .i64 (wrap64 n)] (by rfl) rfl rfl (by (try simp only [List.map_toArray, List.map_cons, List.map_nil]); first | done | rfl) ?_
  with_reducible refine (D18.out _).mono ?_
  rintro e W4 ⟨A4, c4, rfl, hc4, hR4, hr4, D4⟩
  refine ⟨_, rfl, ?_⟩
  have E4 := Aside0.mk (below_step E3.out D4)
  refine hK.out _ _ D4 (fun _ => behind_ D4 ?_)
  clear hK K
  refine norm_ (a' := ?_) ?_ ?_
  rotate_left
  · show Act.put _ (some 60) _ = _
    simp only [Act.put, List.setIfInBounds_toArray, List.set_cons_zero, List.set_cons_succ, i64_w, i32_w]
    rfl
  refine take_ (i := 15) (N := some 61) (v := ?_) (a' := ?_) #[true, true, true, true, true, true, true, true, true, true, true, true, true, true, true, true, false, false, false, false, false, false, false, false, false, false, false, false, false, false, false, false, false] rfl rfl (by kernel_rfl) (fun _ _ _ h => h) (Or.inl ⟨by rfl, ?_⟩) (Below.refl _ _) ?_ ?_
  rotate_left
  · intro w' hS
    have hq_ := str_c c4 hr4 hS
    go_simp
    with_reducible rfl
  rotate_left
  · simp only [Act.put, List.setIfInBounds_toArray, List.set_cons_zero, List.set_cons_succ, i64_w, i32_w]
    rfl
  refine pure_ (i := 16) (N := some 62) (v := ?_) (a' := ?_) #[true, true, true, true, true, true, true, true, true, true, true, true, true, true, true, true, true, false, false, false, false, false, false, false, false, false, false, false, false, false, false, false, false] rfl rfl (by kernel_rfl) (fun _ _ _ h => h) (Or.inl ⟨by rfl, ?_⟩) ?_ ?_
  rotate_left
  · intro w'
    go_simp
    with_reducible rfl
  rotate_left
  · simp only [Act.put, List.setIfInBounds_toArray, List.set_cons_zero, List.set_cons_succ, i64_w, i32_w]
    rfl
  refine pure_ (i := 17) (N := some 63) (v := ?_) (a' := ?_) #[true, true, true, true, true, true, true, true, true, true, true, true, true, true, true, true, true, true, false, false, false, false, false, false, false, false, false, false, false, false, false, false, false] rfl rfl (by kernel_rfl) (fun _ _ _ h => h) (Or.inl ⟨by rfl, ?_⟩) ?_ ?_
  rotate_left
  · intro w'
    go_simp
    with_reducible rfl
  rotate_left
  · simp only [Act.put, List.setIfInBounds_toArray, List.set_cons_zero, List.set_cons_succ, i64_w, i32_w]
    rfl
  refine pure_ (i := 18) (N := some 64) (v := ?_) (a' := ?_) #[true, true, true, true, true, true, true, true, true, true, true, true, true, true, true, true, true, true, true, false, false, false, false, false, false, false, false, false, false, false, false, false, false] rfl rfl (by kernel_rfl) (fun _ _ _ h => h) (Or.inl ⟨by rfl, ?_⟩) ?_ ?_
  rotate_left
  · intro w'
    go_simp
    with_reducible rfl
  rotate_left
  · simp only [Act.put, List.setIfInBounds_toArray, List.set_cons_zero, List.set_cons_succ, i64_w, i32_w]
    rfl
  refine pure_ (i := 19) (N := some 65) (v := ?_) (a' := ?_) #[true, true, true, true, true, true, true, true, true, true, true, true, true, true, true, true, true, true, true, true, false, false, false, false, false, false, false, false, false, false, false, false, false] rfl rfl (by kernel_rfl) (fun _ _ _ h => h) (Or.inl ⟨by rfl, ?_⟩) ?_ ?_
  rotate_left
  · intro w'
    go_simp
    with_reducible rfl
  rotate_left
  · simp only [Act.put, List.setIfInBounds_toArray, List.set_cons_zero, List.set_cons_succ, i64_w, i32_w]
    rfl
  refine pure_ (i := 20) (N := some 66) (v := ?_) (a' := ?_) #[true, true, true, true, true, true, true, true, true, true, true, true, true, true, true, true, true, true, true, true, true, false, false, false, false, false, false, false, false, false, false, false, false] rfl rfl (by kernel_rfl) (fun _ _ _ h => h) (Or.inl ⟨by rfl, ?_⟩) ?_ ?_
  rotate_left
  · intro w'
    go_simp
    with_reducible rfl
  rotate_left
  · simp only [Act.put, List.setIfInBounds_toArray, List.set_cons_zero, List.set_cons_succ, i64_w, i32_w]
    rfl
  refine pure_ (i := 23) (N := some 69) (v := ?_) (a' := ?_) #[true, true, true, true, true, true, true, true, true, true, true, true, true, true, true, true, true, true, true, true, true, false, false, true, false, false, false, false, false, false, false, false, false] rfl rfl (by kernel_rfl) (fun _ _ _ h => h) (Or.inl ⟨by rfl, ?_⟩) ?_ ?_
  rotate_left
  · intro w'
    go_simp
    with_reducible rfl
  rotate_left
  · simp only [Act.put, List.setIfInBounds_toArray, List.set_cons_zero, List.set_cons_succ, i64_w, i32_w]
    rfl
  refine pure_ (i := 24) (N := some 70) (v := ?_) (a' := ?_) #[true, true, true, true, true, true, true, true, true, true, true, true, true, true, true, true, true, true, true, true, true, false, false, true, true, false, false, false, false, false, false, false, false] rfl rfl (by kernel_rfl) (fun _ _ _ h => h) (Or.inl ⟨by rfl, ?_⟩) ?_ ?_
  rotate_left
  · intro w'
    go_simp
    with_reducible rfl
  rotate_left
  · simp only [Act.put, List.setIfInBounds_toArray, List.set_cons_zero, List.set_cons_succ, i64_w, i32_w]
    rfl
  refine one_ (i := 21) (N := some 67) #[true, true, true, true, true, true, true, true, true, true, true, true, true, true, true, true, true, true, true, true, true, true, false, true, true, false, false, false, false, false, false, false, false] rfl rfl (by kernel_rfl) (by decide) (fun K hK => ?_)
  refine goes_ Try.func16 (by kernel_rfl) rfl #[.int .u64 n, .int .i64 s] (by rfl) rfl rfl (by (try simp only [List.map_toArray, List.map_cons, List.map_nil]); first | done | rfl) ?_
  with_reducible refine (D16.out _).mono ?_
  rintro e W5 ⟨A5, c5, rfl, hc5, hR5, hr5, D5⟩
  refine ⟨_, rfl, ?_⟩
  have E5 := Aside0.mk (below_step E4.out D5)
  refine hK.out _ _ D5 (fun _ => behind_ D5 ?_)
  clear hK K
  refine norm_ (a' := ?_) ?_ ?_
  rotate_left
  · show Act.put _ (some 67) _ = _
    simp only [Act.put, List.setIfInBounds_toArray, List.set_cons_zero, List.set_cons_succ, i64_w, i32_w]
    rfl
  refine take_ (i := 22) (N := some 68) (v := ?_) (a' := ?_) #[true, true, true, true, true, true, true, true, true, true, true, true, true, true, true, true, true, true, true, true, true, true, true, true, true, false, false, false, false, false, false, false, false] rfl rfl (by kernel_rfl) (fun _ _ _ h => h) (Or.inl ⟨by rfl, ?_⟩) (Below.refl _ _) ?_ ?_
  rotate_left
  · intro w' hS
    have hq_ := str_c c5 hr5 hS
    go_simp
    with_reducible rfl
  rotate_left
  · simp only [Act.put, List.setIfInBounds_toArray, List.set_cons_zero, List.set_cons_succ, i64_w, i32_w]
    rfl
  refine one_ (i := 25) (N := some 71) #[true, true, true, true, true, true, true, true, true, true, true, true, true, true, true, true, true, true, true, true, true, true, true, true, true, true, false, false, false, false, false, false, false] rfl rfl (by kernel_rfl) (by decide) (fun K hK => ?_)
  refine goes_ Try.func19 (by kernel_rfl) rfl #[.int .u64 n, .int .i64 s] (by rfl) rfl rfl (by (try simp only [List.map_toArray, List.map_cons, List.map_nil]); first | done | rfl) ?_
  with_reducible refine (D19.out _).mono ?_
  rintro e W6 ⟨A6, c6, rfl, hc6, hR6, hr6, D6⟩
  refine ⟨_, rfl, ?_⟩
  have E6 := Aside0.mk (below_step E5.out D6)
  refine hK.out _ _ D6 (fun _ => behind_ D6 ?_)
  clear hK K
  refine norm_ (a' := ?_) ?_ ?_
  rotate_left
  · show Act.put _ (some 71) _ = _
    simp only [Act.put, List.setIfInBounds_toArray, List.set_cons_zero, List.set_cons_succ, i64_w, i32_w]
    rfl
  refine take_ (i := 26) (N := some 72) (v := ?_) (a' := ?_) #[true, true, true, true, true, true, true, true, true, true, true, true, true, true, true, true, true, true, true, true, true, true, true, true, true, true, true, false, false, false, false, false, false] rfl rfl (by kernel_rfl) (fun _ _ _ h => h) (Or.inl ⟨by rfl, ?_⟩) (Below.refl _ _) ?_ ?_
  rotate_left
  · intro w' hS
    have hq_ := str_c c6 hr6 hS
    go_simp
    with_reducible rfl
  rotate_left
  · simp only [Act.put, List.setIfInBounds_toArray, List.set_cons_zero, List.set_cons_succ, i64_w, i32_w]
    rfl
  refine pure_ (i := 27) (N := some 73) (v := ?_) (a' := ?_) #[true, true, true, true, true, true, true, true, true, true, true, true, true, true, true, true, true, true, true, true, true, true, true, true, true, true, true, true, false, false, false, false, false] rfl rfl (by kernel_rfl) (fun _ _ _ h => h) (Or.inl ⟨by rfl, ?_⟩) ?_ ?_
  rotate_left
  · intro w'
    go_simp
    with_reducible rfl
  rotate_left
  · simp only [Act.put, List.setIfInBounds_toArray, List.set_cons_zero, List.set_cons_succ, i64_w, i32_w]
    rfl
  refine pure_ (i := 28) (N := some 74) (v := ?_) (a' := ?_) #[true, true, true, true, true, true, true, true, true, true, true, true, true, true, true, true, true, true, true, true, true, true, true, true, true, true, true, true, true, false, false, false, false] rfl rfl (by kernel_rfl) (fun _ _ _ h => h) (Or.inl ⟨by rfl, ?_⟩) ?_ ?_
  rotate_left
  · intro w'
    go_simp
    with_reducible rfl
  rotate_left
  · simp only [Act.put, List.setIfInBounds_toArray, List.set_cons_zero, List.set_cons_succ, i64_w, i32_w]
    rfl
  refine pure_ (i := 29) (N := some 75) (v := ?_) (a' := ?_) #[true, true, true, true, true, true, true, true, true, true, true, true, true, true, true, true, true, true, true, true, true, true, true, true, true, true, true, true, true, true, false, false, false] rfl rfl (by kernel_rfl) (fun _ _ _ h => h) (Or.inl ⟨by rfl, ?_⟩) ?_ ?_
  rotate_left
  · intro w'
    go_simp
    with_reducible rfl
  rotate_left
  · simp only [Act.put, List.setIfInBounds_toArray, List.set_cons_zero, List.set_cons_succ, i64_w, i32_w]
    rfl
  refine one_ (i := 30) (N := some 76) #[true, true, true, true, true, true, true, true, true, true, true, true, true, true, true, true, true, true, true, true, true, true, true, true, true, true, true, true, true, true, true, false, false] rfl rfl (by kernel_rfl) (by decide) (fun K hK => ?_)
  refine goes_ Try.func10 (by kernel_rfl) rfl #[] (by rfl) rfl rfl (by (try simp only [List.map_toArray, List.map_cons, List.map_nil]); first | done | rfl) ?_
  with_reducible refine (works_c _).mono ?_
  rintro e W7 ⟨rfl, D7⟩
  refine ⟨_, rfl, ?_⟩
  have E7 := Aside0.mk (below_step E6.out D7)
  refine hK.out _ _ D7 (fun _ => behind_ D7 ?_)
  clear hK K
  refine norm_ (a' := ?_) ?_ ?_
  rotate_left
  · show Act.put _ (some 76) _ = _
    simp only [Act.put, List.setIfInBounds_toArray, List.set_cons_zero, List.set_cons_succ, i64_w, i32_w]
    rfl
  refine pure_ (i := 31) (N := some 77) (v := ?_) (a' := ?_) #[true, true, true, true, true, true, true, true, true, true, true, true, true, true, true, true, true, true, true, true, true, true, true, true, true, true, true, true, true, true, true, true, false] rfl rfl (by kernel_rfl) (fun _ _ _ h => h) (Or.inl ⟨by rfl, ?_⟩) ?_ ?_
  rotate_left
  · intro w'
    go_simp
    with_reducible rfl
  rotate_left
  · simp only [Act.put, List.setIfInBounds_toArray, List.set_cons_zero, List.set_cons_succ, i64_w, i32_w]
    rfl
  refine pure_ (i := 32) (N := some 4) (v := ?_) (a' := ?_) #[true, true, true, true, true, true, true, true, true, true, true, true, true, true, true, true, true, true, true, true, true, true, true, true, true, true, true, true, true, true, true, true, true] rfl rfl (by kernel_rfl) (fun _ _ _ h => h) (Or.inl ⟨by rfl, ?_⟩) ?_ ?_
  rotate_left
  · intro w'
    go_simp
    with_reducible rfl
  rotate_left
  · simp only [Act.put, List.setIfInBounds_toArray, List.set_cons_zero, List.set_cons_succ, i64_w, i32_w]
    rfl
  refine done_ (by kernel_rfl) ?_
  -- behind 7
  go_wp2
  go_ret
  exact ⟨by first | rfl | (simp; done), below_step (below_step QE.out D0) E7.out⟩
theorem walk (a0 a1 : Int) (w : World) (w0 : (Lit.int .u64 a0).wf = true) (w1 : (Lit.int .i64 a1).wf = true) :
    Calls Try.prog 5 #[.int .u64 a0, .int .i64 a1] w fun e w' => e = .returned (.bool true) ∧ Below w.heap.size w w' := by
  have h := wfu64 w0
  have hz : -9223372036854775808 ≤ wrap64 a0 ∧ wrap64 a0 ≤ 9223372036854775807 := by unfold wrap64; omega
  have h2 := put_len10 (n := a0.toNat) (by omega)
  have h3 := put_len10 (n := (zig (wrap64 a0)).toNat) (by have := zig_hi hz.1 hz.2; have := zig_lo (wrap64 a0); omega)
  have h4 : (fixed a0 a1).length < 100 := by
    unfold fixed
    split
    · simp
    · simp; omega
  exact writes a0 a1 (put a0.toNat) (put (zig (wrap64 a0)).toNat) (fixed a0 a1) (by omega) (by omega) h4
    (fun w => (wire_Put.calls 12 a0 _ w (put_f h.1 h.2 (by decide))).mono fun _ _ h => own_of h)
    (fun w => (wire_PutInt.calls 12 _ _ w (putInt_f hz.1 hz.2 (by decide))).mono fun _ _ h => own_of h)
    (fun w => (wire_Fixed.calls 12 a0 a1 _ w (fixed_f a1 (by decide))).mono fun _ _ h => own_of h)
    (fun w => (trammelref01_Put.calls 12 a0 _ w (refput_f h.1 h.2 (by decide))).mono fun _ _ h => own_of h)
    (fun w => (trammelref01_PutInt.calls 12 _ _ w (refputInt_f hz.1 hz.2 (by decide))).mono fun _ _ h => own_of h)
    (fun w => (trammelref01_Fixed.calls 12 a0 a1 _ w (reffixed_f a1 (by decide))).mono fun _ _ h => own_of h) w
end Go.Proofs.Ytclmnipllboekaa.WalkWireWrites
