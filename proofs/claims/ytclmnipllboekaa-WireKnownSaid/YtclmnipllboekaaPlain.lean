/- Plain arithmetic of bytes and numbers, no program in sight: wraps, single bits, numbers as bytes. Under no conditions. -/
import Derived.Test.YtclmnipllboekaaWMore
import Derived.Laws.BitsLemmas
namespace Go.Proofs.Ytclmnipllboekaa.Plain
open Go.RowKit Go.Proofs.YtclmnipllboekaaW.PrintWords Go.Proofs.YtclmnipllboekaaW.PrintLast Go.Proofs.YtclmnipllboekaaW.PrintMore

/-- 'Option.bind_some', told so that simp carries it by congruence: by 'rfl' the kernel compares the two ways and may not come back. -/
theorem obind {α β : Type} (a : α) (f : α → Option β) : (some a).bind f = f a := by simp
theorem w64 {x : Int} (h0 : -9223372036854775808 ≤ x) (h1 : x ≤ 9223372036854775807) : wrap64 x = x := by
  unfold wrap64; omega
theorem u64_wrap (n : Int) : IntKind.u64.wrap n = n % 18446744073709551616 := by simp [IntKind.wrap, IntKind.bits, IntKind.signed]
theorem u64_id {n : Int} (h0 : 0 ≤ n) (h1 : n < 18446744073709551616) : IntKind.u64.wrap n = n := by rw [u64_wrap]; omega

theorem wf8 {x : Int} (h : (Lit.int .u8 x).wf = true) : 0 ≤ x ∧ x ≤ 255 := by
  simp [Lit.wf, IntKind.min, IntKind.max, IntKind.signed, IntKind.bits] at h; omega
theorem wf64 {x : Int} (h : (Lit.int .i64 x).wf = true) : -9223372036854775808 ≤ x ∧ x ≤ 9223372036854775807 := by
  simp [Lit.wf, IntKind.min, IntKind.max, IntKind.signed, IntKind.bits] at h; omega
theorem wfu64 {x : Int} (h : (Lit.int .u64 x).wf = true) : 0 ≤ x ∧ x < 18446744073709551616 := by
  simp [Lit.wf, IntKind.min, IntKind.max, IntKind.signed, IntKind.bits] at h; omega
theorem rd_nat (xs : List Int) (i : Nat) (h : i < xs.length) : rd xs (i : Int) = xs[i] := by
  have e : rd xs (i : Int) = xs.getD i 0 := rfl
  rw [e, List.getD_eq_getElem?_getD, List.getElem?_eq_getElem h]; rfl
theorem bits_comm_or (k : IntKind) (x y : Int) : Go.bits .or k x y = Go.bits .or k y x := by simp only [Go.bits, BitVec.or_comm]
theorem bits_comm_and (k : IntKind) (x y : Int) : Go.bits .and k x y = Go.bits .and k y x := by simp only [Go.bits, BitVec.and_comm]
theorem bits_comm_xor (k : IntKind) (x y : Int) : Go.bits .xor k x y = Go.bits .xor k y x := by simp only [Go.bits, BitVec.xor_comm]

theorem all256 (P : Int → Prop) [DecidablePred P] (h : ∀ n : Fin 256, P (n.val : Int)) {c : Int} (h0 : 0 ≤ c) (h1 : c ≤ 255) : P c := by
  have := h ⟨c.toNat, by omega⟩
  simpa [Int.toNat_of_nonneg h0] using this

theorem and127 {c : Int} (h0 : 0 ≤ c) (h1 : c ≤ 255) : Go.bits .and .u8 c 127 = c % 128 :=
  all256 (fun c => Go.bits .and .u8 c 127 = c % 128) (by decide +kernel) h0 h1
theorem and128 {c : Int} (h0 : 0 ≤ c) (h1 : c ≤ 255) : Go.bits .and .u8 c 128 = if c < 128 then 0 else 128 :=
  all256 (fun c => Go.bits .and .u8 c 128 = if c < 128 then 0 else 128) (by decide +kernel) h0 h1
theorem or128 {c : Int} (h0 : 0 ≤ c) (h1 : c ≤ 255) : Go.bits .or .u8 c 128 = c % 128 + 128 :=
  all256 (fun c => Go.bits .or .u8 c 128 = c % 128 + 128) (by decide +kernel) h0 h1

theorem or_u64 (i : Nat) (x y : Int) (hx₀ : 0 ≤ x) (hx : x % 2 ^ i = 0) (hx₁ : x < 18446744073709551616) (hy₀ : 0 ≤ y) (hy : y < 2 ^ i) (hy₁ : y < 18446744073709551616) : Go.bits .or .u64 y x = y + x := by
  rw [bits_comm_or, bits_join .u64 64 (by decide) (fun n h0 h1 => u64_id h0 (by simpa using h1)) i x y hx₀ hx (by simpa using hx₁) hy₀ hy (by simpa using hy₁), Int.add_comm]

/-! A number as bytes: seven bits a byte, the lowest first, the topmost bit where more follow. -/
def put (n : Nat) : List Int := if h : n < 128 then [(n : Int)] else ((n % 128 + 128 : Nat) : Int) :: put (n / 128)
termination_by n
decreasing_by omega
theorem put_small {n : Nat} (h : n < 128) : put n = [(n : Int)] := by rw [put, dif_pos h]
theorem put_more {n : Nat} (h : ¬ n < 128) : put n = ((n % 128 + 128 : Nat) : Int) :: put (n / 128) := by rw [put, dif_neg h]
theorem put_pos (n : Nat) : 1 ≤ (put n).length := by
  rw [put]; split <;> simp
theorem put_len : ∀ (j n : Nat), n < 128 ^ (j + 1) → (put n).length ≤ j + 1
  | 0, n, h => by rw [put_small (by simpa using h)]; simp
  | j + 1, n, h => by
    by_cases c : n < 128
    · rw [put_small c]; simp
    · rw [put_more c]
      have := put_len j (n / 128) (by rw [Nat.div_lt_iff_lt_mul (by decide)]; rw [Nat.pow_succ] at h; omega)
      simp; omega
theorem put_len10 {n : Nat} (h : n < 18446744073709551616) : (put n).length ≤ 10 := put_len 9 n (by omega)
theorem put_bytes (n : Nat) : ∀ x ∈ put n, 0 ≤ x ∧ x ≤ 255 := by
  induction n using Nat.strongRecOn with
  | ind n ih =>
    intro x hx
    by_cases c : n < 128
    · rw [put_small c] at hx; simp at hx; omega
    · rw [put_more c] at hx
      simp only [List.mem_cons] at hx
      rcases hx with rfl | hx
      · omega
      · exact ih _ (by omega) x hx
theorem put_mono : ∀ (a b : Nat), a ≤ b → (put a).length ≤ (put b).length := by
  intro a
  induction a using Nat.strongRecOn with
  | ind a ih =>
    intro b h
    by_cases c : a < 128
    · rw [put_small c]; exact put_pos b
    · rw [put_more c, put_more (show ¬ b < 128 by omega)]
      have := ih (a / 128) (by omega) (b / 128) (by omega)
      simp; omega

/-- A number that is read: what it is, how many bytes it has, what is wrong. i bytes are read, a is what they are. -/
def getL : List Int → Nat → Int → Int × Int × Int
  | [], _, _ => (0, 0, 10)
  | c :: l, i, a => if i = 9 ∧ c > 1 ∨ i > 0 ∧ c = 0 then (0, 0, 11) else if c < 128 then (a + c * 2 ^ (7 * i), (i : Int) + 1, 0) else getL l (i + 1) (a + (c - 128) * 2 ^ (7 * i))
/-- With the place. -/
def fin (p : Int) (r : Int × Int × Int) : Int × Int × Int := (r.1, if r.2.2 = 0 then p + r.2.1 else 0, r.2.2)
def readNum (b : List Int) (p : Int) : Int × Int × Int := if p < 0 ∨ p > b.length then (0, 0, 2) else fin p (getL (b.drop p.toNat) 0 0)

theorem pow7 {i : Nat} (h : i ≤ 9) : (2 : Int) ^ (7 * i) ≤ 9223372036854775808 := by
  have : (2 : Int) ^ (7 * i) ≤ 2 ^ 63 := by
    have h2 : 2 ^ (7 * i) ≤ 2 ^ 63 := Nat.pow_le_pow_right (by decide) (by omega)
    exact_mod_cast h2
  simpa using this
theorem pow7_pos (i : Nat) : (0 : Int) < 2 ^ (7 * i) := by
  have h2 : 0 < 2 ^ (7 * i) := Nat.two_pow_pos _
  exact_mod_cast h2
theorem pow7_succ (i : Nat) : (2 : Int) ^ (7 * (i + 1)) = 128 * 2 ^ (7 * i) := by
  rw [Nat.mul_add, Int.pow_add]; omega
/-- What a round of reading adds. -/
theorem add_seven {i : Nat} (hi : i ≤ 9) {a c : Int} (ha : 0 ≤ a) (ha1 : a < 2 ^ (7 * i)) (hc : 0 ≤ c) (hc1 : c < 128) (h9 : i = 9 → c ≤ 1) :
    Go.bits .or .u64 a (shl .u64 (IntKind.u64.wrap c) (7 * (i : Int))) = a + c * 2 ^ (7 * i) := by
  have hp := pow7 hi
  have hp0 := pow7_pos i
  have hmin : min (7 * (i : Int)).toNat 64 = 7 * i := by omega
  have hlt : c * 2 ^ (7 * i) < 18446744073709551616 := by
    by_cases e : i = 9
    · subst e
      have := h9 rfl
      have h63 : (2 : Int) ^ (7 * 9) = 9223372036854775808 := by decide
      rw [h63]; omega
    · have h56 : (2 : Int) ^ (7 * i) ≤ 2 ^ 56 := by
        have h2 : 2 ^ (7 * i) ≤ 2 ^ 56 := Nat.pow_le_pow_right (by decide) (by omega)
        exact_mod_cast h2
      have h56' : (2 : Int) ^ 56 = 72057594037927936 := by decide
      rw [h56'] at h56
      have : c * 2 ^ (7 * i) ≤ 127 * 2 ^ (7 * i) := Int.mul_le_mul_of_nonneg_right (by omega) (by omega)
      omega
  have hnn : 0 ≤ c * 2 ^ (7 * i) := Int.mul_nonneg hc (by omega)
  unfold shl
  rw [u64_id hc (by omega)]
  rw [show min (7 * (i : Int)).toNat IntKind.u64.bits = 7 * i from hmin, u64_id hnn hlt]
  exact or_u64 (7 * i) _ _ hnn (Int.mul_emod_left _ _) hlt ha ha1 (by omega)

theorem getL_put (n : Nat) : ∀ (i : Nat) (a : Int) (rest : List Int), i ≤ 9 → (n : Int) * 2 ^ (7 * i) < 18446744073709551616 → (0 < i → 0 < n) → getL (put n ++ rest) i a = (a + n * 2 ^ (7 * i), (i : Int) + (put n).length, 0) := by
  induction n using Nat.strongRecOn with
  | ind n ih =>
    intro i a rest hi hn h0
    have hp0 := pow7_pos i
    have h9 : i = 9 → n ≤ 1 := by
      rintro rfl
      have h63 : (2 : Int) ^ (7 * 9) = 9223372036854775808 := by decide
      rw [h63] at hn; omega
    by_cases c : n < 128
    · rw [put_small c]
      simp only [List.cons_append, List.nil_append, getL]
      rw [if_neg (by omega), if_pos (by omega)]
      simp
    · rw [put_more c]
      simp only [List.cons_append, getL]
      have hi9 : i ≠ 9 := fun e => by have := h9 e; omega
      rw [if_neg (by omega), if_neg (by omega)]
      have hn' : ((n / 128 : Nat) : Int) * 2 ^ (7 * (i + 1)) < 18446744073709551616 := by
        rw [pow7_succ]
        have : ((n / 128 : Nat) : Int) * (128 * 2 ^ (7 * i)) ≤ n * 2 ^ (7 * i) := by
          rw [← Int.mul_assoc]
          exact Int.mul_le_mul_of_nonneg_right (by omega) (by omega)
        omega
      rw [ih (n / 128) (by omega) (i + 1) _ rest (by omega) hn' (by omega)]
      have e : (a + (((n % 128 + 128 : Nat) : Int) - 128) * 2 ^ (7 * i)) + ((n / 128 : Nat) : Int) * 2 ^ (7 * (i + 1)) = a + n * 2 ^ (7 * i) := by
        rw [pow7_succ, show (((n % 128 + 128 : Nat) : Int) - 128) = ((n % 128 : Nat) : Int) by omega]
        have : (n : Int) = ((n % 128 : Nat) : Int) + 128 * ((n / 128 : Nat) : Int) := by omega
        generalize ((n % 128 : Nat) : Int) = u at *
        generalize ((n / 128 : Nat) : Int) = v at *
        rw [this, Int.add_mul, Int.mul_assoc 128, ← Int.mul_assoc v, Int.mul_comm v 128, Int.mul_assoc 128]
        omega
      rw [e]
      simp only [List.length_cons, Prod.mk.injEq, true_and, and_true]
      omega
/-- Fewer bytes are too short. -/
theorem getL_short (n : Nat) : ∀ (i : Nat) (a : Int) (j : Nat), i ≤ 9 → (n : Int) * 2 ^ (7 * i) < 18446744073709551616 → (0 < i → 0 < n) → j < (put n).length → getL ((put n).take j) i a = (0, 0, 10) := by
  induction n using Nat.strongRecOn with
  | ind n ih =>
    intro i a j hi hn h0 hj
    cases j with
    | zero => simp [getL]
    | succ j =>
      have h9 : i = 9 → n ≤ 1 := by
        rintro rfl
        have h63 : (2 : Int) ^ (7 * 9) = 9223372036854775808 := by decide
        rw [h63] at hn; omega
      by_cases c : n < 128
      · rw [put_small c] at hj; simp at hj
      · rw [put_more c] at hj ⊢
        simp only [List.take_succ_cons, getL]
        have hi9 : i ≠ 9 := fun e => by have := h9 e; omega
        rw [if_neg (by omega), if_neg (by omega)]
        have hn' : ((n / 128 : Nat) : Int) * 2 ^ (7 * (i + 1)) < 18446744073709551616 := by
          rw [pow7_succ]
          have : ((n / 128 : Nat) : Int) * (128 * 2 ^ (7 * i)) ≤ n * 2 ^ (7 * i) := by
            rw [← Int.mul_assoc]
            exact Int.mul_le_mul_of_nonneg_right (by omega) (Int.le_of_lt (pow7_pos i))
          omega
        exact ih (n / 128) (by omega) (i + 1) _ j (by omega) hn' (by omega) (by simpa using hj)
/-- What is read is what is written. -/
theorem getL_once : ∀ (l : List Int), (∀ x ∈ l, 0 ≤ x ∧ x ≤ 255) → ∀ (i : Nat) (a : Int), i ≤ 9 → 0 ≤ a → a < 2 ^ (7 * i) →
    getL l i a = (0, 0, 10) ∨ getL l i a = (0, 0, 11) ∨
    ∃ n : Nat, (put n).length ≤ l.length ∧ l.take (put n).length = put n ∧ getL l i a = (a + n * 2 ^ (7 * i), (i : Int) + (put n).length, 0) ∧ a + n * 2 ^ (7 * i) < 18446744073709551616 ∧ (0 < i → 0 < n)
  | [], _, i, a, _, _, _ => .inl rfl
  | c :: l, hb, i, a, hi, ha, ha1 => by
    obtain ⟨hc0, hc1⟩ := hb c (by simp)
    have hp := pow7 hi
    simp only [getL]
    by_cases h1 : i = 9 ∧ c > 1 ∨ i > 0 ∧ c = 0
    · rw [if_pos h1]; exact .inr (.inl rfl)
    · rw [if_neg h1]
      by_cases h2 : c < 128
      · rw [if_pos h2]
        refine .inr (.inr ⟨c.toNat, ?_⟩)
        rw [put_small (by omega)]
        have hcc : ((c.toNat : Nat) : Int) = c := by omega
        rw [hcc]
        refine ⟨by simp, by simp, by simp, ?_, by omega⟩
        by_cases e : i = 9
        · subst e
          have h63 : (2 : Int) ^ (7 * 9) = 9223372036854775808 := by decide
          rw [h63] at ha1 ⊢; omega
        · have h56 : (2 : Int) ^ (7 * i) ≤ 2 ^ 56 := by
            have h2 : 2 ^ (7 * i) ≤ 2 ^ 56 := Nat.pow_le_pow_right (by decide) (by omega)
            exact_mod_cast h2
          have h56' : (2 : Int) ^ 56 = 72057594037927936 := by decide
          rw [h56'] at h56
          have : c * 2 ^ (7 * i) ≤ 127 * 2 ^ (7 * i) := Int.mul_le_mul_of_nonneg_right (by omega) (by omega)
          omega
      · rw [if_neg h2]
        have hi9 : i ≠ 9 := fun e => h1 (.inl ⟨e, by omega⟩)
        have hpos := pow7_pos i
        have hx : (c - 128) * 2 ^ (7 * i) ≤ 127 * 2 ^ (7 * i) := Int.mul_le_mul_of_nonneg_right (by omega) (by omega)
        have hx0 : 0 ≤ (c - 128) * 2 ^ (7 * i) := Int.mul_nonneg (by omega) (by omega)
        rcases getL_once l (fun x hx => hb x (by simp [hx])) (i + 1) (a + (c - 128) * 2 ^ (7 * i)) (by omega) (by omega) (by rw [pow7_succ]; omega) with h | h | ⟨n, hl, ht, hg, hb1, hp⟩
        · exact .inl h
        · exact .inr (.inl h)
        · refine .inr (.inr ⟨128 * n + (c - 128).toNat, ?_⟩)
          have hn := hp (by omega)
          have hcc : (((c - 128).toNat : Nat) : Int) = c - 128 := by omega
          have hm : ¬ 128 * n + (c - 128).toNat < 128 := by omega
          rw [put_more hm, show (128 * n + (c - 128).toNat) / 128 = n by omega, show (((128 * n + (c - 128).toNat) % 128 + 128 : Nat) : Int) = c by omega]
          have e : a + ((128 * n + (c - 128).toNat : Nat) : Int) * 2 ^ (7 * i) = a + (c - 128) * 2 ^ (7 * i) + n * 2 ^ (7 * (i + 1)) := by
            rw [pow7_succ, show ((128 * n + (c - 128).toNat : Nat) : Int) = 128 * (n : Int) + (c - 128) by omega, Int.add_mul, Int.mul_assoc 128, ← Int.mul_assoc (n : Int), Int.mul_comm (n : Int) 128, Int.mul_assoc 128]
            omega
          rw [e]
          refine ⟨by simpa using hl, by simp [ht], ?_, hb1, by omega⟩
          rw [hg]
          simp only [List.length_cons, Prod.mk.injEq, true_and, and_true]
          omega
end Go.Proofs.Ytclmnipllboekaa.Plain
