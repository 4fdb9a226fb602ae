/- Plain arithmetic of words of 8, 32 and 64 bits, no program in sight. Under no conditions. -/
import Derived.Test.YtgomkbdemakndaaWMore
import Derived.Laws.BitsLemmas
namespace Go.Proofs.Ytgomkbdemakndaa.Plain
set_option linter.unusedVariables false
open Go.RowKit Go.Proofs.YtgomkbdemakndaaW.PrintWords Go.Proofs.YtgomkbdemakndaaW.PrintLast Go.Proofs.YtgomkbdemakndaaW.PrintMore

/-- 'Option.bind_some', told so that simp carries it by congruence. -/
theorem obind {α β : Type} (a : α) (f : α → Option β) : (some a).bind f = f a := by simp
theorem wfu8 {x : Int} (h : (Lit.int .u8 x).wf = true) : 0 ≤ x ∧ x ≤ 255 := by
  simp [Lit.wf, IntKind.min, IntKind.max, IntKind.signed, IntKind.bits] at h; omega
theorem wf64 {x : Int} (h : (Lit.int .i64 x).wf = true) : -9223372036854775808 ≤ x ∧ x ≤ 9223372036854775807 := by
  simp [Lit.wf, IntKind.min, IntKind.max, IntKind.signed, IntKind.bits] at h; omega

theorem w8 (x : Int) : IntKind.i8.wrap x = (BitVec.ofInt 8 x).toInt := by
  rw [BitVec.toInt_ofInt]
  simp [IntKind.wrap, IntKind.bits, IntKind.signed, Int.bmod]
  omega
theorem w32 (x : Int) : wrap32 x = (BitVec.ofInt 32 x).toInt := by
  rw [BitVec.toInt_ofInt]
  simp [wrap32, Int.bmod]
  omega
theorem w64 (x : Int) : wrap64 x = (BitVec.ofInt 64 x).toInt := by
  rw [BitVec.toInt_ofInt]
  simp [wrap64, Int.bmod]
  omega
theorem wk32 (x : Int) : IntKind.i32.wrap x = (BitVec.ofInt 32 x).toInt := by rw [IntKind.wrap_i32, ← w32]; unfold wrap32; rfl
theorem wk64 (x : Int) : IntKind.i64.wrap x = (BitVec.ofInt 64 x).toInt := by rw [IntKind.wrap_i64, ← w64]; unfold wrap64; rfl
theorem u64_wrap (n : Int) : IntKind.u64.wrap n = n % 18446744073709551616 := by simp [IntKind.wrap, IntKind.bits, IntKind.signed]
theorem range8 (A : BitVec 8) : -128 ≤ A.toInt ∧ A.toInt ≤ 127 := by
  have h1 := A.toInt_lt; have h2 := A.le_toInt; simp at h1 h2; omega
theorem range32 (A : BitVec 32) : -2147483648 ≤ A.toInt ∧ A.toInt ≤ 2147483647 := by
  have h1 := A.toInt_lt; have h2 := A.le_toInt; simp at h1 h2; omega
theorem range64 (A : BitVec 64) : -9223372036854775808 ≤ A.toInt ∧ A.toInt ≤ 9223372036854775807 := by
  have h1 := A.toInt_lt; have h2 := A.le_toInt; simp at h1 h2; omega
theorem id64 {x : Int} (h0 : -9223372036854775808 ≤ x) (h1 : x ≤ 9223372036854775807) : (BitVec.ofInt 64 x).toInt = x := by
  rw [← w64]; unfold wrap64; omega
theorem back8 (A : BitVec 8) : wrap64 A.toInt = A.toInt := by have := range8 A; rw [w64, id64 (by omega) (by omega)]
theorem back32 (A : BitVec 32) : wrap64 A.toInt = A.toInt := by have := range32 A; rw [w64, id64 (by omega) (by omega)]
theorem back64 (A : BitVec 64) : wrap64 A.toInt = A.toInt := by rw [w64, BitVec.ofInt_toInt]

/-- A kind of numbers with a sign. -/
def Signed (k : IntKind) : Prop := ∀ x, k.wrap x = (BitVec.ofInt k.bits x).toInt
theorem s8 : Signed .i8 := w8
theorem s32 : Signed .i32 := wk32
theorem s64 : Signed .i64 := wk64
theorem ofNat_back {n : Nat} (A : BitVec n) : (BitVec.ofInt n (A.toNat : Int)).toInt = A.toInt := by
  rw [BitVec.ofInt_natCast, BitVec.ofNat_toNat, BitVec.setWidth_eq]
theorem and_k {k : IntKind} (hk : Signed k) (x y : Int) : Go.bits .and k x y = (BitVec.ofInt k.bits x &&& BitVec.ofInt k.bits y).toInt := by
  simp only [Go.bits]; rw [hk, ofNat_back]
theorem or_k {k : IntKind} (hk : Signed k) (x y : Int) : Go.bits .or k x y = (BitVec.ofInt k.bits x ||| BitVec.ofInt k.bits y).toInt := by
  simp only [Go.bits]; rw [hk, ofNat_back]
theorem xor_k {k : IntKind} (hk : Signed k) (x y : Int) : Go.bits .xor k x y = (BitVec.ofInt k.bits x ^^^ BitVec.ofInt k.bits y).toInt := by
  simp only [Go.bits]; rw [hk, ofNat_back]
theorem ofInt_two_pow (n m : Nat) : BitVec.ofInt n (2 ^ m) = BitVec.twoPow n m := by
  rw [show ((2 : Int) ^ m) = ((2 ^ m : Nat) : Int) by simp, BitVec.ofInt_natCast]
  apply BitVec.eq_of_toNat_eq
  simp [BitVec.toNat_twoPow]
theorem shl_k {k : IntKind} (hk : Signed k) (A : BitVec k.bits) (m : Nat) (hm : m ≤ k.bits) : shl k A.toInt (m : Int) = (A <<< m).toInt := by
  unfold shl
  rw [Int.toNat_natCast, Nat.min_eq_left hm, hk, BitVec.ofInt_mul, BitVec.ofInt_toInt, ofInt_two_pow, ← BitVec.shiftLeft_eq_mul_twoPow]
theorem shr_k {k : IntKind} (A : BitVec k.bits) (m : Nat) (hm : m ≤ k.bits) : shr k A.toInt (m : Int) = (A.sshiftRight m).toInt := by
  unfold shr
  rw [Int.toNat_natCast, Nat.min_eq_left hm, BitVec.toInt_sshiftRight, Int.shiftRight_eq_div_pow]
  simp
/-- A count goes modulo the bits. -/
theorem count8 (B : BitVec 8) : Int.tmod (IntKind.u64.wrap B.toInt) 8 = ((B.toNat % 8 : Nat) : Int) := by
  have := B.isLt
  rw [u64_wrap, BitVec.toInt_eq_toNat_cond, Int.tmod_eq_emod_of_nonneg (by omega)]
  split <;> omega
theorem count32 (B : BitVec 32) : Int.tmod (IntKind.u64.wrap B.toInt) 32 = ((B.toNat % 32 : Nat) : Int) := by
  have := B.isLt
  rw [u64_wrap, BitVec.toInt_eq_toNat_cond, Int.tmod_eq_emod_of_nonneg (by omega)]
  split <;> omega
theorem count64 (B : BitVec 64) : Int.tmod (IntKind.u64.wrap B.toInt) 64 = ((B.toNat % 64 : Nat) : Int) := by
  have := B.isLt
  rw [u64_wrap, BitVec.toInt_eq_toNat_cond, Int.tmod_eq_emod_of_nonneg (by omega)]
  split <;> omega
theorem toInt_eq_zero {n : Nat} (B : BitVec n) : B.toInt = 0 ↔ B = 0#n := by
  rw [← BitVec.toInt_inj, BitVec.toInt_zero]

/-- A number of 64 bits. -/
def Ok (x : Int) : Prop := (BitVec.ofInt 64 x).toInt = x
instance (x : Int) : Decidable (Ok x) := inferInstanceAs (Decidable (_ = _))
theorem ok_of {x : Int} (h : -9223372036854775808 ≤ x ∧ x ≤ 9223372036854775807) : Ok x := id64 h.1 h.2
theorem ok8 (A : BitVec 8) : Ok A.toInt := by have := range8 A; exact id64 (by omega) (by omega)
theorem ok32 (A : BitVec 32) : Ok A.toInt := by have := range32 A; exact id64 (by omega) (by omega)
theorem ok64 (A : BitVec 64) : Ok A.toInt := by have := range64 A; exact id64 (by omega) (by omega)
/-- What an instruction with two numbers answers, by words. -/
def twoB {n : Nat} (op : Int) (A B : BitVec n) : Int × Int :=
  if op = 14 then (if B = 0#n then (0, 1) else ((A.sdiv B).toInt, 0))
  else if op = 15 then (if B = 0#n then (0, 1) else ((A.srem B).toInt, 0))
  else if op = 12 then ((A - B).toInt, 0) else if op = 11 then ((A + B).toInt, 0) else if op = 13 then ((A * B).toInt, 0)
  else if op = 16 then ((A &&& B).toInt, 0) else if op = 17 then ((A ||| B).toInt, 0) else if op = 18 then ((A ^^^ B).toInt, 0)
  else if op = 19 then ((A <<< (B.toNat % n)).toInt, 0) else if op = 20 then ((A.sshiftRight (B.toNat % n)).toInt, 0) else (0, 0)
/-- Of a width. -/
def reck (op w a b : Int) : Int × Int :=
  if w = 1 then twoB op (BitVec.ofInt 8 a) (BitVec.ofInt 8 b) else if w = 2 then twoB op (BitVec.ofInt 32 a) (BitVec.ofInt 32 b) else if w = 3 then twoB op (BitVec.ofInt 64 a) (BitVec.ofInt 64 b) else (0, 0)
def wrapW (w n : Int) : Int := if w = 1 then (BitVec.ofInt 8 n).toInt else if w = 2 then (BitVec.ofInt 32 n).toInt else if w = 3 then n else 0
def bitsW (w : Int) : Int := if w = 1 then 8 else if w = 2 then 32 else if w = 3 then 64 else 0
def fitsW (w n : Int) : Bool := decide (bitsW w > 0) && (wrapW w n == n)
def oneW (op w a : Int) : Int := if op = 21 then wrapW w (-(BitVec.ofInt 64 a)).toInt else if op = 22 then wrapW w (~~~ (BitVec.ofInt 64 a)).toInt else 0
end Go.Proofs.Ytgomkbdemakndaa.Plain
