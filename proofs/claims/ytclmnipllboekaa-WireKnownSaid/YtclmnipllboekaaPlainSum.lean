/- Plain facts of the sum of bytes: a stp loses nothing; the two ways to take a byte in agree. Under no conditions. -/
import Derived.Test.YtclmnipllboekaaPlain
namespace Go.Proofs.Ytclmnipllboekaa.Plain
set_option linter.unusedVariables false
open Go.RowKit Go.Proofs.YtclmnipllboekaaW.PrintWords Go.Proofs.YtclmnipllboekaaW.PrintLast Go.Proofs.YtclmnipllboekaaW.PrintMore

theorem xor_cancel {a b p : BitVec 32} (h : a ^^^ p = b ^^^ p) : a = b := by
  have := congrArg (fun x => x ^^^ p) h
  simpa [BitVec.xor_assoc] using this
theorem xor_cancel_left {a b p : BitVec 32} (h : p ^^^ a = p ^^^ b) : a = b := xor_cancel (p := p) (by rw [BitVec.xor_comm, h, BitVec.xor_comm])
/-- The word that a stp mixes in. -/
def poly : BitVec 32 := 3988292384#32
def stp (s : BitVec 32) : BitVec 32 := (s >>> 1) ^^^ (if s.getLsbD 0 then poly else 0#32)
def stps : Nat → BitVec 32 → BitVec 32
  | 0, s => s
  | d + 1, s => stps d (stp s)
def crc (s : BitVec 32) : List Int → BitVec 32
  | [] => s
  | c :: l => crc (stps 8 (s ^^^ BitVec.ofInt 32 c)) l
def sumOf (l : List Int) : Int := ((~~~ crc 4294967295#32 l).toNat : Int)

theorem step_top (s : BitVec 32) : (stp s).getLsbD 31 = s.getLsbD 0 := by
  unfold stp poly
  by_cases h : s.getLsbD 0 = true
  · rw [if_pos h, h, BitVec.getLsbD_xor, BitVec.getLsbD_ushiftRight, BitVec.getLsbD_of_ge s (1 + 31) (by omega)]
    decide
  · rw [if_neg h, Bool.eq_false_iff.mpr h, BitVec.getLsbD_xor, BitVec.getLsbD_ushiftRight, BitVec.getLsbD_of_ge s (1 + 31) (by omega)]
    decide
theorem step_inj {s t : BitVec 32} (h : stp s = stp t) : s = t := by
  have h0 : s.getLsbD 0 = t.getLsbD 0 := by rw [← step_top, ← step_top, h]
  have h1 : s >>> 1 = t >>> 1 := by
    unfold stp at h
    rw [h0] at h
    exact xor_cancel h
  apply BitVec.eq_of_getLsbD_eq
  intro i hi
  cases i with
  | zero => exact h0
  | succ i =>
    have := congrArg (fun x : BitVec 32 => x.getLsbD i) h1
    simp only [BitVec.getLsbD_ushiftRight] at this
    rwa [Nat.add_comm] at this
theorem steps_inj : ∀ (d : Nat) {s t : BitVec 32}, stps d s = stps d t → s = t
  | 0, _, _, h => h
  | d + 1, _, _, h => step_inj (steps_inj d h)
theorem crc_inj : ∀ (l : List Int) {s t : BitVec 32}, crc s l = crc t l → s = t
  | [], _, _, h => h
  | c :: l, s, t, h => by
    have := steps_inj 8 (crc_inj l h)
    exact xor_cancel this
theorem crc_append : ∀ (a b : List Int) (s : BitVec 32), crc s (a ++ b) = crc (crc s a) b
  | [], _, _ => rfl
  | _ :: a, b, _ => crc_append a b _
theorem crc_ne {a b : List Int} {c d : Int} (hc0 : 0 ≤ c) (hc1 : c ≤ 255) (hd0 : 0 ≤ d) (hd1 : d ≤ 255) (h : c ≠ d) (s : BitVec 32) : crc s (a ++ c :: b) ≠ crc s (a ++ d :: b) := by
  intro e
  rw [crc_append, crc_append] at e
  simp only [crc] at e
  have := steps_inj 8 (crc_inj b e)
  have h2 : BitVec.ofInt 32 c = BitVec.ofInt 32 d := xor_cancel_left this
  have h3 := congrArg BitVec.toNat h2
  simp only [BitVec.toNat_ofInt] at h3
  omega
/-- Sums of bytes that differ in one byte differ. -/
theorem sum_set {l : List Int} {i : Nat} {c : Int} (hb : ∀ x ∈ l, 0 ≤ x ∧ x ≤ 255) (hi : i < l.length) (hc0 : 0 ≤ c) (hc1 : c ≤ 255) : (sumOf l = sumOf (l.set i c)) ↔ l[i] = c := by
  obtain ⟨h0, h1⟩ := hb l[i] (List.getElem_mem hi)
  constructor
  · intro h
    by_cases e : l[i] = c
    · exact e
    · exfalso
      have hs : l.set i c = l.take i ++ c :: l.drop (i + 1) := by rw [List.set_eq_take_append_cons_drop, if_pos hi]
      have hl : l = l.take i ++ l[i] :: l.drop (i + 1) := by rw [← List.drop_eq_getElem_cons hi, List.take_append_drop]
      unfold sumOf at h
      have h2 : crc 4294967295#32 l = crc 4294967295#32 (l.set i c) := by
        have h3 : (~~~ crc 4294967295#32 l) = (~~~ crc 4294967295#32 (l.set i c)) := BitVec.eq_of_toNat_eq (by omega)
        have := congrArg (fun x => ~~~ x) h3
        simpa using this
      rw [hs] at h2
      exact crc_ne (a := l.take i) (b := l.drop (i + 1)) h0 h1 hc0 hc1 e _ ((congrArg (crc _) hl.symm).trans h2)
  · rintro rfl
    rw [List.set_getElem_self]

/-! As the machine has it. -/
theorem bv_xor (s t : BitVec 32) : Go.bits .xor .u32 (s.toNat : Int) (t.toNat : Int) = ((s ^^^ t).toNat : Int) := by
  simp only [Go.bits]
  rw [show BitVec.ofInt IntKind.u32.bits (s.toNat : Int) = s from BitVec.ofNat_toNat _ s, show BitVec.ofInt IntKind.u32.bits (t.toNat : Int) = t from BitVec.ofNat_toNat _ t]
  have : ((s ^^^ t).toNat : Int) < 4294967296 := Int.ofNat_lt.mpr (s ^^^ t).isLt
  rw [IntKind.wrap_u32]
  exact Int.emod_eq_of_lt (Int.natCast_nonneg _) this
theorem bv_and (s t : BitVec 32) : Go.bits .and .u32 (s.toNat : Int) (t.toNat : Int) = ((s &&& t).toNat : Int) := by
  simp only [Go.bits]
  rw [show BitVec.ofInt IntKind.u32.bits (s.toNat : Int) = s from BitVec.ofNat_toNat _ s, show BitVec.ofInt IntKind.u32.bits (t.toNat : Int) = t from BitVec.ofNat_toNat _ t]
  have : ((s &&& t).toNat : Int) < 4294967296 := Int.ofNat_lt.mpr (s &&& t).isLt
  rw [IntKind.wrap_u32]
  exact Int.emod_eq_of_lt (Int.natCast_nonneg _) this
theorem bv_half (s : BitVec 32) : (s.toNat : Int) / (2 : Int) = ((s >>> 1).toNat : Int) := by
  rw [BitVec.toNat_ushiftRight, Nat.shiftRight_succ, Nat.shiftRight_zero]; omega
theorem bv_low (s : BitVec 32) : Go.bits .and .u32 (s.toNat : Int) 1 = if s.getLsbD 0 then 1 else 0 := by
  have := bv_and s 1#32
  rw [show ((1#32).toNat : Int) = 1 from rfl] at this
  rw [this, BitVec.getLsbD, Nat.testBit_zero, BitVec.toNat_and, show (1#32).toNat = 1 from rfl, Nat.and_one_is_mod]
  by_cases h : s.toNat % 2 = 1
  · rw [h]; rfl
  · rw [show s.toNat % 2 = 0 by omega]; rfl
theorem bv_mask (s : BitVec 32) : Go.bits .and .u32 3988292384 ((-(Go.bits .and .u32 (s.toNat : Int) 1)) % 4294967296) = (((if s.getLsbD 0 then poly else 0#32) : BitVec 32).toNat : Int) := by
  rw [bv_low]
  split
  · exact (by decide +kernel : Go.bits .and .u32 3988292384 ((-(1 : Int)) % 4294967296) = (poly.toNat : Int))
  · exact (by decide +kernel : Go.bits .and .u32 3988292384 ((-(0 : Int)) % 4294967296) = ((0#32).toNat : Int))
theorem bv_step (s : BitVec 32) : Go.bits .xor .u32 ((s.toNat : Int) / (2 : Int)) (Go.bits .and .u32 3988292384 ((-(Go.bits .and .u32 (s.toNat : Int) 1)) % 4294967296)) = ((stp s).toNat : Int) := by
  rw [bv_mask, bv_half, bv_xor]; rfl
theorem bv_in (s : BitVec 32) {c : Int} (h0 : 0 ≤ c) (h1 : c ≤ 255) : Go.bits .xor .u32 (s.toNat : Int) (c % 4294967296) = ((s ^^^ BitVec.ofInt 32 c).toNat : Int) := by
  rw [← bv_xor]
  congr 1
  rw [BitVec.toNat_ofInt]
  omega
theorem bv_not (s : BitVec 32) : Go.bits .xor .u32 4294967295 (s.toNat : Int) = ((~~~ s).toNat : Int) := by
  have := bv_xor 4294967295#32 s
  rw [show ((4294967295#32).toNat : Int) = 4294967295 from rfl] at this
  rw [this, show (4294967295#32 : BitVec 32) = BitVec.allOnes 32 by decide, BitVec.allOnes_xor]
theorem bv_shift {c : Int} (h0 : 0 ≤ c) (h1 : c ≤ 255) (j : Nat) (hj : j ≤ 8) : shr .u32 (c % 4294967296) (j : Int) = ((BitVec.ofInt 32 c >>> j).toNat : Int) := by
  unfold shr
  rw [show min (j : Int).toNat IntKind.u32.bits = j by show min (j : Int).toNat 32 = j; omega, BitVec.toNat_ushiftRight, Nat.shiftRight_eq_div_pow, BitVec.toNat_ofInt]
  rw [show (c % 4294967296) = ((c % ((2 ^ 32 : Nat) : Int)).toNat : Int) by omega]
  exact_mod_cast rfl
/-- One byte's stp, the byte's bits taken in one by one. -/
theorem ref_step (r c : BitVec 32) (j : Nat) : (if r.getLsbD 0 = (c >>> j).getLsbD 0 then r >>> 1 else (r >>> 1) ^^^ poly) ^^^ (c >>> (j + 1)) = stp (r ^^^ (c >>> j)) := by
  unfold stp
  rw [BitVec.getLsbD_xor, BitVec.ushiftRight_xor_distrib, ← BitVec.shiftRight_add]
  by_cases h : r.getLsbD 0 = (c >>> j).getLsbD 0
  · rw [if_pos h, h]; simp
  · rw [if_neg h]
    have : (r.getLsbD 0 ^^ (c >>> j).getLsbD 0) = true := by
      revert h; cases r.getLsbD 0 <;> cases (c >>> j).getLsbD 0 <;> simp
    rw [this]
    simp only [if_true]
    rw [BitVec.xor_assoc, BitVec.xor_assoc, BitVec.xor_comm poly]
theorem low_eq (s t : BitVec 32) : (Go.bits .and .u32 (s.toNat : Int) 1 = Go.bits .and .u32 (t.toNat : Int) 1) ↔ s.getLsbD 0 = t.getLsbD 0 := by
  rw [bv_low, bv_low]
  cases s.getLsbD 0 <;> cases t.getLsbD 0 <;> simp
theorem byte_gone {c : Int} (h0 : 0 ≤ c) (h1 : c ≤ 255) : BitVec.ofInt 32 c >>> 8 = 0#32 := by
  apply BitVec.eq_of_toNat_eq
  rw [BitVec.toNat_ushiftRight, Nat.shiftRight_eq_div_pow, BitVec.toNat_ofInt]
  simp; omega
end Go.Proofs.Ytclmnipllboekaa.Plain
