/- Below, Same, Merge, SameInts, large, by what they answer. Under no conditions beyond the statement's own. -/
import Derived.Test.YtnjmheadmcjgcaaPLatticeTellsx3
import Derived.Test.YtnjmheadmcjgcaaSwitch
import Derived.Outline
import Derived.Deep.RegionWith
import Derived.Test.YtnjmheadmcjgcaaWalkPairs
import Derived.Test.YtnjmheadmcjgcaaWalkSlots
import Derived.Test.YtnjmheadmcjgcaaWalkMerge
set_option linter.unusedSimpArgs false
set_option linter.unusedVariables false
namespace Go.Proofs.Ytnjmheadmcjgcaa.WalkBase
open Go.RowKit Go.Proofs.Ytnjmheadmcjgcaa.PLatticeTells Go.Proofs.YtnjmheadmcjgcaaW.PrintWords Go.Proofs.YtnjmheadmcjgcaaW.PrintLast Go.Proofs.YtnjmheadmcjgcaaW.PrintMore Go.Proofs.Ytnjmheadmcjgcaa.Switch
open Go.Proofs.Ytnjmheadmcjgcaa.WalkPairs
open Go.Proofs.Ytnjmheadmcjgcaa.WalkSlots
open Go.Proofs.Ytnjmheadmcjgcaa.WalkMerge
def bel (a a2 b b2 : List Int) : Bool := decide (b.length = a.length) && (decide (b2.length = a2.length) && (!(List.zipWith und a b).contains false && !(List.zipWith und a2 b2).contains false))
def sam (a a2 b b2 : List Int) : Bool := decide (a = b) && decide (a2 = b2)
theorem below_b (xs xs2 ys ys2 : List Int) (hl : xs.length ≤ 10000) (hl2 : xs2.length ≤ 10000) (A0 A1 B0 B1 : Option Addr) (c0 c1 d0 d1 : Nat) (w : World) (h0 : Rd w A0 xs) (h1 : Rd w A1 xs2) (h2 : Rd w B0 ys) (h3 : Rd w B1 ys2) :
    Calls Try.prog 13 #[.agg #[.slice A0 xs.length c0, .slice A1 xs2.length c1], .agg #[.slice B0 ys.length d0, .slice B1 ys2.length d1]] w fun e w' => e = .returned (.bool (bel xs xs2 ys ys2)) ∧ Below w.heap.size w w' := by
  unfold bel
  by_cases he : ys.length = xs.length
  · by_cases he2 : ys2.length = xs2.length
    · rw [decide_eq_true he, decide_eq_true he2, Bool.true_and, Bool.true_and]
      cases hq : (List.zipWith und xs ys).contains false with
      | true => exact below_c_tx xs xs2 ys ys2 hl hl2 A0 A1 B0 B1 c0 c1 d0 d1 w h0 h1 h2 h3 he he2 hq
      | false =>
        cases hq2 : (List.zipWith und xs2 ys2).contains false with
        | true => exact below_c_ft xs xs2 ys ys2 hl hl2 A0 A1 B0 B1 c0 c1 d0 d1 w h0 h1 h2 h3 he he2 hq hq2
        | false => exact below_c_ff xs xs2 ys ys2 hl hl2 A0 A1 B0 B1 c0 c1 d0 d1 w h0 h1 h2 h3 he he2 hq hq2
    · rw [decide_eq_true he, decide_eq_false he2]
      exact below_no2 xs xs2 ys ys2 hl hl2 A0 A1 B0 B1 c0 c1 d0 d1 w h0 h1 h2 h3 he he2
  · rw [decide_eq_false he]
    exact below_no xs xs2 ys ys2 hl hl2 A0 A1 B0 B1 c0 c1 d0 d1 w h0 h1 h2 h3 he
theorem rd_nat (xs : List Int) (i : Nat) (h : i < xs.length) : rd xs (i : Int) = xs[i] := by simp [rd, List.getD_eq_getElem?_getD, h]
theorem drop_ne {xs ys : List Int} (hl : ys.length = xs.length) (i : Nat) (hi : i < xs.length) : (xs.drop i = ys.drop i) ↔ (xs[i] = ys[i]'(by omega) ∧ xs.drop (i + 1) = ys.drop (i + 1)) := by
  rw [List.drop_eq_getElem_cons hi, List.drop_eq_getElem_cons (show i < ys.length by omega), List.cons.injEq]
theorem equal_l0 (xs ys : List Int) (hn : xs.length ≤ 1000000) (hl : ys.length = xs.length) : ∀ (d i k : Nat), i + d = xs.length → d < k → slices_Equal_int_int.l0 k xs ys (xs.length : Int) (i : Int) = some (decide (xs.drop i = ys.drop i)) := by
  intro d
  induction d with
  | zero =>
    intro i k hd hk
    obtain ⟨k, rfl⟩ : ∃ m, k = m + 1 := ⟨k - 1, by omega⟩
    simp only [slices_Equal_int_int.l0]
    rw [if_neg (by omega), List.drop_eq_nil_of_le (by omega), List.drop_eq_nil_of_le (by omega)]
    simp
  | succ d ih =>
    intro i k hd hk
    obtain ⟨k, rfl⟩ : ∃ m, k = m + 1 := ⟨k - 1, by omega⟩
    have hi : i < xs.length := by omega
    have h1 := rd_nat xs i hi
    have h2 := rd_nat ys i (by omega)
    simp only [slices_Equal_int_int.l0]
    rw [h1, h2]
    rw [if_pos (by omega), if_pos (by omega), if_pos (by omega), if_pos (by omega)]
    by_cases h : xs[i] = ys[i]'(by omega)
    · rw [if_pos h, w64 (by omega) (by omega), show (i : Int) + 1 = ((i + 1 : Nat) : Int) by omega, ih (i + 1) k (by omega) (by omega)]
      simp [drop_ne hl i hi, h]
    · rw [if_neg h]
      simp [drop_ne hl i hi, h]
theorem equal_f (xs ys : List Int) (hn : xs.length ≤ 1000000) {k : Nat} (hk : xs.length < k) : slices_Equal_int_int.f k xs ys = some (decide (xs = ys)) := by
  unfold slices_Equal_int_int.f
  by_cases hl : ys.length = xs.length
  · rw [if_pos (by omega)]
    have := equal_l0 xs ys hn hl xs.length 0 k (by omega) hk
    simpa using this
  · rw [if_neg (by omega)]
    have : xs ≠ ys := fun e => hl (by rw [e])
    simp [this]
theorem same_b (xs xs2 ys ys2 : List Int) (hl : xs.length ≤ 1000000) (hl2 : xs2.length ≤ 1000000) (A0 A1 B0 B1 : Option Addr) (c0 c1 d0 d1 : Nat) (w : World) (h0 : Rd w A0 xs) (h1 : Rd w A1 xs2) (h2 : Rd w B0 ys) (h3 : Rd w B1 ys2) (k0 : xs.length ≤ c0) (k1 : xs2.length ≤ c1) (k2 : ys.length ≤ d0) (k3 : ys2.length ≤ d1) :
    Calls Try.prog 15 #[.agg #[.slice A0 xs.length c0, .slice A1 xs2.length c1], .agg #[.slice B0 ys.length d0, .slice B1 ys2.length d1]] w fun e w' => e = .returned (.bool (sam xs xs2 ys ys2)) ∧ Below w.heap.size w w' := by
  refine lattice_Same.calls (xs.length + xs2.length + 1) A0 c0 xs A1 c1 xs2 B0 d0 ys B1 d1 ys2 _ w h0 k0 h1 k1 h2 k2 h3 k3 ?_
  unfold lattice_Same.f sam
  rw [equal_f xs ys hl (by omega), equal_f xs2 ys2 hl2 (by omega)]
  simp only [Option.bind_some]
  cases decide (xs = ys) <;> simp
def mrg (a a2 b b2 : List Int) : List Int × List Int × Bool := if b.length = a.length ∧ b2.length = a2.length then (List.zipWith mer a b, List.zipWith mer a2 b2, true) else ([], [], false)
/-- A frame that is handed back, read. -/
def Frm (m m2 : List Int) (ok : Option Bool) (w : World) (e : Ending) (w' : World) : Prop := ∃ F0 F1 f0 f1, e = .returned (match ok with | some b => .tuple #[.agg #[.slice F0 m.length f0, .slice F1 m2.length f1], .bool b] | none => .agg #[.slice F0 m.length f0, .slice F1 m2.length f1]) ∧ m.length ≤ f0 ∧ m2.length ≤ f1 ∧ Rd w' F0 m ∧ Rd w' F1 m2 ∧ Below w.heap.size w w' ∧ Kd.R (Kd.int .i64) 3 w' w.heap.size (fun _ => True) (.slice F0 m.length f0) m ∧ Kd.R (Kd.int .i64) 3 w' w.heap.size (fun _ => True) (.slice F1 m2.length f1) m2
theorem rd_none (w : World) : Rd w none [] := Kd.C_of_reads (d := (0 : Int)) (h1 := fun _ => rfl) ⟨rfl, by decide, fun h => by cases h⟩
theorem merge_b (xs xs2 ys ys2 : List Int) (hl : xs.length ≤ 10000) (hl2 : xs2.length ≤ 10000) (A0 A1 B0 B1 : Option Addr) (c0 c1 d0 d1 : Nat) (w : World) (h0 : Rd w A0 xs) (h1 : Rd w A1 xs2) (h2 : Rd w B0 ys) (h3 : Rd w B1 ys2) :
    Calls Try.prog 11 #[.agg #[.slice A0 xs.length c0, .slice A1 xs2.length c1], .agg #[.slice B0 ys.length d0, .slice B1 ys2.length d1]] w (Frm (mrg xs xs2 ys ys2).1 (mrg xs xs2 ys ys2).2.1 (some (mrg xs xs2 ys ys2).2.2) w) := by
  unfold mrg
  by_cases h : ys.length = xs.length ∧ ys2.length = xs2.length
  · rw [if_pos h]
    refine (merge_c xs xs2 ys ys2 hl hl2 A0 A1 B0 B1 c0 c1 d0 d1 w h0 h1 h2 h3 h.1 h.2).mono ?_
    rintro e w' ⟨v1, v2, P, rfl, r1, r2, hb⟩
    obtain ⟨E1, e1, rfl⟩ := Kd.R_slice r1
    obtain ⟨E2, e2, rfl⟩ := Kd.R_slice r2
    exact ⟨E1, E2, e1, e2, rfl, (Kd.R_reads' r1).2.1, (Kd.R_reads' r2).2.1, (Kd.R_reads' r1).2.2, (Kd.R_reads' r2).2.2, hb, Kd.R_mono r1 (fun _ _ => trivial), Kd.R_mono r2 (fun _ _ => trivial)⟩
  · rw [if_neg h]
    have key : Calls Try.prog 11 #[.agg #[.slice A0 xs.length c0, .slice A1 xs2.length c1], .agg #[.slice B0 ys.length d0, .slice B1 ys2.length d1]] w fun e w' => e = .returned (.tuple #[.agg #[.slice none 0 0, .slice none 0 0], .bool false]) ∧ Below w.heap.size w w' := by
      by_cases he : ys.length = xs.length
      · exact merge_no2 xs xs2 ys ys2 hl hl2 A0 A1 B0 B1 c0 c1 d0 d1 w h0 h1 h2 h3 he (fun e => h ⟨he, e⟩)
      · exact merge_no xs xs2 ys ys2 hl hl2 A0 A1 B0 B1 c0 c1 d0 d1 w h0 h1 h2 h3 he
    refine key.mono ?_
    rintro e w' ⟨rfl, hb⟩
    exact ⟨none, none, 0, 0, rfl, Nat.le_refl _, Nat.le_refl _, rd_none _, rd_none _, hb, Kd.R_nil _ _ _ _ _, Kd.R_nil _ _ _ _ _⟩
theorem ints_l0 (xs ys : List Int) (hn : xs.length ≤ 1000000) (hl : ys.length = xs.length) : ∀ (d i k : Nat), i + d = xs.length → d < k → trammelkit_SameInts.l0 k xs ys (i : Int) = some (decide (xs.drop i = ys.drop i)) := by
  intro d
  induction d with
  | zero =>
    intro i k hd hk
    obtain ⟨k, rfl⟩ : ∃ m, k = m + 1 := ⟨k - 1, by omega⟩
    simp only [trammelkit_SameInts.l0]
    rw [if_neg (by omega), List.drop_eq_nil_of_le (by omega), List.drop_eq_nil_of_le (by omega)]
    simp
  | succ d ih =>
    intro i k hd hk
    obtain ⟨k, rfl⟩ : ∃ m, k = m + 1 := ⟨k - 1, by omega⟩
    have hi : i < xs.length := by omega
    have h1 := rd_nat xs i hi
    have h2 := rd_nat ys i (by omega)
    simp only [trammelkit_SameInts.l0]
    rw [h1, h2]
    rw [if_pos (by omega), if_pos (by omega), if_pos (by omega)]
    by_cases h : xs[i] = ys[i]'(by omega)
    · rw [if_pos h, w64 (by omega) (by omega), show (i : Int) + 1 = ((i + 1 : Nat) : Int) by omega, ih (i + 1) k (by omega) (by omega)]
      simp [drop_ne hl i hi, h]
    · rw [if_neg h]
      simp [drop_ne hl i hi, h]
theorem ints_f (xs ys : List Int) (hn : xs.length ≤ 1000000) {k : Nat} (hk : xs.length < k) : trammelkit_SameInts.f k xs ys = some (decide (xs = ys)) := by
  unfold trammelkit_SameInts.f
  by_cases hl : ys.length = xs.length
  · rw [if_pos (by omega)]
    have := ints_l0 xs ys hn hl xs.length 0 k (by omega) hk
    simpa using this
  · rw [if_neg (by omega)]
    have : xs ≠ ys := fun e => hl (by rw [e])
    simp [this]
theorem ints_b (xs ys : List Int) (hl : xs.length ≤ 1000000) (A0 B0 : Option Addr) (c0 d0 : Nat) (w : World) (h0 : Rd w A0 xs) (h2 : Rd w B0 ys) (k0 : xs.length ≤ c0) (k2 : ys.length ≤ d0) :
    Calls Try.prog 22 #[.slice A0 xs.length c0, .slice B0 ys.length d0] w fun e w' => e = .returned (.bool (decide (xs = ys))) ∧ Drawn0 w w' :=
  trammelkit_SameInts.calls (xs.length + 1) A0 c0 xs B0 d0 ys _ w h0 k0 h2 k2 (ints_f xs ys hl (Nat.lt_succ_self _))
theorem large_b (xs xs2 : List Int) (A0 A1 : Option Addr) (c0 c1 : Nat) (w : World) (h0 : Rd w A0 xs) (h1 : Rd w A1 xs2) (k0 : xs.length ≤ c0) (k1 : xs2.length ≤ c1) :
    Calls Try.prog 7 #[.agg #[.slice A0 xs.length c0, .slice A1 xs2.length c1]] w fun e w' => e = .returned (.bool (decide (xs.length > 5000 ∨ xs2.length > 5000))) ∧ Below w.heap.size w w' := by
  refine trammellaw20_large.calls A0 c0 xs A1 c1 xs2 _ w h0 k0 h1 k1 ?_
  unfold trammellaw20_large.f
  by_cases h : (xs.length : Int) > 5000
  · rw [if_pos h, decide_eq_true (show xs.length > 5000 ∨ xs2.length > 5000 by omega)]
  · rw [if_neg h]
    by_cases h' : (xs2.length : Int) > 5000
    · rw [decide_eq_true h', decide_eq_true (show xs.length > 5000 ∨ xs2.length > 5000 by omega)]
    · rw [decide_eq_false h', decide_eq_false (show ¬ (xs.length > 5000 ∨ xs2.length > 5000) by omega)]
end Go.Proofs.Ytnjmheadmcjgcaa.WalkBase
