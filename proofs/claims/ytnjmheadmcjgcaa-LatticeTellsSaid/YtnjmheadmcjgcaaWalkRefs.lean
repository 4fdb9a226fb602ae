/- The document side of the lattice: what its functions answer. Under no conditions beyond the statement's own. -/
import Derived.Test.YtnjmheadmcjgcaaPLatticeTellsx3
import Derived.Test.YtnjmheadmcjgcaaSwitch
import Derived.Outline
import Derived.Deep.RegionWith
import Derived.Test.YtnjmheadmcjgcaaWalkPairs
import Derived.Test.YtnjmheadmcjgcaaWalkSlots
import Derived.Test.YtnjmheadmcjgcaaWalkMerge
import Derived.Test.YtnjmheadmcjgcaaWalkHeight
import Derived.Test.YtnjmheadmcjgcaaWalkBase
import Derived.Test.YtnjmheadmcjgcaaPlainLaws
set_option linter.unusedSimpArgs false
set_option linter.unusedVariables false
namespace Go.Proofs.Ytnjmheadmcjgcaa.WalkRefs
open Go.RowKit Go.Proofs.Ytnjmheadmcjgcaa.PLatticeTells Go.Proofs.YtnjmheadmcjgcaaW.PrintWords Go.Proofs.YtnjmheadmcjgcaaW.PrintLast Go.Proofs.YtnjmheadmcjgcaaW.PrintMore Go.Proofs.Ytnjmheadmcjgcaa.Switch
open Go.Proofs.Ytnjmheadmcjgcaa.WalkPairs
open Go.Proofs.Ytnjmheadmcjgcaa.WalkSlots
open Go.Proofs.Ytnjmheadmcjgcaa.WalkMerge
open Go.Proofs.Ytnjmheadmcjgcaa.WalkHeight (hgt height_c)
open Go.Proofs.Ytnjmheadmcjgcaa.WalkBase
theorem w64 {x : Int} (h0 : -9223372036854775808 ≤ x) (h1 : x ≤ 9223372036854775807) : wrap64 x = x := by unfold wrap64; omega
theorem zip_drop {α : Type} (g : Int → Int → α) {a b : List Int} (hl : b.length = a.length) (i : Nat) (hi : i < a.length) : List.zipWith g (a.drop i) (b.drop i) = g (rd a (i : Int)) (rd b (i : Int)) :: List.zipWith g (a.drop (i + 1)) (b.drop (i + 1)) := by
  rw [List.drop_eq_getElem_cons hi, List.drop_eq_getElem_cons (show i < b.length by omega), List.zipWith_cons_cons, WalkBase.rd_nat a i hi, WalkBase.rd_nat b i (by omega)]
theorem both_l0 (a b : List Int) (hn : a.length ≤ 10000) (hl : b.length = a.length) : ∀ (d i k : Nat) (acc : List Int), i + d = a.length → acc.length ≤ i → d < k → trammelref20_both.l0 k a b acc (i : Int) = some (acc ++ List.zipWith mer (a.drop i) (b.drop i)) := by
  intro d
  induction d with
  | zero =>
    intro i k acc hd hacc hk
    obtain ⟨k, rfl⟩ : ∃ m, k = m + 1 := ⟨k - 1, by omega⟩
    simp only [trammelref20_both.l0]
    rw [if_neg (by omega), List.drop_eq_nil_of_le (show a.length ≤ i by omega)]
    simp
  | succ d ih =>
    intro i k acc hd hacc hk
    obtain ⟨k, rfl⟩ : ∃ m, k = m + 1 := ⟨k - 1, by omega⟩
    have hi : i < a.length := by omega
    simp only [trammelref20_both.l0]
    rw [if_pos (by omega), if_pos (by omega), if_pos (by omega), zip_drop mer hl i hi, w64 (by omega) (by omega), show (i : Int) + 1 = ((i + 1 : Nat) : Int) by omega]
    by_cases h : rd a (i : Int) = rd b (i : Int)
    · rw [if_pos h, if_pos (by omega), ih (i + 1) k _ (by omega) (by simp; omega) (by omega)]
      simp [mer, h]
    · rw [if_neg h, if_pos (by omega), ih (i + 1) k _ (by omega) (by simp; omega) (by omega)]
      simp [mer, h]
theorem both_f (a b : List Int) (hn : a.length ≤ 10000) (hl : b.length = a.length) {k : Nat} (hk : a.length < k) : trammelref20_both.f k a b = some (List.zipWith mer a b) := by
  unfold trammelref20_both.f
  have := both_l0 a b hn hl a.length 0 k [] (by omega) (by simp) hk
  simpa using this
theorem together_f (a a2 b b2 : List Int) : trammelref20_Together.f a a2 b b2 = some (decide (b.length = a.length ∧ b2.length = a2.length)) := by
  unfold trammelref20_Together.f
  by_cases h : (a.length : Int) = (b.length : Int)
  · rw [if_pos h]
    congr 1
    by_cases h2 : a2.length = b2.length
    · rw [decide_eq_true ⟨by omega, by omega⟩]
      simp [h2]
    · rw [decide_eq_false (fun e => h2 e.2.symm)]
      simp [beq_eq_false_iff_ne]
      omega
  · rw [if_neg h, decide_eq_false (by omega)]
theorem refmerge_f (a a2 b b2 : List Int) (hn : a.length ≤ 10000) (hn2 : a2.length ≤ 10000) : trammelref20_Merge.f 10001 a a2 b b2 = some (mrg a a2 b b2) := by
  unfold trammelref20_Merge.f mrg
  rw [together_f]
  simp only [Option.bind_some]
  by_cases h : b.length = a.length ∧ b2.length = a2.length
  · rw [if_pos (decide_eq_true h), if_pos h, both_f a b hn h.1 (by omega), both_f a2 b2 hn2 h.2 (by omega)]
    rfl
  · rw [if_neg (by simp [h]), if_neg h]
theorem below_l0 (a b : List Int) (hn : a.length ≤ 10000) (hl : b.length = a.length) : ∀ (d i k : Nat), i + d = a.length → d < k → trammelref20_below.l0 k a b (i : Int) = some (!(List.zipWith und (a.drop i) (b.drop i)).contains false) := by
  intro d
  induction d with
  | zero =>
    intro i k hd hk
    obtain ⟨k, rfl⟩ : ∃ m, k = m + 1 := ⟨k - 1, by omega⟩
    simp only [trammelref20_below.l0]
    rw [if_neg (by omega), List.drop_eq_nil_of_le (show a.length ≤ i by omega)]
    simp
  | succ d ih =>
    intro i k hd hk
    obtain ⟨k, rfl⟩ : ∃ m, k = m + 1 := ⟨k - 1, by omega⟩
    have hi : i < a.length := by omega
    simp only [trammelref20_below.l0]
    rw [if_pos (by omega), if_pos (by omega), if_pos (by omega), zip_drop und hl i hi, w64 (by omega) (by omega), show (i : Int) + 1 = ((i + 1 : Nat) : Int) by omega, ih (i + 1) k (by omega) (by omega)]
    by_cases h : rd b (i : Int) = 0
    · rw [if_pos h]
      simp [und, h]
    · rw [if_neg h]
      by_cases h2 : rd b (i : Int) = rd a (i : Int)
      · rw [if_pos h2]
        simp [und, h2]
      · rw [if_neg h2]
        simp [und, h, h2]
theorem below_f (a b : List Int) (hn : a.length ≤ 10000) (hl : b.length = a.length) {k : Nat} (hk : a.length < k) : trammelref20_below.f k a b = some (!(List.zipWith und a b).contains false) := by
  unfold trammelref20_below.f
  have := below_l0 a b hn hl a.length 0 k (by omega) hk
  simpa using this
theorem refbelow_f (a a2 b b2 : List Int) (hn : a.length ≤ 10000) (hn2 : a2.length ≤ 10000) : trammelref20_Below.f 10001 a a2 b b2 = some (bel a a2 b b2) := by
  unfold trammelref20_Below.f bel
  rw [together_f]
  simp only [Option.bind_some]
  by_cases h : b.length = a.length ∧ b2.length = a2.length
  · rw [if_pos (decide_eq_true h), below_f a b hn h.1 (by omega), below_f a2 b2 hn2 h.2 (by omega), decide_eq_true h.1, decide_eq_true h.2]
    cases (List.zipWith und a b).contains false <;> simp
  · rw [if_neg (by simp [h])]
    by_cases h1 : b.length = a.length
    · rw [decide_eq_true h1, decide_eq_false (fun e => h ⟨h1, e⟩)]
      simp
    · rw [decide_eq_false h1]
      simp
theorem refsame_f (a a2 b b2 : List Int) (hn : a.length ≤ 10000) (hn2 : a2.length ≤ 10000) : trammelref20_Same.f 10001 a a2 b b2 = some (sam a a2 b b2) := by
  unfold trammelref20_Same.f
  rw [refbelow_f a a2 b b2 hn hn2, Plain.sam_bel]
  simp only [Option.bind_some]
  cases h : bel a a2 b b2 with
  | false => simp
  | true =>
    have hl := (Plain.bel_iff _ _ _ _).1 h
    have l1 := Plain.un_len hl.1
    have l2 := Plain.un_len hl.2
    rw [if_pos rfl, refbelow_f b b2 a a2 (by omega) (by omega)]
    simp
theorem hgt_drop (a : List Int) (i : Nat) (hi : i < a.length) : hgt (a.drop i) = hgt (a.drop (i + 1)) + if rd a (i : Int) = 0 then 0 else 1 := by
  rw [List.drop_eq_getElem_cons hi, Plain.hgt_cons, WalkBase.rd_nat a i hi]
theorem hgt_len (a : List Int) : hgt a ≤ a.length := List.countP_le_length
theorem height_l1 (a b : List Int) (hn : b.length ≤ 10000) : ∀ (d i k : Nat) (n : Nat), i + d = b.length → n ≤ 10000 + i → d < k → trammelref20_Height.l1 k (n : Int) (i : Int) a b = some ((n + hgt (b.drop i) : Nat) : Int) := by
  intro d
  induction d with
  | zero =>
    intro i k n hd hm hk
    obtain ⟨k, rfl⟩ : ∃ m, k = m + 1 := ⟨k - 1, by omega⟩
    simp only [trammelref20_Height.l1]
    rw [if_neg (by omega), List.drop_eq_nil_of_le (show b.length ≤ i by omega)]
    simp [hgt]
  | succ d ih =>
    intro i k n hd hm hk
    obtain ⟨k, rfl⟩ : ∃ m, k = m + 1 := ⟨k - 1, by omega⟩
    have hi : i < b.length := by omega
    simp only [trammelref20_Height.l1]
    rw [if_pos (by omega), if_pos (by omega), hgt_drop b i hi, w64 (x := (i : Int) + 1) (by omega) (by omega), show (i : Int) + 1 = ((i + 1 : Nat) : Int) by omega]
    by_cases h : rd b (i : Int) = 0
    · rw [if_pos h, if_pos h, ih (i + 1) k n (by omega) (by omega) (by omega)]
      simp
    · rw [if_neg h, if_neg h, w64 (by omega) (by omega), show (n : Int) + 1 = ((n + 1 : Nat) : Int) by omega, ih (i + 1) k (n + 1) (by omega) (by omega) (by omega)]
      congr 2
      omega
theorem height_l0 (a b : List Int) (hn : a.length ≤ 10000) (hn2 : b.length ≤ 10000) : ∀ (d i k : Nat) (n : Nat), i + d = a.length → n ≤ i → d + b.length + 1 < k → trammelref20_Height.l0 k (n : Int) (i : Int) a b = some ((n + hgt (a.drop i) + hgt b : Nat) : Int) := by
  intro d
  induction d with
  | zero =>
    intro i k n hd hm hk
    obtain ⟨k, rfl⟩ : ∃ m, k = m + 1 := ⟨k - 1, by omega⟩
    simp only [trammelref20_Height.l0]
    rw [if_neg (by omega), List.drop_eq_nil_of_le (show a.length ≤ i by omega)]
    have := height_l1 a b hn2 b.length 0 k n (by omega) (by omega) (by omega)
    simpa [hgt] using this
  | succ d ih =>
    intro i k n hd hm hk
    obtain ⟨k, rfl⟩ : ∃ m, k = m + 1 := ⟨k - 1, by omega⟩
    have hi : i < a.length := by omega
    simp only [trammelref20_Height.l0]
    rw [if_pos (by omega), if_pos (by omega), hgt_drop a i hi, w64 (x := (i : Int) + 1) (by omega) (by omega), show (i : Int) + 1 = ((i + 1 : Nat) : Int) by omega]
    by_cases h : rd a (i : Int) = 0
    · rw [if_pos h, if_pos h, ih (i + 1) k n (by omega) (by omega) (by omega)]
      simp
    · rw [if_neg h, if_neg h, w64 (by omega) (by omega), show (n : Int) + 1 = ((n + 1 : Nat) : Int) by omega, ih (i + 1) k (n + 1) (by omega) (by omega) (by omega)]
      congr 2
      omega
theorem refheight_f (a b : List Int) (hn : a.length ≤ 10000) (hn2 : b.length ≤ 10000) : trammelref20_Height.f 20010 a b = some ((hgt a + hgt b : Nat) : Int) := by
  unfold trammelref20_Height.f
  have := height_l0 a b hn hn2 a.length 0 20010 0 (by omega) (by omega) (by omega)
  simpa using this
theorem sameframe_f (a a2 b b2 : List Int) (hn : a.length ≤ 10000) (hn2 : a2.length ≤ 10000) : trammelkit_SameFrame.f 10001 a a2 b b2 = some (sam a a2 b b2) := by
  unfold trammelkit_SameFrame.f sam
  rw [WalkBase.ints_f a b (by omega) (by omega), WalkBase.ints_f a2 b2 (by omega) (by omega)]
  simp only [Option.bind_some]
  cases decide (a = b) <;> simp
theorem spoil_l1 : ∀ (d i k : Nat) (a b : List Int), b.length ≤ 10000 → i + d = b.length → d < k → ∃ r1 r2, trammelkit_SpoilFrame.l1 k (i : Int) a b = some (r1, r2) := by
  intro d
  induction d with
  | zero =>
    intro i k a b hn hd hk
    obtain ⟨k, rfl⟩ : ∃ m, k = m + 1 := ⟨k - 1, by omega⟩
    refine ⟨a, b, ?_⟩
    simp only [trammelkit_SpoilFrame.l1]
    rw [if_neg (by omega)]
  | succ d ih =>
    intro i k a b hn hd hk
    obtain ⟨k, rfl⟩ : ∃ m, k = m + 1 := ⟨k - 1, by omega⟩
    obtain ⟨r1, r2, h⟩ := ih (i + 1) k a (b.set ((i : Int)).toNat (-99)) (by simpa using hn) (by simp; omega) (by omega)
    refine ⟨r1, r2, ?_⟩
    simp only [trammelkit_SpoilFrame.l1]
    rw [if_pos (by omega), if_pos (by omega), w64 (by omega) (by omega)]
    exact h
theorem spoil_l0 : ∀ (d i k : Nat) (a b : List Int), a.length ≤ 10000 → b.length ≤ 10000 → i + d = a.length → d + b.length + 1 < k → ∃ r1 r2, trammelkit_SpoilFrame.l0 k (i : Int) a b = some (r1, r2) := by
  intro d
  induction d with
  | zero =>
    intro i k a b hn hn2 hd hk
    obtain ⟨k, rfl⟩ : ∃ m, k = m + 1 := ⟨k - 1, by omega⟩
    obtain ⟨r1, r2, h⟩ := spoil_l1 b.length 0 k a b hn2 (by omega) (by omega)
    refine ⟨r1, r2, ?_⟩
    simp only [trammelkit_SpoilFrame.l0]
    rw [if_neg (by omega)]
    exact h
  | succ d ih =>
    intro i k a b hn hn2 hd hk
    obtain ⟨k, rfl⟩ : ∃ m, k = m + 1 := ⟨k - 1, by omega⟩
    obtain ⟨r1, r2, h⟩ := ih (i + 1) k (a.set ((i : Int)).toNat (-99)) b (by simpa using hn) hn2 (by simp; omega) (by omega)
    refine ⟨r1, r2, ?_⟩
    simp only [trammelkit_SpoilFrame.l0]
    rw [if_pos (by omega), if_pos (by omega), w64 (by omega) (by omega)]
    exact h
theorem spoil_f (a b : List Int) (hn : a.length ≤ 10000) (hn2 : b.length ≤ 10000) : ∃ r1 r2, trammelkit_SpoilFrame.f 20010 a b = some (r1, r2) :=
  spoil_l0 a.length 0 20010 a b hn hn2 (by omega) (by omega)
/-! the contracts -/
theorem refmerge_t (m m2 : List Int) (ok : Bool) (xs xs2 ys ys2 : List Int) (hl : xs.length ≤ 10000) (hl2 : xs2.length ≤ 10000) (hm : mrg xs xs2 ys ys2 = (m, m2, ok)) (A0 A1 B0 B1 : Option Addr) (c0 c1 d0 d1 : Nat) (w : World) (h0 : Rd w A0 xs) (h1 : Rd w A1 xs2) (h2 : Rd w B0 ys) (h3 : Rd w B1 ys2) (k0 : xs.length ≤ c0) (k1 : xs2.length ≤ c1) (k2 : ys.length ≤ d0) (k3 : ys2.length ≤ d1) :
    Calls Try.prog 10 #[.agg #[.slice A0 xs.length c0, .slice A1 xs2.length c1], .agg #[.slice B0 ys.length d0, .slice B1 ys2.length d1]] w fun e w' => ∃ F0 F1 f0 f1, e = .returned (.tuple #[.agg #[.slice F0 m.length f0, .slice F1 m2.length f1], .bool ok]) ∧ m.length ≤ f0 ∧ m2.length ≤ f1 ∧ Rd w' F0 m ∧ Rd w' F1 m2 ∧ Below w.heap.size w w' := by
  refine (trammelref20_Merge.calls 10001 A0 c0 xs A1 c1 xs2 B0 d0 ys B1 d1 ys2 m m2 ok w h0 k0 h1 k1 h2 k2 h3 k3 (by rw [refmerge_f xs xs2 ys ys2 hl hl2, hm])).mono ?_
  rintro e w' ⟨v0, v1, rfl, r0, r1, hb⟩
  obtain ⟨F0, f0, rfl⟩ := Kd.R_slice r0
  obtain ⟨F1, f1, rfl⟩ := Kd.R_slice r1
  exact ⟨F0, F1, f0, f1, rfl, (Kd.R_reads' r0).2.1, (Kd.R_reads' r1).2.1, (Kd.R_reads' r0).2.2, (Kd.R_reads' r1).2.2, hb⟩
theorem merge_r (m m2 : List Int) (ok : Bool) (xs xs2 ys ys2 : List Int) (hl : xs.length ≤ 10000) (hl2 : xs2.length ≤ 10000) (hm : mrg xs xs2 ys ys2 = (m, m2, ok)) (A0 A1 B0 B1 : Option Addr) (c0 c1 d0 d1 : Nat) (w : World) (h0 : Rd w A0 xs) (h1 : Rd w A1 xs2) (h2 : Rd w B0 ys) (h3 : Rd w B1 ys2) :
    Calls Try.prog 11 #[.agg #[.slice A0 xs.length c0, .slice A1 xs2.length c1], .agg #[.slice B0 ys.length d0, .slice B1 ys2.length d1]] w fun e w' => ∃ F0 F1 f0 f1, ∃ P : Nat → Prop, e = .returned (.tuple #[.agg #[.slice F0 m.length f0, .slice F1 m2.length f1], .bool ok]) ∧ m.length ≤ f0 ∧ m2.length ≤ f1 ∧ Kd.R (Kd.int .i64) 3 w' w.heap.size P (.slice F0 m.length f0) m ∧ Kd.R (Kd.int .i64) 3 w' w.heap.size (fun k => ¬ P k) (.slice F1 m2.length f1) m2 ∧ Below w.heap.size w w' := by
  by_cases h : ys.length = xs.length ∧ ys2.length = xs2.length
  · have em : mrg xs xs2 ys ys2 = (List.zipWith mer xs ys, List.zipWith mer xs2 ys2, true) := if_pos h
    rw [em] at hm
    simp only [Prod.mk.injEq] at hm
    obtain ⟨rfl, rfl, rfl⟩ := hm
    refine (merge_c xs xs2 ys ys2 hl hl2 A0 A1 B0 B1 c0 c1 d0 d1 w h0 h1 h2 h3 h.1 h.2).mono ?_
    rintro e w' ⟨v1, v2, P, rfl, r1, r2, hb⟩
    obtain ⟨E1, e1, rfl⟩ := Kd.R_slice r1
    obtain ⟨E2, e2, rfl⟩ := Kd.R_slice r2
    exact ⟨E1, E2, e1, e2, P, rfl, (Kd.R_reads' r1).2.1, (Kd.R_reads' r2).2.1, r1, r2, hb⟩
  · have em : mrg xs xs2 ys ys2 = ([], [], false) := if_neg h
    rw [em] at hm
    simp only [Prod.mk.injEq] at hm
    obtain ⟨rfl, rfl, rfl⟩ := hm
    have key : Calls Try.prog 11 #[.agg #[.slice A0 xs.length c0, .slice A1 xs2.length c1], .agg #[.slice B0 ys.length d0, .slice B1 ys2.length d1]] w fun e w' => e = .returned (.tuple #[.agg #[.slice none 0 0, .slice none 0 0], .bool false]) ∧ Below w.heap.size w w' := by
      by_cases he : ys.length = xs.length
      · exact merge_no2 xs xs2 ys ys2 hl hl2 A0 A1 B0 B1 c0 c1 d0 d1 w h0 h1 h2 h3 he (fun e => h ⟨he, e⟩)
      · exact merge_no xs xs2 ys ys2 hl hl2 A0 A1 B0 B1 c0 c1 d0 d1 w h0 h1 h2 h3 he
    refine key.mono ?_
    rintro e w' ⟨rfl, hb⟩
    exact ⟨none, none, 0, 0, fun _ => True, rfl, Nat.le_refl _, Nat.le_refl _, Kd.R_nil _ _ _ _ _, Kd.R_nil _ _ _ _ _, hb⟩
theorem refbelow_t (xs xs2 ys ys2 : List Int) (hl : xs.length ≤ 10000) (hl2 : xs2.length ≤ 10000) (A0 A1 B0 B1 : Option Addr) (c0 c1 d0 d1 : Nat) (w : World) (r : Bool) (hr : bel xs xs2 ys ys2 = r) (h0 : Rd w A0 xs) (h1 : Rd w A1 xs2) (h2 : Rd w B0 ys) (h3 : Rd w B1 ys2) (k0 : xs.length ≤ c0) (k1 : xs2.length ≤ c1) (k2 : ys.length ≤ d0) (k3 : ys2.length ≤ d1) :
    Calls Try.prog 14 #[.agg #[.slice A0 xs.length c0, .slice A1 xs2.length c1], .agg #[.slice B0 ys.length d0, .slice B1 ys2.length d1]] w fun e w' => e = .returned (.bool r) ∧ Below w.heap.size w w' :=
  trammelref20_Below.calls 10001 A0 c0 xs A1 c1 xs2 B0 d0 ys B1 d1 ys2 r w h0 k0 h1 k1 h2 k2 h3 k3 (by rw [refbelow_f xs xs2 ys ys2 hl hl2, hr])
theorem refsame_t (xs xs2 ys ys2 : List Int) (hl : xs.length ≤ 10000) (hl2 : xs2.length ≤ 10000) (A0 A1 B0 B1 : Option Addr) (c0 c1 d0 d1 : Nat) (w : World) (r : Bool) (hr : sam xs xs2 ys ys2 = r) (h0 : Rd w A0 xs) (h1 : Rd w A1 xs2) (h2 : Rd w B0 ys) (h3 : Rd w B1 ys2) (k0 : xs.length ≤ c0) (k1 : xs2.length ≤ c1) (k2 : ys.length ≤ d0) (k3 : ys2.length ≤ d1) :
    Calls Try.prog 16 #[.agg #[.slice A0 xs.length c0, .slice A1 xs2.length c1], .agg #[.slice B0 ys.length d0, .slice B1 ys2.length d1]] w fun e w' => e = .returned (.bool r) ∧ Below w.heap.size w w' :=
  trammelref20_Same.calls 10001 A0 c0 xs A1 c1 xs2 B0 d0 ys B1 d1 ys2 r w h0 k0 h1 k1 h2 k2 h3 k3 (by rw [refsame_f xs xs2 ys ys2 hl hl2, hr])
theorem refheight_t (xs xs2 : List Int) (hl : xs.length ≤ 10000) (hl2 : xs2.length ≤ 10000) (A0 A1 : Option Addr) (c0 c1 : Nat) (w : World) (r : Int) (hr : ((hgt xs + hgt xs2 : Nat) : Int) = r) (h0 : Rd w A0 xs) (h1 : Rd w A1 xs2) (k0 : xs.length ≤ c0) (k1 : xs2.length ≤ c1) :
    Calls Try.prog 18 #[.agg #[.slice A0 xs.length c0, .slice A1 xs2.length c1]] w fun e w' => e = .returned (.int .i64 r) ∧ Below w.heap.size w w' :=
  trammelref20_Height.calls 20010 A0 c0 xs A1 c1 xs2 r w h0 k0 h1 k1 (by rw [refheight_f xs xs2 hl hl2, hr])
theorem sameframe_t (xs xs2 : List Int) (hl : xs.length ≤ 10000) (hl2 : xs2.length ≤ 10000) (A0 A1 B0 B1 : Option Addr) (c0 c1 d0 d1 : Nat) (w : World) (h0 : Rd w A0 xs) (h1 : Rd w A1 xs2) (h2 : Rd w B0 xs) (h3 : Rd w B1 xs2) (k0 : xs.length ≤ c0) (k1 : xs2.length ≤ c1) (k2 : xs.length ≤ d0) (k3 : xs2.length ≤ d1) :
    Calls Try.prog 12 #[.agg #[.slice A0 xs.length c0, .slice A1 xs2.length c1], .agg #[.slice B0 xs.length d0, .slice B1 xs2.length d1]] w fun e w' => e = .returned (.bool true) ∧ Below w.heap.size w w' :=
  trammelkit_SameFrame.calls 10001 A0 c0 xs A1 c1 xs2 B0 d0 xs B1 d1 xs2 true w h0 k0 h1 k1 h2 k2 h3 k3 (by rw [sameframe_f xs xs2 xs xs2 hl hl2, Plain.sam_self])
theorem spoil_t (m m2 : List Int) (hl : m.length ≤ 10000) (hl2 : m2.length ≤ 10000) (P : Nat → Prop) (u0 u1 : Value) (w0 w : World) (hB : Below w0.heap.size w0 w) (h0 : Kd.R (Kd.int .i64) 3 w w0.heap.size P u0 m) (h1 : Kd.R (Kd.int .i64) 3 w w0.heap.size (fun k => ¬ P k) u1 m2) :
    Calls Try.prog 19 #[.agg #[u0, u1]] w fun e w' => e = .returned (.tuple #[]) ∧ Below w0.heap.size w0 w' := by
  obtain ⟨r1, r2, h⟩ := spoil_f m m2 hl hl2
  refine (trammelkit_SpoilFrame.calls 20010 P u0 m (fun k => ¬ P k) u1 m2 r1 r2 w0 w hB h0 (fun _ h k => k h) h1 (fun _ h k => h k) h).mono ?_
  rintro e w' ⟨rfl, _, _, hb, _⟩
  exact ⟨rfl, hb⟩
end Go.Proofs.Ytnjmheadmcjgcaa.WalkRefs
