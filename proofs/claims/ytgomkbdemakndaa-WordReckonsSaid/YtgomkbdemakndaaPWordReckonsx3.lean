/- Written by a program of this session's: functions that the law reaches, their walks, the row; no conditions beyond the statement's own. -/
import Derived.Test.YtgomkbdemakndaaPWordReckonsx0
import Derived.Test.YtgomkbdemakndaaPWordReckonsx2
namespace Go.Proofs.Ytgomkbdemakndaa.PWordReckons
open Go.RowKit Go.Proofs.YtgomkbdemakndaaW.PrintWords Go.Proofs.YtgomkbdemakndaaW.PrintLast Go.Proofs.YtgomkbdemakndaaW.PrintMore
attribute [local go_sem] max2_int min2_int max_two min_two max_three min_three max_four min_four   -- for this text's walks alone
set_option linter.unusedVariables false
set_option linter.unusedSimpArgs false

/-! ### trammelref02_Wrap: function 16 -/
mutual
def trammelref02_Wrap.l0 : Nat → Int → Int → Int → Int → Option (Int)
  | 0, _, _, _, _ => none
  | k + 1, x1, x5, x6, x7 => if x7 < x5 then (if 0 ≤ x7 then (trammelref02_Wrap.l0 k x1 x5 (Go.bits .or .u64 x6 (shl .u64 (Go.bits .and .u64 (shr .u64 (IntKind.u64.wrap (x1)) x7) 1) x7)) (wrap64 (x7 + 1))) else (none)) else (trammelref02_Wrap.l1 k x1 x5 x6 x5)
def trammelref02_Wrap.l1 : Nat → Int → Int → Int → Int → Option (Int)
  | 0, _, _, _, _ => none
  | k + 1, x1, x5, x6, x8 => if x5 > 0 then (if x8 < 64 then (if 0 ≤ (wrap64 (x5 - 1)) then (if 0 ≤ x8 then (trammelref02_Wrap.l1 k x1 x5 (Go.bits .or .u64 x6 (shl .u64 (Go.bits .and .u64 (shr .u64 (IntKind.u64.wrap (x1)) (wrap64 (x5 - 1))) 1) x8)) (wrap64 (x8 + 1))) else (none)) else (none)) else (some (wrap64 (x6)))) else (some (wrap64 (x6)))
end
def trammelref02_Wrap.f (k : Nat) (a0 : Int) (a1 : Int) : Option (Int) := (trammelref02_Bits.f a0).bind fun t118 => (trammelref02_Wrap.l0 k a1 t118 0 0)
theorem trammelref02_Wrap.mono_l : ∀ k, (∀ y0 y1 y2 y3, LeO (trammelref02_Wrap.l0 k y0 y1 y2 y3) (trammelref02_Wrap.l0 (k + 1) y0 y1 y2 y3)) ∧ (∀ y0 y1 y2 y3, LeO (trammelref02_Wrap.l1 k y0 y1 y2 y3) (trammelref02_Wrap.l1 (k + 1) y0 y1 y2 y3))
  | 0 => ⟨fun _ _ _ _ r h => by simp [trammelref02_Wrap.l0] at h, fun _ _ _ _ r h => by simp [trammelref02_Wrap.l1] at h⟩
  | k + 1 => by
    obtain ⟨ih0, ih1⟩ := trammelref02_Wrap.mono_l k
    refine ⟨?_, ?_⟩
    · intro y0 y1 y2 y3
      unfold trammelref02_Wrap.l0
      repeat' first
      | (with_reducible exact ih0 _ _ _ _)
      | (with_reducible exact ih1 _ _ _ _)
      | (with_reducible exact LeO.refl _)
      | (with_reducible exact LeO.none _)
      | (with_reducible refine LeO.ite ?_ ?_)
      | (with_reducible refine LeO.bind ?_ (fun _ => ?_))
      | exact ih0 _ _ _ _
      | exact ih1 _ _ _ _
      | exact LeO.none _
      | refine LeO.ite ?_ ?_
      | refine LeO.bind ?_ (fun _ => ?_)
    · intro y0 y1 y2 y3
      unfold trammelref02_Wrap.l1
      repeat' first
      | (with_reducible exact ih0 _ _ _ _)
      | (with_reducible exact ih1 _ _ _ _)
      | (with_reducible exact LeO.refl _)
      | (with_reducible exact LeO.none _)
      | (with_reducible refine LeO.ite ?_ ?_)
      | (with_reducible refine LeO.bind ?_ (fun _ => ?_))
      | exact ih0 _ _ _ _
      | exact ih1 _ _ _ _
      | exact LeO.none _
      | refine LeO.ite ?_ ?_
      | refine LeO.bind ?_ (fun _ => ?_)
theorem trammelref02_Wrap.mono : ∀ a0 a1 k, LeO (trammelref02_Wrap.f k a0 a1) (trammelref02_Wrap.f (k + 1) a0 a1) := by
  intro a0 a1 k
  obtain ⟨ih0, ih1⟩ := trammelref02_Wrap.mono_l k
  unfold trammelref02_Wrap.f
  repeat' first
      | (with_reducible exact ih0 _ _ _ _)
      | (with_reducible exact ih1 _ _ _ _)
      | (with_reducible exact LeO.refl _)
      | (with_reducible exact LeO.none _)
      | (with_reducible refine LeO.ite ?_ ?_)
      | (with_reducible refine LeO.bind ?_ (fun _ => ?_))
      | exact ih0 _ _ _ _
      | exact ih1 _ _ _ _
      | exact LeO.none _
      | refine LeO.ite ?_ ?_
      | refine LeO.bind ?_ (fun _ => ?_)
set_option maxHeartbeats 8000000 in
set_option maxRecDepth 100000 in
theorem trammelref02_Wrap.calls (k : Nat) (a0 : Int) (a1 : Int) (r : Int) (w : World) (h : trammelref02_Wrap.f k a0 a1 = some r) :
    Calls Try.prog 16 #[.int .u8 a0, .int .i64 a1] w fun e w' => e = .returned (.int .i64 r) ∧ Drawn0 w w' := by
  have H : ((trammelref02_Bits.f a0).bind fun t118 => (trammelref02_Wrap.l0 k a1 t118 0 0)) = some r := h
  clear h
  replace H := Option.bind_eq_some_iff.mp H
  obtain ⟨t118, A30, H⟩ := H
  replace H : (trammelref02_Wrap.l0 k a1 t118 0 0) = some r := H
  have A3 := Aside0.mk A30
  clear A30
  have H' := Aside0.mk H
  clear H
  go_enter Try.func16, Try.ntmps16
  go_wp2_with (first | ((with_reducible refine gate_callee (f := 12) rfl ?_); refine goesL_ (some 10) rfl rfl Try.func12 (by kernel_rfl) rfl #[.int .u8 a0] rfl (by (try simp only [List.map_toArray, List.map_cons, List.map_nil]); first | done | rfl | (simp only [List.length_drop, List.length_take]; rfl)) ?_; (with_reducible refine (trammelref02_Bits.calls a0 t118 _ A3.out).mono ?_); rintro e w' ⟨rfl, ⟨nd, rfl⟩⟩; refine ⟨_, rfl, ?_⟩))
  go_loopg [6, 7] k (fun kq v6 v7 w' => ∃ (x6_1 : Int) (x7_1 : Int), v6 = .int .u64 x6_1 ∧ v7 = .int .i64 x7_1 ∧ Aside0 (trammelref02_Wrap.l0 kq a1 t118 x6_1 x7_1 = some r) ∧ Aside0 (kq ≤ k) ∧ Drawn0 w w')
  case atStart => exact ⟨(0), (0), (by first | rfl | (simp; done) | (simp [*]; done)), (by first | rfl | (simp; done) | (simp [*]; done)), H', ⟨Nat.le_refl _⟩, by repeat (first | exact Drawn0.refl _ | apply Drawn0.step)⟩
  case round =>
    clear H'
    try clear c1
    try clear p2
    obtain ⟨x6_1, x7_1, rfl, rfl, HA, HK1, ⟨m1, rfl⟩⟩ := hrel
    cases gk with
    | zero => exact absurd HA.out (by simp [trammelref02_Wrap.l0])
    | succ k1 =>
      have H := HA.out
      clear HA
      simp only [trammelref02_Wrap.l0] at H
      by_cases c4 : x7_1 < t118
      · rw [if_pos c4] at H
        have c4b0 : decide (x7_1 < t118) = true := decide_eq_true c4
        clear c4
        by_cases c5 : 0 ≤ x7_1
        · rw [if_pos c5] at H
          have c5b0 := eq_true c5
          have c5b1 : decide (0 ≤ x7_1) = true := decide_eq_true c5
          clear c5
          obtain ⟨ji6, hji6⟩ : ∃ j_ : Int, (shr .u64 (IntKind.u64.wrap (a1)) x7_1) = j_ := ⟨_, rfl⟩
          replace H : (trammelref02_Wrap.l0 k1 a1 t118 (Go.bits .or .u64 x6_1 (shl .u64 (Go.bits .and .u64 (ji6) 1) x7_1)) (wrap64 (x7_1 + 1))) = some r := by first | (rw [hji6] at H; exact H) | (simp only [hji6] at H ⊢; exact H)
          have hji6_ : ((IntKind.u64.wrap (a1)) / 2 ^ min x7_1.toNat 64) = ji6 := hji6
          have hji6z : x7_1 ≤ 64 → ((IntKind.u64.wrap (a1)) / 2 ^ x7_1.toNat) = ji6 := shr_small hji6
          have c7b0 := eq_true (of_decide_eq_true (by first | (with_reducible assumption) | assumption) : 0 ≤ x7_1)
          obtain ⟨ji8, hji8⟩ : ∃ j_ : Int, (shl .u64 (Go.bits .and .u64 (ji6) 1) x7_1) = j_ := ⟨_, rfl⟩
          replace H : (trammelref02_Wrap.l0 k1 a1 t118 (Go.bits .or .u64 x6_1 (ji8)) (wrap64 (x7_1 + 1))) = some r := by first | (rw [hji8] at H; exact H) | (simp only [hji8] at H ⊢; exact H)
          have hji8_ : (IntKind.u64.wrap ((Go.bits .and .u64 (ji6) 1) * 2 ^ min x7_1.toNat 64)) = ji8 := hji8
          have hji8z : x7_1 ≤ 64 → (IntKind.u64.wrap ((Go.bits .and .u64 (ji6) 1) * 2 ^ x7_1.toNat)) = ji8 := shl_small hji8
          have H' := Aside0.mk H
          clear H
          go_wp2
          go_roundg k1
          case measure => have := HK1.out; omega
          case rel => exact ⟨(Go.bits .or .u64 x6_1 (ji8)), (wrap64 (x7_1 + 1)), (by first | rfl | (simp; done) | (simp only [← hji8] <;> (first | rfl | simp)) | (simp [*]; done)), (by first | rfl | (simp; done) | (simp [*]; done)), H', ⟨by have := HK1.out; omega⟩, by repeat (first | exact Drawn0.refl _ | apply Drawn0.step)⟩
        · rw [if_neg c5] at H
          exact absurd H (by simp)
      · rw [if_neg c4] at H
        have c4b0 : decide (x7_1 < t118) = false := decide_eq_false c4
        clear c4
        have H' := Aside0.mk H
        clear H
        go_wp2
        go_loopg [6, 8] k1 (fun kq v6 v8 w' => ∃ (x6_2 : Int) (x8_2 : Int), v6 = .int .u64 x6_2 ∧ v8 = .int .i64 x8_2 ∧ Aside0 (trammelref02_Wrap.l1 kq a1 t118 x6_2 x8_2 = some r) ∧ Aside0 (kq ≤ k1) ∧ Drawn0 w w')
        case atStart => exact ⟨(x6_1), (t118), (by first | rfl | (simp; done) | (simp [*]; done)), (by first | rfl | (simp; done) | (simp [*]; done)), H', ⟨Nat.le_refl _⟩, by repeat (first | exact Drawn0.refl _ | apply Drawn0.step)⟩
        case round =>
          clear H'
          try clear c1
          try clear p2
          try clear c4
          try clear c4b0
          try clear c5
          try clear c5b0
          try clear c5b1
          try clear p6
          try clear c7
          try clear c7b0
          try clear p2
          obtain ⟨x6_2, x8_2, rfl, rfl, HA, HK2, ⟨m2, rfl⟩⟩ := hrel
          cases gk with
          | zero => exact absurd HA.out (by simp [trammelref02_Wrap.l1])
          | succ k2 =>
            have H := HA.out
            clear HA
            simp only [trammelref02_Wrap.l1] at H
            by_cases c9 : t118 > 0
            · rw [if_pos c9] at H
              have c9b0 : decide (0 < t118) = true := decide_eq_true c9
              clear c9
              by_cases c10 : x8_2 < 64
              · rw [if_pos c10] at H
                have c10b0 : decide (x8_2 < 64) = true := decide_eq_true c10
                clear c10
                obtain ⟨ji11, hji11⟩ : ∃ j_ : Int, (wrap64 (t118 - 1)) = j_ := ⟨_, rfl⟩
                replace H : (if 0 ≤ (ji11) then (if 0 ≤ x8_2 then (trammelref02_Wrap.l1 k2 a1 t118 (Go.bits .or .u64 x6_2 (shl .u64 (Go.bits .and .u64 (shr .u64 (IntKind.u64.wrap (a1)) (ji11)) 1) x8_2)) (wrap64 (x8_2 + 1))) else (none)) else (none)) = some r := by first | (rw [hji11] at H; exact H) | (simp only [hji11] at H ⊢; exact H)
                have hji11w : (IntKind.i64.wrap (t118 - 1)) = ji11 := (i64_w _).trans hji11
                by_cases c12 : 0 ≤ (ji11)
                · rw [if_pos c12] at H
                  have c12b0 := eq_true c12
                  have c12b1 : decide (0 ≤ (ji11)) = true := decide_eq_true c12
                  clear c12
                  obtain ⟨ji13, hji13⟩ : ∃ j_ : Int, (shr .u64 (IntKind.u64.wrap (a1)) (ji11)) = j_ := ⟨_, rfl⟩
                  replace H : (if 0 ≤ x8_2 then (trammelref02_Wrap.l1 k2 a1 t118 (Go.bits .or .u64 x6_2 (shl .u64 (Go.bits .and .u64 (ji13) 1) x8_2)) (wrap64 (x8_2 + 1))) else (none)) = some r := by first | (rw [hji13] at H; exact H) | (simp only [hji13] at H ⊢; exact H)
                  have hji13_ : ((IntKind.u64.wrap (a1)) / 2 ^ min (ji11).toNat 64) = ji13 := hji13
                  have hji13z : (ji11) ≤ 64 → ((IntKind.u64.wrap (a1)) / 2 ^ (ji11).toNat) = ji13 := shr_small hji13
                  by_cases c14 : 0 ≤ x8_2
                  · rw [if_pos c14] at H
                    have c14b0 := eq_true c14
                    have c14b1 : decide (0 ≤ x8_2) = true := decide_eq_true c14
                    clear c14
                    obtain ⟨ji15, hji15⟩ : ∃ j_ : Int, (shl .u64 (Go.bits .and .u64 (ji13) 1) x8_2) = j_ := ⟨_, rfl⟩
                    replace H : (trammelref02_Wrap.l1 k2 a1 t118 (Go.bits .or .u64 x6_2 (ji15)) (wrap64 (x8_2 + 1))) = some r := by first | (rw [hji15] at H; exact H) | (simp only [hji15] at H ⊢; exact H)
                    have hji15_ : (IntKind.u64.wrap ((Go.bits .and .u64 (ji13) 1) * 2 ^ min x8_2.toNat 64)) = ji15 := hji15
                    have hji15z : x8_2 ≤ 64 → (IntKind.u64.wrap ((Go.bits .and .u64 (ji13) 1) * 2 ^ x8_2.toNat)) = ji15 := shl_small hji15
                    have H' := Aside0.mk H
                    clear H
                    go_wp2
                    go_roundg k2
                    case measure => have := HK1.out; have := HK2.out; omega
                    case rel => exact ⟨(Go.bits .or .u64 x6_2 (ji15)), (wrap64 (x8_2 + 1)), (by first | rfl | (simp; done) | (simp only [← hji15] <;> (first | rfl | simp)) | (simp [*]; done)), (by first | rfl | (simp; done) | (simp [*]; done)), H', ⟨by have := HK1.out; have := HK2.out; omega⟩, by repeat (first | exact Drawn0.refl _ | apply Drawn0.step)⟩
                  · rw [if_neg c14] at H
                    exact absurd H (by simp)
                · rw [if_neg c12] at H
                  exact absurd H (by simp)
              · rw [if_neg c10] at H
                have c10b0 : decide (x8_2 < 64) = false := decide_eq_false c10
                clear c10
                obtain rfl := Option.some.inj H
                go_wp2
                go_ret
                exact ⟨by first | rfl | (simp; done) | (simp [*]; done), by repeat (first | exact Drawn0.refl _ | apply Drawn0.step)⟩
            · rw [if_neg c9] at H
              have c9b0 : decide (0 < t118) = false := decide_eq_false c9
              clear c9
              obtain rfl := Option.some.inj H
              go_wp2
              go_ret
              exact ⟨by first | rfl | (simp; done) | (simp [*]; done), by repeat (first | exact Drawn0.refl _ | apply Drawn0.step)⟩

/-! ### trammelref02_over: function 37 -/
def trammelref02_over.l0 : Nat → Int → Int → Int → Int → Int → Option (Int × Int)
  | 0, _, _, _, _, _ => none
  | k + 1, x0, x1, x6, x7, x8 => if x8 ≥ 0 then (if 0 ≤ x8 then (if (x7 / 9223372036854775808) = 1 then (trammelref02_over.l0 k x0 x1 (Go.bits .or .u64 x6 (shl .u64 1 x8)) (IntKind.u64.wrap ((Go.bits .or .u64 (IntKind.u64.wrap (x7 * 2)) (Go.bits .and .u64 (shr .u64 x0 x8) 1)) - x1)) (wrap64 (x8 - 1))) else (if (Go.bits .or .u64 (IntKind.u64.wrap (x7 * 2)) (Go.bits .and .u64 (shr .u64 x0 x8) 1)) ≥ x1 then (trammelref02_over.l0 k x0 x1 (Go.bits .or .u64 x6 (shl .u64 1 x8)) (IntKind.u64.wrap ((Go.bits .or .u64 (IntKind.u64.wrap (x7 * 2)) (Go.bits .and .u64 (shr .u64 x0 x8) 1)) - x1)) (wrap64 (x8 - 1))) else (trammelref02_over.l0 k x0 x1 x6 (Go.bits .or .u64 (IntKind.u64.wrap (x7 * 2)) (Go.bits .and .u64 (shr .u64 x0 x8) 1)) (wrap64 (x8 - 1))))) else (none)) else (some (x6, x7))
def trammelref02_over.f (k : Nat) (a0 : Int) (a1 : Int) : Option (Int × Int) := trammelref02_over.l0 k a0 a1 0 0 63
theorem trammelref02_over.mono_l : ∀ k, (∀ y0 y1 y2 y3 y4, LeO (trammelref02_over.l0 k y0 y1 y2 y3 y4) (trammelref02_over.l0 (k + 1) y0 y1 y2 y3 y4))
  | 0 => fun _ _ _ _ _ r h => by simp [trammelref02_over.l0] at h
  | k + 1 => by
    have ih0 := trammelref02_over.mono_l k
    · intro y0 y1 y2 y3 y4
      unfold trammelref02_over.l0
      repeat' first
      | (with_reducible exact ih0 _ _ _ _ _)
      | (with_reducible exact LeO.refl _)
      | (with_reducible exact LeO.none _)
      | (with_reducible refine LeO.ite ?_ ?_)
      | (with_reducible refine LeO.bind ?_ (fun _ => ?_))
      | exact ih0 _ _ _ _ _
      | exact LeO.none _
      | refine LeO.ite ?_ ?_
      | refine LeO.bind ?_ (fun _ => ?_)
theorem trammelref02_over.mono : ∀ a0 a1 k, LeO (trammelref02_over.f k a0 a1) (trammelref02_over.f (k + 1) a0 a1) := by
  intro a0 a1 k
  have ih0 := trammelref02_over.mono_l k
  unfold trammelref02_over.f
  repeat' first
      | (with_reducible exact ih0 _ _ _ _ _)
      | (with_reducible exact LeO.refl _)
      | (with_reducible exact LeO.none _)
      | (with_reducible refine LeO.ite ?_ ?_)
      | (with_reducible refine LeO.bind ?_ (fun _ => ?_))
      | exact ih0 _ _ _ _ _
      | exact LeO.none _
      | refine LeO.ite ?_ ?_
      | refine LeO.bind ?_ (fun _ => ?_)
set_option maxHeartbeats 8000000 in
set_option maxRecDepth 100000 in
theorem trammelref02_over.calls (k : Nat) (a0 : Int) (a1 : Int) (r1 : Int) (r2 : Int) (w : World) (h : trammelref02_over.f k a0 a1 = some (r1, r2)) :
    Calls Try.prog 37 #[.int .u64 a0, .int .u64 a1] w fun e w' => e = .returned (.tuple #[.int .u64 r1, .int .u64 r2]) ∧ Drawn0 w w' := by
  have H : (trammelref02_over.l0 k a0 a1 0 0 63) = some (r1, r2) := h
  clear h
  have H' := Aside0.mk H
  clear H
  go_enter Try.func37, Try.ntmps37
  go_wp2
  go_loopg [6, 7, 8] k (fun kq v6 v7 v8 w' => ∃ (x6_1 : Int) (x7_1 : Int) (x8_1 : Int), v6 = .int .u64 x6_1 ∧ v7 = .int .u64 x7_1 ∧ v8 = .int .i64 x8_1 ∧ Aside0 (trammelref02_over.l0 kq a0 a1 x6_1 x7_1 x8_1 = some (r1, r2)) ∧ Aside0 (kq ≤ k) ∧ Drawn0 w w')
  case atStart => exact ⟨(0), (0), (63), (by first | rfl | (simp; done) | (simp [*]; done)), (by first | rfl | (simp; done) | (simp [*]; done)), (by first | rfl | (simp; done) | (simp [*]; done)), H', ⟨Nat.le_refl _⟩, by repeat (first | exact Drawn0.refl _ | apply Drawn0.step)⟩
  case round =>
    clear H'
    try clear p2
    obtain ⟨x6_1, x7_1, x8_1, rfl, rfl, rfl, HA, HK1, ⟨m1, rfl⟩⟩ := hrel
    cases gk with
    | zero => exact absurd HA.out (by simp [trammelref02_over.l0])
    | succ k1 =>
      have H := HA.out
      clear HA
      simp only [trammelref02_over.l0] at H
      by_cases c3 : x8_1 ≥ 0
      · rw [if_pos c3] at H
        have c3b0 : decide (0 ≤ x8_1) = true := decide_eq_true c3
        clear c3
        by_cases c4 : 0 ≤ x8_1
        · rw [if_pos c4] at H
          have c4b0 := eq_true c4
          have c4b1 : decide (0 ≤ x8_1) = true := decide_eq_true c4
          clear c4
          obtain ⟨ji5, hji5⟩ : ∃ j_ : Int, (shr .u64 a0 x8_1) = j_ := ⟨_, rfl⟩
          replace H : (if (x7_1 / 9223372036854775808) = 1 then (trammelref02_over.l0 k1 a0 a1 (Go.bits .or .u64 x6_1 (shl .u64 1 x8_1)) (IntKind.u64.wrap ((Go.bits .or .u64 (IntKind.u64.wrap (x7_1 * 2)) (Go.bits .and .u64 (ji5) 1)) - a1)) (wrap64 (x8_1 - 1))) else (if (Go.bits .or .u64 (IntKind.u64.wrap (x7_1 * 2)) (Go.bits .and .u64 (ji5) 1)) ≥ a1 then (trammelref02_over.l0 k1 a0 a1 (Go.bits .or .u64 x6_1 (shl .u64 1 x8_1)) (IntKind.u64.wrap ((Go.bits .or .u64 (IntKind.u64.wrap (x7_1 * 2)) (Go.bits .and .u64 (ji5) 1)) - a1)) (wrap64 (x8_1 - 1))) else (trammelref02_over.l0 k1 a0 a1 x6_1 (Go.bits .or .u64 (IntKind.u64.wrap (x7_1 * 2)) (Go.bits .and .u64 (ji5) 1)) (wrap64 (x8_1 - 1))))) = some (r1, r2) := by first | (rw [hji5] at H; exact H) | (simp only [hji5] at H ⊢; exact H)
          have hji5_ : (a0 / 2 ^ min x8_1.toNat 64) = ji5 := hji5
          have hji5z : x8_1 ≤ 64 → (a0 / 2 ^ x8_1.toNat) = ji5 := shr_small hji5
          by_cases c6 : (x7_1 / 9223372036854775808) = 1
          · rw [if_pos c6] at H
            have c6b0 : ((x7_1 / 9223372036854775808) == 1) = true := beq_iff_eq.mpr c6
            have c6b1 : ((x7_1 / 9223372036854775808) != 1) = false := bne_eq_false_iff_eq.mpr c6
            clear c6
            have c7b0 := eq_true (of_decide_eq_true (by first | (with_reducible assumption) | assumption) : 0 ≤ x8_1)
            obtain ⟨ji8, hji8⟩ : ∃ j_ : Int, (shl .u64 1 x8_1) = j_ := ⟨_, rfl⟩
            replace H : (trammelref02_over.l0 k1 a0 a1 (Go.bits .or .u64 x6_1 (ji8)) (IntKind.u64.wrap ((Go.bits .or .u64 (IntKind.u64.wrap (x7_1 * 2)) (Go.bits .and .u64 (ji5) 1)) - a1)) (wrap64 (x8_1 - 1))) = some (r1, r2) := by first | (rw [hji8] at H; exact H) | (simp only [hji8] at H ⊢; exact H)
            have hji8_ : (IntKind.u64.wrap (1 * 2 ^ min x8_1.toNat 64)) = ji8 := hji8
            have hji8z : x8_1 ≤ 64 → (IntKind.u64.wrap (1 * 2 ^ x8_1.toNat)) = ji8 := shl_small hji8
            have hji8u : (IntKind.u64.wrap (2 ^ min x8_1.toNat 64)) = ji8 := by have h_ := hji8_; rw [Int.one_mul] at h_; exact h_
            have hji8v : x8_1 ≤ 64 → (IntKind.u64.wrap (2 ^ x8_1.toNat)) = ji8 := fun hle_ => by have h_ := hji8z hle_; rw [Int.one_mul] at h_; exact h_
            have H' := Aside0.mk H
            clear H
            go_wp2
            go_roundg k1
            case measure => have := HK1.out; omega
            case rel => exact ⟨(Go.bits .or .u64 x6_1 (ji8)), (IntKind.u64.wrap ((Go.bits .or .u64 (IntKind.u64.wrap (x7_1 * 2)) (Go.bits .and .u64 (ji5) 1)) - a1)), (wrap64 (x8_1 - 1)), (by first | rfl | (simp; done) | (simp only [← hji8] <;> (first | rfl | simp)) | (simp [*]; done)), (by first | rfl | (simp; done) | (simp only [← hji5] <;> (first | rfl | simp)) | (simp [*]; done)), (by first | rfl | (simp; done) | (simp [*]; done)), H', ⟨by have := HK1.out; omega⟩, by repeat (first | exact Drawn0.refl _ | apply Drawn0.step)⟩
          · rw [if_neg c6] at H
            have c6b0 : ((x7_1 / 9223372036854775808) == 1) = false := beq_eq_false_iff_ne.mpr c6
            have c6b1 : ((x7_1 / 9223372036854775808) != 1) = true := bne_iff_ne.mpr c6
            by_cases c9 : (Go.bits .or .u64 (IntKind.u64.wrap (x7_1 * 2)) (Go.bits .and .u64 (ji5) 1)) ≥ a1
            · rw [if_pos c9] at H
              have c9b0 : decide (a1 ≤ (Go.bits .or .u64 (IntKind.u64.wrap (x7_1 * 2)) (Go.bits .and .u64 (ji5) 1))) = true := decide_eq_true c9
              clear c9
              have c10b0 := eq_true (of_decide_eq_true (by first | (with_reducible assumption) | assumption) : 0 ≤ x8_1)
              obtain ⟨ji11, hji11⟩ : ∃ j_ : Int, (shl .u64 1 x8_1) = j_ := ⟨_, rfl⟩
              replace H : (trammelref02_over.l0 k1 a0 a1 (Go.bits .or .u64 x6_1 (ji11)) (IntKind.u64.wrap ((Go.bits .or .u64 (IntKind.u64.wrap (x7_1 * 2)) (Go.bits .and .u64 (ji5) 1)) - a1)) (wrap64 (x8_1 - 1))) = some (r1, r2) := by first | (rw [hji11] at H; exact H) | (simp only [hji11] at H ⊢; exact H)
              have hji11_ : (IntKind.u64.wrap (1 * 2 ^ min x8_1.toNat 64)) = ji11 := hji11
              have hji11z : x8_1 ≤ 64 → (IntKind.u64.wrap (1 * 2 ^ x8_1.toNat)) = ji11 := shl_small hji11
              have hji11u : (IntKind.u64.wrap (2 ^ min x8_1.toNat 64)) = ji11 := by have h_ := hji11_; rw [Int.one_mul] at h_; exact h_
              have hji11v : x8_1 ≤ 64 → (IntKind.u64.wrap (2 ^ x8_1.toNat)) = ji11 := fun hle_ => by have h_ := hji11z hle_; rw [Int.one_mul] at h_; exact h_
              have H' := Aside0.mk H
              clear H
              go_wp2
              go_roundg k1
              case measure => have := HK1.out; omega
              case rel => exact ⟨(Go.bits .or .u64 x6_1 (ji11)), (IntKind.u64.wrap ((Go.bits .or .u64 (IntKind.u64.wrap (x7_1 * 2)) (Go.bits .and .u64 (ji5) 1)) - a1)), (wrap64 (x8_1 - 1)), (by first | rfl | (simp; done) | (simp only [← hji11] <;> (first | rfl | simp)) | (simp [*]; done)), (by first | rfl | (simp; done) | (simp only [← hji5] <;> (first | rfl | simp)) | (simp [*]; done)), (by first | rfl | (simp; done) | (simp [*]; done)), H', ⟨by have := HK1.out; omega⟩, by repeat (first | exact Drawn0.refl _ | apply Drawn0.step)⟩
            · rw [if_neg c9] at H
              have c9b0 : decide (a1 ≤ (Go.bits .or .u64 (IntKind.u64.wrap (x7_1 * 2)) (Go.bits .and .u64 (ji5) 1))) = false := decide_eq_false c9
              clear c9
              have H' := Aside0.mk H
              clear H
              go_wp2
              go_roundg k1
              case measure => have := HK1.out; omega
              case rel => exact ⟨(x6_1), (Go.bits .or .u64 (IntKind.u64.wrap (x7_1 * 2)) (Go.bits .and .u64 (ji5) 1)), (wrap64 (x8_1 - 1)), (by first | rfl | (simp; done) | (simp [*]; done)), (by first | rfl | (simp; done) | (simp only [← hji5] <;> (first | rfl | simp)) | (simp [*]; done)), (by first | rfl | (simp; done) | (simp [*]; done)), H', ⟨by have := HK1.out; omega⟩, by repeat (first | exact Drawn0.refl _ | apply Drawn0.step)⟩
        · rw [if_neg c4] at H
          exact absurd H (by simp)
      · rw [if_neg c3] at H
        have c3b0 : decide (0 ≤ x8_1) = false := decide_eq_false c3
        clear c3
        simp only [Option.some.injEq, Prod.mk.injEq] at H
        obtain ⟨rfl, rfl⟩ := H
        go_wp2
        go_ret2
        exact ⟨by first | rfl | (simp; done) | (simp [*]; done), by repeat (first | exact Drawn0.refl _ | apply Drawn0.step)⟩

/-! ### trammelref02_worth: function 38 -/
def trammelref02_worth.f (a0 : Int) : Option (Int) := if a0 < 0 then (some (IntKind.u64.wrap (-(IntKind.u64.wrap (a0))))) else (some (IntKind.u64.wrap (a0)))
set_option maxHeartbeats 8000000 in
set_option maxRecDepth 100000 in
theorem trammelref02_worth.calls (a0 : Int) (r : Int) (w : World) (h : trammelref02_worth.f a0 = some r) :
    Calls Try.prog 38 #[.int .i64 a0] w fun e w' => e = .returned (.int .u64 r) ∧ Drawn0 w w' := by
  have H : (if a0 < 0 then (some (IntKind.u64.wrap (-(IntKind.u64.wrap (a0))))) else (some (IntKind.u64.wrap (a0)))) = some r := h
  clear h
  by_cases c2 : a0 < 0
  · rw [if_pos c2] at H
    have c2b0 : decide (a0 < 0) = true := decide_eq_true c2
    clear c2
    obtain rfl := Option.some.inj H
    go_enter Try.func38, Try.ntmps38
    go_wp2
    go_ret
    exact ⟨by first | rfl | (simp; done) | (simp [*]; done), by repeat (first | exact Drawn0.refl _ | apply Drawn0.step)⟩
  · rw [if_neg c2] at H
    have c2b0 : decide (a0 < 0) = false := decide_eq_false c2
    clear c2
    obtain rfl := Option.some.inj H
    go_enter Try.func38, Try.ntmps38
    go_wp2
    go_ret
    exact ⟨by first | rfl | (simp; done) | (simp [*]; done), by repeat (first | exact Drawn0.refl _ | apply Drawn0.step)⟩

/-! ### trammelref02_divided: function 33 -/
def trammelref02_divided.f (k : Nat) (a0 : Int) (a1 : Int) : Option (Int × Int) := (trammelref02_worth.f a0).bind fun t119 => ((trammelref02_worth.f a1).bind fun t120 => ((trammelref02_over.f k t119 t120).bind fun bt121 => (if a0 < 0 then (if a1 < 0 then (some (wrap64 (bt121.1), wrap64 (IntKind.u64.wrap (-bt121.2)))) else (some (wrap64 (IntKind.u64.wrap (-bt121.1)), wrap64 (IntKind.u64.wrap (-bt121.2))))) else (if a1 < 0 then (some (wrap64 (IntKind.u64.wrap (-bt121.1)), wrap64 (bt121.2))) else (some (wrap64 (bt121.1), wrap64 (bt121.2)))))))
theorem trammelref02_divided.mono : ∀ a0 a1 k, LeO (trammelref02_divided.f k a0 a1) (trammelref02_divided.f (k + 1) a0 a1) := by
  intro a0 a1 k
  unfold trammelref02_divided.f
  repeat' first
      | (with_reducible exact trammelref02_over.mono _ _ _)
      | (with_reducible exact LeO.refl _)
      | (with_reducible exact LeO.none _)
      | (with_reducible refine LeO.ite ?_ ?_)
      | (with_reducible refine LeO.bind ?_ (fun _ => ?_))
      | exact trammelref02_over.mono _ _ _
      | exact LeO.none _
      | refine LeO.ite ?_ ?_
      | refine LeO.bind ?_ (fun _ => ?_)
set_option maxHeartbeats 8000000 in
set_option maxRecDepth 100000 in
theorem trammelref02_divided.calls (k : Nat) (a0 : Int) (a1 : Int) (r1 : Int) (r2 : Int) (w : World) (h : trammelref02_divided.f k a0 a1 = some (r1, r2)) :
    Calls Try.prog 33 #[.int .i64 a0, .int .i64 a1] w fun e w' => e = .returned (.tuple #[.int .i64 r1, .int .i64 r2]) ∧ Drawn0 w w' := by
  have H : ((trammelref02_worth.f a0).bind fun t119 => ((trammelref02_worth.f a1).bind fun t120 => ((trammelref02_over.f k t119 t120).bind fun bt121 => (if a0 < 0 then (if a1 < 0 then (some (wrap64 (bt121.1), wrap64 (IntKind.u64.wrap (-bt121.2)))) else (some (wrap64 (IntKind.u64.wrap (-bt121.1)), wrap64 (IntKind.u64.wrap (-bt121.2))))) else (if a1 < 0 then (some (wrap64 (IntKind.u64.wrap (-bt121.1)), wrap64 (bt121.2))) else (some (wrap64 (bt121.1), wrap64 (bt121.2)))))))) = some (r1, r2) := h
  clear h
  replace H := Option.bind_eq_some_iff.mp H
  obtain ⟨t119, A30, H⟩ := H
  replace H : ((trammelref02_worth.f a1).bind fun t120 => ((trammelref02_over.f k t119 t120).bind fun bt121 => (if a0 < 0 then (if a1 < 0 then (some (wrap64 (bt121.1), wrap64 (IntKind.u64.wrap (-bt121.2)))) else (some (wrap64 (IntKind.u64.wrap (-bt121.1)), wrap64 (IntKind.u64.wrap (-bt121.2))))) else (if a1 < 0 then (some (wrap64 (IntKind.u64.wrap (-bt121.1)), wrap64 (bt121.2))) else (some (wrap64 (bt121.1), wrap64 (bt121.2))))))) = some (r1, r2) := H
  have A3 := Aside0.mk A30
  clear A30
  replace H := Option.bind_eq_some_iff.mp H
  obtain ⟨t120, A40, H⟩ := H
  replace H : ((trammelref02_over.f k t119 t120).bind fun bt121 => (if a0 < 0 then (if a1 < 0 then (some (wrap64 (bt121.1), wrap64 (IntKind.u64.wrap (-bt121.2)))) else (some (wrap64 (IntKind.u64.wrap (-bt121.1)), wrap64 (IntKind.u64.wrap (-bt121.2))))) else (if a1 < 0 then (some (wrap64 (IntKind.u64.wrap (-bt121.1)), wrap64 (bt121.2))) else (some (wrap64 (bt121.1), wrap64 (bt121.2)))))) = some (r1, r2) := H
  have A4 := Aside0.mk A40
  clear A40
  replace H := Option.bind_eq_some_iff.mp H
  obtain ⟨⟨t121, t122⟩, A50, H⟩ := H
  replace H : (if a0 < 0 then (if a1 < 0 then (some (wrap64 (t121), wrap64 (IntKind.u64.wrap (-t122)))) else (some (wrap64 (IntKind.u64.wrap (-t121)), wrap64 (IntKind.u64.wrap (-t122))))) else (if a1 < 0 then (some (wrap64 (IntKind.u64.wrap (-t121)), wrap64 (t122))) else (some (wrap64 (t121), wrap64 (t122))))) = some (r1, r2) := H
  have A5 := Aside0.mk A50
  clear A50
  by_cases c6 : a0 < 0
  · rw [if_pos c6] at H
    have c6b0 : decide (a0 < 0) = true := decide_eq_true c6
    clear c6
    by_cases c7 : a1 < 0
    · rw [if_pos c7] at H
      have c7b0 : decide (a1 < 0) = true := decide_eq_true c7
      clear c7
      simp only [Option.some.injEq, Prod.mk.injEq] at H
      obtain ⟨rfl, rfl⟩ := H
      go_enter Try.func33, Try.ntmps33
      go_wp2_with (first | ((with_reducible refine gate_callee (f := 38) rfl ?_); refine goesL_ (some 10) rfl rfl Try.func38 (by kernel_rfl) rfl #[.int .i64 a0] rfl (by (try simp only [List.map_toArray, List.map_cons, List.map_nil]); first | done | rfl | (simp only [List.length_drop, List.length_take]; rfl)) ?_; (with_reducible refine (trammelref02_worth.calls a0 t119 _ A3.out).mono ?_); rintro e w' ⟨rfl, ⟨nd, rfl⟩⟩; refine ⟨_, rfl, ?_⟩) | ((with_reducible refine gate_callee (f := 38) rfl ?_); refine goesL_ (some 12) rfl rfl Try.func38 (by kernel_rfl) rfl #[.int .i64 a1] rfl (by (try simp only [List.map_toArray, List.map_cons, List.map_nil]); first | done | rfl | (simp only [List.length_drop, List.length_take]; rfl)) ?_; (with_reducible refine (trammelref02_worth.calls a1 t120 _ A4.out).mono ?_); rintro e w' ⟨rfl, ⟨nd, rfl⟩⟩; refine ⟨_, rfl, ?_⟩) | ((with_reducible refine gate_callee (f := 37) rfl ?_); refine goesL_ (some 13) rfl rfl Try.func37 (by kernel_rfl) rfl #[.int .u64 t119, .int .u64 t120] rfl (by (try simp only [List.map_toArray, List.map_cons, List.map_nil]); first | done | rfl | (simp only [List.length_drop, List.length_take]; rfl)) ?_; (with_reducible refine (trammelref02_over.calls k t119 t120 t121 t122 _ A5.out).mono ?_); rintro e w' ⟨rfl, ⟨nd, rfl⟩⟩; refine ⟨_, rfl, ?_⟩))
      go_ret2
      exact ⟨by first | rfl | (simp; done) | (simp [*]; done), by repeat (first | exact Drawn0.refl _ | apply Drawn0.step)⟩
    · rw [if_neg c7] at H
      have c7b0 : decide (a1 < 0) = false := decide_eq_false c7
      clear c7
      simp only [Option.some.injEq, Prod.mk.injEq] at H
      obtain ⟨rfl, rfl⟩ := H
      go_enter Try.func33, Try.ntmps33
      go_wp2_with (first | ((with_reducible refine gate_callee (f := 38) rfl ?_); refine goesL_ (some 10) rfl rfl Try.func38 (by kernel_rfl) rfl #[.int .i64 a0] rfl (by (try simp only [List.map_toArray, List.map_cons, List.map_nil]); first | done | rfl | (simp only [List.length_drop, List.length_take]; rfl)) ?_; (with_reducible refine (trammelref02_worth.calls a0 t119 _ A3.out).mono ?_); rintro e w' ⟨rfl, ⟨nd, rfl⟩⟩; refine ⟨_, rfl, ?_⟩) | ((with_reducible refine gate_callee (f := 38) rfl ?_); refine goesL_ (some 12) rfl rfl Try.func38 (by kernel_rfl) rfl #[.int .i64 a1] rfl (by (try simp only [List.map_toArray, List.map_cons, List.map_nil]); first | done | rfl | (simp only [List.length_drop, List.length_take]; rfl)) ?_; (with_reducible refine (trammelref02_worth.calls a1 t120 _ A4.out).mono ?_); rintro e w' ⟨rfl, ⟨nd, rfl⟩⟩; refine ⟨_, rfl, ?_⟩) | ((with_reducible refine gate_callee (f := 37) rfl ?_); refine goesL_ (some 13) rfl rfl Try.func37 (by kernel_rfl) rfl #[.int .u64 t119, .int .u64 t120] rfl (by (try simp only [List.map_toArray, List.map_cons, List.map_nil]); first | done | rfl | (simp only [List.length_drop, List.length_take]; rfl)) ?_; (with_reducible refine (trammelref02_over.calls k t119 t120 t121 t122 _ A5.out).mono ?_); rintro e w' ⟨rfl, ⟨nd, rfl⟩⟩; refine ⟨_, rfl, ?_⟩))
      go_ret2
      exact ⟨by first | rfl | (simp; done) | (simp [*]; done), by repeat (first | exact Drawn0.refl _ | apply Drawn0.step)⟩
  · rw [if_neg c6] at H
    have c6b0 : decide (a0 < 0) = false := decide_eq_false c6
    clear c6
    by_cases c8 : a1 < 0
    · rw [if_pos c8] at H
      have c8b0 : decide (a1 < 0) = true := decide_eq_true c8
      clear c8
      simp only [Option.some.injEq, Prod.mk.injEq] at H
      obtain ⟨rfl, rfl⟩ := H
      go_enter Try.func33, Try.ntmps33
      go_wp2_with (first | ((with_reducible refine gate_callee (f := 38) rfl ?_); refine goesL_ (some 10) rfl rfl Try.func38 (by kernel_rfl) rfl #[.int .i64 a0] rfl (by (try simp only [List.map_toArray, List.map_cons, List.map_nil]); first | done | rfl | (simp only [List.length_drop, List.length_take]; rfl)) ?_; (with_reducible refine (trammelref02_worth.calls a0 t119 _ A3.out).mono ?_); rintro e w' ⟨rfl, ⟨nd, rfl⟩⟩; refine ⟨_, rfl, ?_⟩) | ((with_reducible refine gate_callee (f := 38) rfl ?_); refine goesL_ (some 12) rfl rfl Try.func38 (by kernel_rfl) rfl #[.int .i64 a1] rfl (by (try simp only [List.map_toArray, List.map_cons, List.map_nil]); first | done | rfl | (simp only [List.length_drop, List.length_take]; rfl)) ?_; (with_reducible refine (trammelref02_worth.calls a1 t120 _ A4.out).mono ?_); rintro e w' ⟨rfl, ⟨nd, rfl⟩⟩; refine ⟨_, rfl, ?_⟩) | ((with_reducible refine gate_callee (f := 37) rfl ?_); refine goesL_ (some 13) rfl rfl Try.func37 (by kernel_rfl) rfl #[.int .u64 t119, .int .u64 t120] rfl (by (try simp only [List.map_toArray, List.map_cons, List.map_nil]); first | done | rfl | (simp only [List.length_drop, List.length_take]; rfl)) ?_; (with_reducible refine (trammelref02_over.calls k t119 t120 t121 t122 _ A5.out).mono ?_); rintro e w' ⟨rfl, ⟨nd, rfl⟩⟩; refine ⟨_, rfl, ?_⟩))
      go_ret2
      exact ⟨by first | rfl | (simp; done) | (simp [*]; done), by repeat (first | exact Drawn0.refl _ | apply Drawn0.step)⟩
    · rw [if_neg c8] at H
      have c8b0 : decide (a1 < 0) = false := decide_eq_false c8
      clear c8
      simp only [Option.some.injEq, Prod.mk.injEq] at H
      obtain ⟨rfl, rfl⟩ := H
      go_enter Try.func33, Try.ntmps33
      go_wp2_with (first | ((with_reducible refine gate_callee (f := 38) rfl ?_); refine goesL_ (some 10) rfl rfl Try.func38 (by kernel_rfl) rfl #[.int .i64 a0] rfl (by (try simp only [List.map_toArray, List.map_cons, List.map_nil]); first | done | rfl | (simp only [List.length_drop, List.length_take]; rfl)) ?_; (with_reducible refine (trammelref02_worth.calls a0 t119 _ A3.out).mono ?_); rintro e w' ⟨rfl, ⟨nd, rfl⟩⟩; refine ⟨_, rfl, ?_⟩) | ((with_reducible refine gate_callee (f := 38) rfl ?_); refine goesL_ (some 12) rfl rfl Try.func38 (by kernel_rfl) rfl #[.int .i64 a1] rfl (by (try simp only [List.map_toArray, List.map_cons, List.map_nil]); first | done | rfl | (simp only [List.length_drop, List.length_take]; rfl)) ?_; (with_reducible refine (trammelref02_worth.calls a1 t120 _ A4.out).mono ?_); rintro e w' ⟨rfl, ⟨nd, rfl⟩⟩; refine ⟨_, rfl, ?_⟩) | ((with_reducible refine gate_callee (f := 37) rfl ?_); refine goesL_ (some 13) rfl rfl Try.func37 (by kernel_rfl) rfl #[.int .u64 t119, .int .u64 t120] rfl (by (try simp only [List.map_toArray, List.map_cons, List.map_nil]); first | done | rfl | (simp only [List.length_drop, List.length_take]; rfl)) ?_; (with_reducible refine (trammelref02_over.calls k t119 t120 t121 t122 _ A5.out).mono ?_); rintro e w' ⟨rfl, ⟨nd, rfl⟩⟩; refine ⟨_, rfl, ?_⟩))
      go_ret2
      exact ⟨by first | rfl | (simp; done) | (simp [*]; done), by repeat (first | exact Drawn0.refl _ | apply Drawn0.step)⟩

/-! ### trammelref02_bits: function 34 -/
def trammelref02_bits.l0 : Nat → Int → Int → Bool → Bool → Int → Int → Option (Int)
  | 0, _, _, _, _, _, _ => none
  | k + 1, x0, x1, x2, x3, x9, x10 => if x10 < 64 then (if 0 ≤ x10 then (if (IntKind.u64.wrap ((Go.bits .and .u64 (shr .u64 (IntKind.u64.wrap (x0)) x10) 1) + (Go.bits .and .u64 (shr .u64 (IntKind.u64.wrap (x1)) x10) 1))) = 2 then (if x2 = true then (trammelref02_bits.l0 k x0 x1 x2 x3 (Go.bits .or .u64 x9 (shl .u64 1 x10)) (wrap64 (x10 + 1))) else (if (IntKind.u64.wrap ((Go.bits .and .u64 (shr .u64 (IntKind.u64.wrap (x0)) x10) 1) + (Go.bits .and .u64 (shr .u64 (IntKind.u64.wrap (x1)) x10) 1))) = 1 then (if x3 = true then (trammelref02_bits.l0 k x0 x1 x2 x3 (Go.bits .or .u64 x9 (shl .u64 1 x10)) (wrap64 (x10 + 1))) else (trammelref02_bits.l0 k x0 x1 x2 x3 x9 (wrap64 (x10 + 1)))) else (trammelref02_bits.l0 k x0 x1 x2 x3 x9 (wrap64 (x10 + 1))))) else (if (IntKind.u64.wrap ((Go.bits .and .u64 (shr .u64 (IntKind.u64.wrap (x0)) x10) 1) + (Go.bits .and .u64 (shr .u64 (IntKind.u64.wrap (x1)) x10) 1))) = 1 then (if x3 = true then (trammelref02_bits.l0 k x0 x1 x2 x3 (Go.bits .or .u64 x9 (shl .u64 1 x10)) (wrap64 (x10 + 1))) else (trammelref02_bits.l0 k x0 x1 x2 x3 x9 (wrap64 (x10 + 1)))) else (trammelref02_bits.l0 k x0 x1 x2 x3 x9 (wrap64 (x10 + 1))))) else (none)) else (some (wrap64 (x9)))
def trammelref02_bits.f (k : Nat) (a0 : Int) (a1 : Int) (a2 : Bool) (a3 : Bool) : Option (Int) := trammelref02_bits.l0 k a0 a1 a2 a3 0 0
theorem trammelref02_bits.mono_l : ∀ k, (∀ y0 y1 y2 y3 y4 y5, LeO (trammelref02_bits.l0 k y0 y1 y2 y3 y4 y5) (trammelref02_bits.l0 (k + 1) y0 y1 y2 y3 y4 y5))
  | 0 => fun _ _ _ _ _ _ r h => by simp [trammelref02_bits.l0] at h
  | k + 1 => by
    have ih0 := trammelref02_bits.mono_l k
    · intro y0 y1 y2 y3 y4 y5
      unfold trammelref02_bits.l0
      repeat' first
      | (with_reducible exact ih0 _ _ _ _ _ _)
      | (with_reducible exact LeO.refl _)
      | (with_reducible exact LeO.none _)
      | (with_reducible refine LeO.ite ?_ ?_)
      | (with_reducible refine LeO.bind ?_ (fun _ => ?_))
      | exact ih0 _ _ _ _ _ _
      | exact LeO.none _
      | refine LeO.ite ?_ ?_
      | refine LeO.bind ?_ (fun _ => ?_)
theorem trammelref02_bits.mono : ∀ a0 a1 a2 a3 k, LeO (trammelref02_bits.f k a0 a1 a2 a3) (trammelref02_bits.f (k + 1) a0 a1 a2 a3) := by
  intro a0 a1 a2 a3 k
  have ih0 := trammelref02_bits.mono_l k
  unfold trammelref02_bits.f
  repeat' first
      | (with_reducible exact ih0 _ _ _ _ _ _)
      | (with_reducible exact LeO.refl _)
      | (with_reducible exact LeO.none _)
      | (with_reducible refine LeO.ite ?_ ?_)
      | (with_reducible refine LeO.bind ?_ (fun _ => ?_))
      | exact ih0 _ _ _ _ _ _
      | exact LeO.none _
      | refine LeO.ite ?_ ?_
      | refine LeO.bind ?_ (fun _ => ?_)
set_option maxHeartbeats 8000000 in
set_option maxRecDepth 100000 in
theorem trammelref02_bits.calls (k : Nat) (a0 : Int) (a1 : Int) (a2 : Bool) (a3 : Bool) (r : Int) (w : World) (h : trammelref02_bits.f k a0 a1 a2 a3 = some r) :
    Calls Try.prog 34 #[.int .i64 a0, .int .i64 a1, .bool a2, .bool a3] w fun e w' => e = .returned (.int .i64 r) ∧ Drawn0 w w' := by
  have H : (trammelref02_bits.l0 k a0 a1 a2 a3 0 0) = some r := h
  clear h
  have H' := Aside0.mk H
  clear H
  go_enter Try.func34, Try.ntmps34
  go_wp2
  go_loopg [9, 10] k (fun kq v9 v10 w' => ∃ (x9_1 : Int) (x10_1 : Int), v9 = .int .u64 x9_1 ∧ v10 = .int .i64 x10_1 ∧ Aside0 (trammelref02_bits.l0 kq a0 a1 a2 a3 x9_1 x10_1 = some r) ∧ Aside0 (kq ≤ k) ∧ Drawn0 w w')
  case atStart => exact ⟨(0), (0), (by first | rfl | (simp; done) | (simp [*]; done)), (by first | rfl | (simp; done) | (simp [*]; done)), H', ⟨Nat.le_refl _⟩, by repeat (first | exact Drawn0.refl _ | apply Drawn0.step)⟩
  case round =>
    clear H'
    try clear p2
    try clear c3
    obtain ⟨x9_1, x10_1, rfl, rfl, HA, HK1, ⟨m1, rfl⟩⟩ := hrel
    cases gk with
    | zero => exact absurd HA.out (by simp [trammelref02_bits.l0])
    | succ k1 =>
      have H := HA.out
      clear HA
      simp only [trammelref02_bits.l0] at H
      by_cases c5 : x10_1 < 64
      · rw [if_pos c5] at H
        have c5b0 : decide (x10_1 < 64) = true := decide_eq_true c5
        clear c5
        by_cases c6 : 0 ≤ x10_1
        · rw [if_pos c6] at H
          have c6b0 := eq_true c6
          have c6b1 : decide (0 ≤ x10_1) = true := decide_eq_true c6
          clear c6
          obtain ⟨ji7, hji7⟩ : ∃ j_ : Int, (shr .u64 (IntKind.u64.wrap (a0)) x10_1) = j_ := ⟨_, rfl⟩
          replace H : (if (IntKind.u64.wrap ((Go.bits .and .u64 (ji7) 1) + (Go.bits .and .u64 (shr .u64 (IntKind.u64.wrap (a1)) x10_1) 1))) = 2 then (if a2 = true then (trammelref02_bits.l0 k1 a0 a1 a2 a3 (Go.bits .or .u64 x9_1 (shl .u64 1 x10_1)) (wrap64 (x10_1 + 1))) else (if (IntKind.u64.wrap ((Go.bits .and .u64 (ji7) 1) + (Go.bits .and .u64 (shr .u64 (IntKind.u64.wrap (a1)) x10_1) 1))) = 1 then (if a3 = true then (trammelref02_bits.l0 k1 a0 a1 a2 a3 (Go.bits .or .u64 x9_1 (shl .u64 1 x10_1)) (wrap64 (x10_1 + 1))) else (trammelref02_bits.l0 k1 a0 a1 a2 a3 x9_1 (wrap64 (x10_1 + 1)))) else (trammelref02_bits.l0 k1 a0 a1 a2 a3 x9_1 (wrap64 (x10_1 + 1))))) else (if (IntKind.u64.wrap ((Go.bits .and .u64 (ji7) 1) + (Go.bits .and .u64 (shr .u64 (IntKind.u64.wrap (a1)) x10_1) 1))) = 1 then (if a3 = true then (trammelref02_bits.l0 k1 a0 a1 a2 a3 (Go.bits .or .u64 x9_1 (shl .u64 1 x10_1)) (wrap64 (x10_1 + 1))) else (trammelref02_bits.l0 k1 a0 a1 a2 a3 x9_1 (wrap64 (x10_1 + 1)))) else (trammelref02_bits.l0 k1 a0 a1 a2 a3 x9_1 (wrap64 (x10_1 + 1))))) = some r := by first | (rw [hji7] at H; exact H) | (simp only [hji7] at H ⊢; exact H)
          have hji7_ : ((IntKind.u64.wrap (a0)) / 2 ^ min x10_1.toNat 64) = ji7 := hji7
          have hji7z : x10_1 ≤ 64 → ((IntKind.u64.wrap (a0)) / 2 ^ x10_1.toNat) = ji7 := shr_small hji7
          have c8b0 := eq_true (of_decide_eq_true (by first | (with_reducible assumption) | assumption) : 0 ≤ x10_1)
          obtain ⟨ji9, hji9⟩ : ∃ j_ : Int, (shr .u64 (IntKind.u64.wrap (a1)) x10_1) = j_ := ⟨_, rfl⟩
          replace H : (if (IntKind.u64.wrap ((Go.bits .and .u64 (ji7) 1) + (Go.bits .and .u64 (ji9) 1))) = 2 then (if a2 = true then (trammelref02_bits.l0 k1 a0 a1 a2 a3 (Go.bits .or .u64 x9_1 (shl .u64 1 x10_1)) (wrap64 (x10_1 + 1))) else (if (IntKind.u64.wrap ((Go.bits .and .u64 (ji7) 1) + (Go.bits .and .u64 (ji9) 1))) = 1 then (if a3 = true then (trammelref02_bits.l0 k1 a0 a1 a2 a3 (Go.bits .or .u64 x9_1 (shl .u64 1 x10_1)) (wrap64 (x10_1 + 1))) else (trammelref02_bits.l0 k1 a0 a1 a2 a3 x9_1 (wrap64 (x10_1 + 1)))) else (trammelref02_bits.l0 k1 a0 a1 a2 a3 x9_1 (wrap64 (x10_1 + 1))))) else (if (IntKind.u64.wrap ((Go.bits .and .u64 (ji7) 1) + (Go.bits .and .u64 (ji9) 1))) = 1 then (if a3 = true then (trammelref02_bits.l0 k1 a0 a1 a2 a3 (Go.bits .or .u64 x9_1 (shl .u64 1 x10_1)) (wrap64 (x10_1 + 1))) else (trammelref02_bits.l0 k1 a0 a1 a2 a3 x9_1 (wrap64 (x10_1 + 1)))) else (trammelref02_bits.l0 k1 a0 a1 a2 a3 x9_1 (wrap64 (x10_1 + 1))))) = some r := by first | (rw [hji9] at H; exact H) | (simp only [hji9] at H ⊢; exact H)
          have hji9_ : ((IntKind.u64.wrap (a1)) / 2 ^ min x10_1.toNat 64) = ji9 := hji9
          have hji9z : x10_1 ≤ 64 → ((IntKind.u64.wrap (a1)) / 2 ^ x10_1.toNat) = ji9 := shr_small hji9
          by_cases c10 : (IntKind.u64.wrap ((Go.bits .and .u64 (ji7) 1) + (Go.bits .and .u64 (ji9) 1))) = 2
          · rw [if_pos c10] at H
            have c10b0 : ((IntKind.u64.wrap ((Go.bits .and .u64 (ji7) 1) + (Go.bits .and .u64 (ji9) 1))) == 2) = true := beq_iff_eq.mpr c10
            have c10b1 : ((IntKind.u64.wrap ((Go.bits .and .u64 (ji7) 1) + (Go.bits .and .u64 (ji9) 1))) != 2) = false := bne_eq_false_iff_eq.mpr c10
            clear c10
            by_cases c11 : a2 = true
            · subst c11
              have H1 : (trammelref02_bits.l0 k1 a0 a1 true a3 (Go.bits .or .u64 x9_1 (shl .u64 1 x10_1)) (wrap64 (x10_1 + 1))) = some r := by rw [if_pos rfl] at H; exact H
              clear H
              have H := H1
              clear H1
              have c12b0 := eq_true (of_decide_eq_true (by first | (with_reducible assumption) | assumption) : 0 ≤ x10_1)
              obtain ⟨ji13, hji13⟩ : ∃ j_ : Int, (shl .u64 1 x10_1) = j_ := ⟨_, rfl⟩
              replace H : (trammelref02_bits.l0 k1 a0 a1 true a3 (Go.bits .or .u64 x9_1 (ji13)) (wrap64 (x10_1 + 1))) = some r := by first | (rw [hji13] at H; exact H) | (simp only [hji13] at H ⊢; exact H)
              have hji13_ : (IntKind.u64.wrap (1 * 2 ^ min x10_1.toNat 64)) = ji13 := hji13
              have hji13z : x10_1 ≤ 64 → (IntKind.u64.wrap (1 * 2 ^ x10_1.toNat)) = ji13 := shl_small hji13
              have hji13u : (IntKind.u64.wrap (2 ^ min x10_1.toNat 64)) = ji13 := by have h_ := hji13_; rw [Int.one_mul] at h_; exact h_
              have hji13v : x10_1 ≤ 64 → (IntKind.u64.wrap (2 ^ x10_1.toNat)) = ji13 := fun hle_ => by have h_ := hji13z hle_; rw [Int.one_mul] at h_; exact h_
              have H' := Aside0.mk H
              clear H
              go_wp2
              go_roundg k1
              case measure => have := HK1.out; omega
              case rel => exact ⟨(Go.bits .or .u64 x9_1 (ji13)), (wrap64 (x10_1 + 1)), (by first | rfl | (simp; done) | (simp only [← hji13] <;> (first | rfl | simp)) | (simp [*]; done)), (by first | rfl | (simp; done) | (simp [*]; done)), H', ⟨by have := HK1.out; omega⟩, by repeat (first | exact Drawn0.refl _ | apply Drawn0.step)⟩
            · replace c11 := Bool.eq_false_iff.mpr c11
              subst c11
              have H1 : (if (IntKind.u64.wrap ((Go.bits .and .u64 (ji7) 1) + (Go.bits .and .u64 (ji9) 1))) = 1 then (if a3 = true then (trammelref02_bits.l0 k1 a0 a1 false a3 (Go.bits .or .u64 x9_1 (shl .u64 1 x10_1)) (wrap64 (x10_1 + 1))) else (trammelref02_bits.l0 k1 a0 a1 false a3 x9_1 (wrap64 (x10_1 + 1)))) else (trammelref02_bits.l0 k1 a0 a1 false a3 x9_1 (wrap64 (x10_1 + 1)))) = some r := by rw [if_neg (show ¬ (false = true) by decide)] at H; exact H
              clear H
              have H := H1
              clear H1
              by_cases c14 : (IntKind.u64.wrap ((Go.bits .and .u64 (ji7) 1) + (Go.bits .and .u64 (ji9) 1))) = 1
              · exact absurd ((beq_iff_eq.mp c10b0).symm.trans c14) (by decide)
              · rw [if_neg c14] at H
                have c14b0 : ((IntKind.u64.wrap ((Go.bits .and .u64 (ji7) 1) + (Go.bits .and .u64 (ji9) 1))) == 1) = false := beq_eq_false_iff_ne.mpr c14
                have c14b1 : ((IntKind.u64.wrap ((Go.bits .and .u64 (ji7) 1) + (Go.bits .and .u64 (ji9) 1))) != 1) = true := bne_iff_ne.mpr c14
                have H' := Aside0.mk H
                clear H
                go_wp2
                go_roundg k1
                case measure => have := HK1.out; omega
                case rel => exact ⟨(x9_1), (wrap64 (x10_1 + 1)), (by first | rfl | (simp; done) | (simp [*]; done)), (by first | rfl | (simp; done) | (simp [*]; done)), H', ⟨by have := HK1.out; omega⟩, by repeat (first | exact Drawn0.refl _ | apply Drawn0.step)⟩
          · rw [if_neg c10] at H
            have c10b0 : ((IntKind.u64.wrap ((Go.bits .and .u64 (ji7) 1) + (Go.bits .and .u64 (ji9) 1))) == 2) = false := beq_eq_false_iff_ne.mpr c10
            have c10b1 : ((IntKind.u64.wrap ((Go.bits .and .u64 (ji7) 1) + (Go.bits .and .u64 (ji9) 1))) != 2) = true := bne_iff_ne.mpr c10
            by_cases c15 : (IntKind.u64.wrap ((Go.bits .and .u64 (ji7) 1) + (Go.bits .and .u64 (ji9) 1))) = 1
            · rw [if_pos c15] at H
              have c15b0 : ((IntKind.u64.wrap ((Go.bits .and .u64 (ji7) 1) + (Go.bits .and .u64 (ji9) 1))) == 1) = true := beq_iff_eq.mpr c15
              have c15b1 : ((IntKind.u64.wrap ((Go.bits .and .u64 (ji7) 1) + (Go.bits .and .u64 (ji9) 1))) != 1) = false := bne_eq_false_iff_eq.mpr c15
              clear c15
              by_cases c16 : a3 = true
              · subst c16
                have H1 : (trammelref02_bits.l0 k1 a0 a1 a2 true (Go.bits .or .u64 x9_1 (shl .u64 1 x10_1)) (wrap64 (x10_1 + 1))) = some r := by rw [if_pos rfl] at H; exact H
                clear H
                have H := H1
                clear H1
                have c17b0 := eq_true (of_decide_eq_true (by first | (with_reducible assumption) | assumption) : 0 ≤ x10_1)
                obtain ⟨ji18, hji18⟩ : ∃ j_ : Int, (shl .u64 1 x10_1) = j_ := ⟨_, rfl⟩
                replace H : (trammelref02_bits.l0 k1 a0 a1 a2 true (Go.bits .or .u64 x9_1 (ji18)) (wrap64 (x10_1 + 1))) = some r := by first | (rw [hji18] at H; exact H) | (simp only [hji18] at H ⊢; exact H)
                have hji18_ : (IntKind.u64.wrap (1 * 2 ^ min x10_1.toNat 64)) = ji18 := hji18
                have hji18z : x10_1 ≤ 64 → (IntKind.u64.wrap (1 * 2 ^ x10_1.toNat)) = ji18 := shl_small hji18
                have hji18u : (IntKind.u64.wrap (2 ^ min x10_1.toNat 64)) = ji18 := by have h_ := hji18_; rw [Int.one_mul] at h_; exact h_
                have hji18v : x10_1 ≤ 64 → (IntKind.u64.wrap (2 ^ x10_1.toNat)) = ji18 := fun hle_ => by have h_ := hji18z hle_; rw [Int.one_mul] at h_; exact h_
                have H' := Aside0.mk H
                clear H
                go_wp2
                go_roundg k1
                case measure => have := HK1.out; omega
                case rel => exact ⟨(Go.bits .or .u64 x9_1 (ji18)), (wrap64 (x10_1 + 1)), (by first | rfl | (simp; done) | (simp only [← hji18] <;> (first | rfl | simp)) | (simp [*]; done)), (by first | rfl | (simp; done) | (simp [*]; done)), H', ⟨by have := HK1.out; omega⟩, by repeat (first | exact Drawn0.refl _ | apply Drawn0.step)⟩
              · replace c16 := Bool.eq_false_iff.mpr c16
                subst c16
                have H1 : (trammelref02_bits.l0 k1 a0 a1 a2 false x9_1 (wrap64 (x10_1 + 1))) = some r := by rw [if_neg (show ¬ (false = true) by decide)] at H; exact H
                clear H
                have H := H1
                clear H1
                have H' := Aside0.mk H
                clear H
                go_wp2
                go_roundg k1
                case measure => have := HK1.out; omega
                case rel => exact ⟨(x9_1), (wrap64 (x10_1 + 1)), (by first | rfl | (simp; done) | (simp [*]; done)), (by first | rfl | (simp; done) | (simp [*]; done)), H', ⟨by have := HK1.out; omega⟩, by repeat (first | exact Drawn0.refl _ | apply Drawn0.step)⟩
            · rw [if_neg c15] at H
              have c15b0 : ((IntKind.u64.wrap ((Go.bits .and .u64 (ji7) 1) + (Go.bits .and .u64 (ji9) 1))) == 1) = false := beq_eq_false_iff_ne.mpr c15
              have c15b1 : ((IntKind.u64.wrap ((Go.bits .and .u64 (ji7) 1) + (Go.bits .and .u64 (ji9) 1))) != 1) = true := bne_iff_ne.mpr c15
              have H' := Aside0.mk H
              clear H
              go_wp2
              go_roundg k1
              case measure => have := HK1.out; omega
              case rel => exact ⟨(x9_1), (wrap64 (x10_1 + 1)), (by first | rfl | (simp; done) | (simp [*]; done)), (by first | rfl | (simp; done) | (simp [*]; done)), H', ⟨by have := HK1.out; omega⟩, by repeat (first | exact Drawn0.refl _ | apply Drawn0.step)⟩
        · rw [if_neg c6] at H
          exact absurd H (by simp)
      · rw [if_neg c5] at H
        have c5b0 : decide (x10_1 < 64) = false := decide_eq_false c5
        clear c5
        obtain rfl := Option.some.inj H
        go_wp2
        go_ret
        exact ⟨by first | rfl | (simp; done) | (simp [*]; done), by repeat (first | exact Drawn0.refl _ | apply Drawn0.step)⟩

/-! ### trammelref02_power: function 35 -/
def trammelref02_power.f (a0 : Int) : Option (Int) := if 0 ≤ a0 then (some (wrap64 (shl .u64 1 a0))) else (none)
set_option maxHeartbeats 8000000 in
set_option maxRecDepth 100000 in
theorem trammelref02_power.calls (a0 : Int) (r : Int) (w : World) (h : trammelref02_power.f a0 = some r) :
    Calls Try.prog 35 #[.int .i64 a0] w fun e w' => e = .returned (.int .i64 r) ∧ Drawn0 w w' := by
  have H : (if 0 ≤ a0 then (some (wrap64 (shl .u64 1 a0))) else (none)) = some r := h
  clear h
  by_cases c2 : 0 ≤ a0
  · rw [if_pos c2] at H
    have c2b0 := eq_true c2
    have c2b1 : decide (0 ≤ a0) = true := decide_eq_true c2
    clear c2
    obtain ⟨ji3, hji3⟩ : ∃ j_ : Int, (shl .u64 1 a0) = j_ := ⟨_, rfl⟩
    replace H : (some (wrap64 (ji3))) = some r := by first | (rw [hji3] at H; exact H) | (simp only [hji3] at H ⊢; exact H)
    have hji3_ : (IntKind.u64.wrap (1 * 2 ^ min a0.toNat 64)) = ji3 := hji3
    have hji3z : a0 ≤ 64 → (IntKind.u64.wrap (1 * 2 ^ a0.toNat)) = ji3 := shl_small hji3
    have hji3u : (IntKind.u64.wrap (2 ^ min a0.toNat 64)) = ji3 := by have h_ := hji3_; rw [Int.one_mul] at h_; exact h_
    have hji3v : a0 ≤ 64 → (IntKind.u64.wrap (2 ^ a0.toNat)) = ji3 := fun hle_ => by have h_ := hji3z hle_; rw [Int.one_mul] at h_; exact h_
    obtain rfl := Option.some.inj H
    go_enter Try.func35, Try.ntmps35
    go_wp2
    go_ret
    exact ⟨by first | rfl | (simp; done) | (simp only [← hji3] <;> (first | rfl | simp)) | (simp [*]; done), by repeat (first | exact Drawn0.refl _ | apply Drawn0.step)⟩
  · rw [if_neg c2] at H
    exact absurd H (by simp)

/-! ### trammelref02_down: function 36 -/
def trammelref02_down.l0 : Nat → Int → Int → Int → Option (Int)
  | 0, _, _, _ => none
  | k + 1, x0, x1, x5 => if x5 < x1 then ((trammelref02_divided.f k x0 2).bind fun bt123 => (if bt123.2 < 0 then (trammelref02_down.l0 k (wrap64 (bt123.1 - 1)) x1 (wrap64 (x5 + 1))) else (trammelref02_down.l0 k bt123.1 x1 (wrap64 (x5 + 1))))) else (some x0)
def trammelref02_down.f (k : Nat) (a0 : Int) (a1 : Int) : Option (Int) := trammelref02_down.l0 k a0 a1 0
theorem trammelref02_down.mono_l : ∀ k, (∀ y0 y1 y2, LeO (trammelref02_down.l0 k y0 y1 y2) (trammelref02_down.l0 (k + 1) y0 y1 y2))
  | 0 => fun _ _ _ r h => by simp [trammelref02_down.l0] at h
  | k + 1 => by
    have ih0 := trammelref02_down.mono_l k
    · intro y0 y1 y2
      unfold trammelref02_down.l0
      repeat' first
      | (with_reducible exact ih0 _ _ _)
      | (with_reducible exact trammelref02_divided.mono _ _ _)
      | (with_reducible exact LeO.refl _)
      | (with_reducible exact LeO.none _)
      | (with_reducible refine LeO.ite ?_ ?_)
      | (with_reducible refine LeO.bind ?_ (fun _ => ?_))
      | exact ih0 _ _ _
      | exact trammelref02_divided.mono _ _ _
      | exact LeO.none _
      | refine LeO.ite ?_ ?_
      | refine LeO.bind ?_ (fun _ => ?_)
theorem trammelref02_down.mono : ∀ a0 a1 k, LeO (trammelref02_down.f k a0 a1) (trammelref02_down.f (k + 1) a0 a1) := by
  intro a0 a1 k
  have ih0 := trammelref02_down.mono_l k
  unfold trammelref02_down.f
  repeat' first
      | (with_reducible exact ih0 _ _ _)
      | (with_reducible exact trammelref02_divided.mono _ _ _)
      | (with_reducible exact LeO.refl _)
      | (with_reducible exact LeO.none _)
      | (with_reducible refine LeO.ite ?_ ?_)
      | (with_reducible refine LeO.bind ?_ (fun _ => ?_))
      | exact ih0 _ _ _
      | exact trammelref02_divided.mono _ _ _
      | exact LeO.none _
      | refine LeO.ite ?_ ?_
      | refine LeO.bind ?_ (fun _ => ?_)
set_option maxHeartbeats 8000000 in
set_option maxRecDepth 100000 in
theorem trammelref02_down.calls (k : Nat) (a0 : Int) (a1 : Int) (r : Int) (w : World) (h : trammelref02_down.f k a0 a1 = some r) :
    Calls Try.prog 36 #[.int .i64 a0, .int .i64 a1] w fun e w' => e = .returned (.int .i64 r) ∧ Drawn0 w w' := by
  have H : (trammelref02_down.l0 k a0 a1 0) = some r := h
  clear h
  have H' := Aside0.mk H
  clear H
  go_enter Try.func36, Try.ntmps36
  go_wp2
  go_loopg [0, 5] k (fun kq v0 v5 w' => ∃ (x0_1 : Int) (x5_1 : Int), v0 = .int .i64 x0_1 ∧ v5 = .int .i64 x5_1 ∧ Aside0 (trammelref02_down.l0 kq x0_1 a1 x5_1 = some r) ∧ Aside0 (kq ≤ k) ∧ Drawn0 w w')
  case atStart => exact ⟨(a0), (0), (by first | rfl | (simp; done) | (simp [*]; done)), (by first | rfl | (simp; done) | (simp [*]; done)), H', ⟨Nat.le_refl _⟩, by repeat (first | exact Drawn0.refl _ | apply Drawn0.step)⟩
  case round =>
    clear H'
    try clear p2
    obtain ⟨x0_1, x5_1, rfl, rfl, HA, HK1, ⟨m1, rfl⟩⟩ := hrel
    cases gk with
    | zero => exact absurd HA.out (by simp [trammelref02_down.l0])
    | succ k1 =>
      have H := HA.out
      clear HA
      simp only [trammelref02_down.l0] at H
      by_cases c3 : x5_1 < a1
      · rw [if_pos c3] at H
        have c3b0 : decide (x5_1 < a1) = true := decide_eq_true c3
        clear c3
        replace H := Option.bind_eq_some_iff.mp H
        obtain ⟨⟨t123, t124⟩, A40, H⟩ := H
        replace H : (if t124 < 0 then (trammelref02_down.l0 k1 (wrap64 (t123 - 1)) a1 (wrap64 (x5_1 + 1))) else (trammelref02_down.l0 k1 t123 a1 (wrap64 (x5_1 + 1)))) = some r := H
        have A4 := Aside0.mk A40
        clear A40
        by_cases c5 : t124 < 0
        · rw [if_pos c5] at H
          have c5b0 : decide (t124 < 0) = true := decide_eq_true c5
          clear c5
          have H' := Aside0.mk H
          clear H
          go_wp2_with (first | ((with_reducible refine gate_callee (f := 33) rfl ?_); refine goesL_ (some 15) rfl rfl Try.func33 (by kernel_rfl) rfl #[.int .i64 x0_1, .int .i64 2] rfl (by (try simp only [List.map_toArray, List.map_cons, List.map_nil]); first | done | rfl | (simp only [List.length_drop, List.length_take]; rfl)) ?_; (with_reducible refine (trammelref02_divided.calls k1 x0_1 2 t123 t124 _ A4.out).mono ?_); rintro e w' ⟨rfl, ⟨nd, rfl⟩⟩; refine ⟨_, rfl, ?_⟩))
          go_roundg k1
          case measure => have := HK1.out; omega
          case rel => exact ⟨(wrap64 (t123 - 1)), (wrap64 (x5_1 + 1)), (by first | rfl | (simp; done) | (simp [*]; done)), (by first | rfl | (simp; done) | (simp [*]; done)), H', ⟨by have := HK1.out; omega⟩, by repeat (first | exact Drawn0.refl _ | apply Drawn0.step)⟩
        · rw [if_neg c5] at H
          have c5b0 : decide (t124 < 0) = false := decide_eq_false c5
          clear c5
          have H' := Aside0.mk H
          clear H
          go_wp2_with (first | ((with_reducible refine gate_callee (f := 33) rfl ?_); refine goesL_ (some 15) rfl rfl Try.func33 (by kernel_rfl) rfl #[.int .i64 x0_1, .int .i64 2] rfl (by (try simp only [List.map_toArray, List.map_cons, List.map_nil]); first | done | rfl | (simp only [List.length_drop, List.length_take]; rfl)) ?_; (with_reducible refine (trammelref02_divided.calls k1 x0_1 2 t123 t124 _ A4.out).mono ?_); rintro e w' ⟨rfl, ⟨nd, rfl⟩⟩; refine ⟨_, rfl, ?_⟩))
          go_roundg k1
          case measure => have := HK1.out; omega
          case rel => exact ⟨(t123), (wrap64 (x5_1 + 1)), (by first | rfl | (simp; done) | (simp [*]; done)), (by first | rfl | (simp; done) | (simp [*]; done)), H', ⟨by have := HK1.out; omega⟩, by repeat (first | exact Drawn0.refl _ | apply Drawn0.step)⟩
      · rw [if_neg c3] at H
        have c3b0 : decide (x5_1 < a1) = false := decide_eq_false c3
        clear c3
        obtain rfl := Option.some.inj H
        go_wp2
        go_ret
        exact ⟨by first | rfl | (simp; done) | (simp [*]; done), by repeat (first | exact Drawn0.refl _ | apply Drawn0.step)⟩

end Go.Proofs.Ytgomkbdemakndaa.PWordReckons
