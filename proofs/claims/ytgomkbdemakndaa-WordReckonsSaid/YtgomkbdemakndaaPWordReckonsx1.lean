/- Written by a program of this session's: functions that the law reaches, their walks, the row; no conditions beyond the statement's own. -/
import Derived.Test.YtgomkbdemakndaaPWordReckonsx0
namespace Go.Proofs.Ytgomkbdemakndaa.PWordReckons
open Go.RowKit Go.Proofs.YtgomkbdemakndaaW.PrintWords Go.Proofs.YtgomkbdemakndaaW.PrintLast Go.Proofs.YtgomkbdemakndaaW.PrintMore
attribute [local go_sem] max2_int min2_int max_two min_two max_three min_three max_four min_four   -- for this text's walks alone
set_option linter.unusedVariables false
set_option linter.unusedSimpArgs false

/-! ### word_Bits: function 11 -/
def word_Bits.f (a0 : Int) : Option (Int) := if a0 = 1 then (some 8) else (if a0 = 2 then (some 32) else (if a0 = 3 then (some 64) else (some 0)))
set_option maxHeartbeats 8000000 in
set_option maxRecDepth 100000 in
theorem word_Bits.calls (a0 : Int) (r : Int) (w : World) (h : word_Bits.f a0 = some r) :
    Calls Try.prog 11 #[.int .u8 a0] w fun e w' => e = .returned (.int .i64 r) ∧ Drawn0 w w' := by
  have H : (if a0 = 1 then (some 8) else (if a0 = 2 then (some 32) else (if a0 = 3 then (some 64) else (some 0)))) = some r := h
  clear h
  by_cases c2 : a0 = 1
  · rw [if_pos c2] at H
    have c2b0 : (a0 == 1) = true := beq_iff_eq.mpr c2
    have c2b1 : (a0 != 1) = false := bne_eq_false_iff_eq.mpr c2
    clear c2
    obtain rfl := Option.some.inj H
    go_enter Try.func11, Try.ntmps11
    go_wp2
    go_ret
    exact ⟨by first | rfl | (simp; done) | (simp [*]; done), by repeat (first | exact Drawn0.refl _ | apply Drawn0.step)⟩
  · rw [if_neg c2] at H
    have c2b0 : (a0 == 1) = false := beq_eq_false_iff_ne.mpr c2
    have c2b1 : (a0 != 1) = true := bne_iff_ne.mpr c2
    by_cases c3 : a0 = 2
    · rw [if_pos c3] at H
      have c3b0 : (a0 == 2) = true := beq_iff_eq.mpr c3
      have c3b1 : (a0 != 2) = false := bne_eq_false_iff_eq.mpr c3
      clear c3
      obtain rfl := Option.some.inj H
      go_enter Try.func11, Try.ntmps11
      go_wp2
      go_ret
      exact ⟨by first | rfl | (simp; done) | (simp [*]; done), by repeat (first | exact Drawn0.refl _ | apply Drawn0.step)⟩
    · rw [if_neg c3] at H
      have c3b0 : (a0 == 2) = false := beq_eq_false_iff_ne.mpr c3
      have c3b1 : (a0 != 2) = true := bne_iff_ne.mpr c3
      by_cases c4 : a0 = 3
      · rw [if_pos c4] at H
        have c4b0 : (a0 == 3) = true := beq_iff_eq.mpr c4
        have c4b1 : (a0 != 3) = false := bne_eq_false_iff_eq.mpr c4
        clear c4
        obtain rfl := Option.some.inj H
        go_enter Try.func11, Try.ntmps11
        go_wp2
        go_ret
        exact ⟨by first | rfl | (simp; done) | (simp [*]; done), by repeat (first | exact Drawn0.refl _ | apply Drawn0.step)⟩
      · rw [if_neg c4] at H
        have c4b0 : (a0 == 3) = false := beq_eq_false_iff_ne.mpr c4
        have c4b1 : (a0 != 3) = true := bne_iff_ne.mpr c4
        obtain rfl := Option.some.inj H
        go_enter Try.func11, Try.ntmps11
        go_wp2
        go_ret
        exact ⟨by first | rfl | (simp; done) | (simp [*]; done), by repeat (first | exact Drawn0.refl _ | apply Drawn0.step)⟩

/-! ### word_Wrap: function 15 -/
def word_Wrap.f (a0 : Int) (a1 : Int) : Option (Int) := if a0 = 1 then (some (wrap64 (IntKind.i8.wrap (a1)))) else (if a0 = 2 then (some (wrap64 (wrap32 (a1)))) else (if a0 = 3 then (some a1) else (some 0)))
set_option maxHeartbeats 8000000 in
set_option maxRecDepth 100000 in
theorem word_Wrap.calls (a0 : Int) (a1 : Int) (r : Int) (w : World) (h : word_Wrap.f a0 a1 = some r) :
    Calls Try.prog 15 #[.int .u8 a0, .int .i64 a1] w fun e w' => e = .returned (.int .i64 r) ∧ Drawn0 w w' := by
  have H : (if a0 = 1 then (some (wrap64 (IntKind.i8.wrap (a1)))) else (if a0 = 2 then (some (wrap64 (wrap32 (a1)))) else (if a0 = 3 then (some a1) else (some 0)))) = some r := h
  clear h
  by_cases c3 : a0 = 1
  · rw [if_pos c3] at H
    have c3b0 : (a0 == 1) = true := beq_iff_eq.mpr c3
    have c3b1 : (a0 != 1) = false := bne_eq_false_iff_eq.mpr c3
    clear c3
    obtain rfl := Option.some.inj H
    go_enter Try.func15, Try.ntmps15
    go_wp2
    go_ret
    exact ⟨by first | rfl | (simp; done) | (simp [*]; done), by repeat (first | exact Drawn0.refl _ | apply Drawn0.step)⟩
  · rw [if_neg c3] at H
    have c3b0 : (a0 == 1) = false := beq_eq_false_iff_ne.mpr c3
    have c3b1 : (a0 != 1) = true := bne_iff_ne.mpr c3
    by_cases c4 : a0 = 2
    · rw [if_pos c4] at H
      have c4b0 : (a0 == 2) = true := beq_iff_eq.mpr c4
      have c4b1 : (a0 != 2) = false := bne_eq_false_iff_eq.mpr c4
      clear c4
      obtain rfl := Option.some.inj H
      go_enter Try.func15, Try.ntmps15
      go_wp2
      go_ret
      exact ⟨by first | rfl | (simp; done) | (simp [*]; done), by repeat (first | exact Drawn0.refl _ | apply Drawn0.step)⟩
    · rw [if_neg c4] at H
      have c4b0 : (a0 == 2) = false := beq_eq_false_iff_ne.mpr c4
      have c4b1 : (a0 != 2) = true := bne_iff_ne.mpr c4
      by_cases c5 : a0 = 3
      · rw [if_pos c5] at H
        have c5b0 : (a0 == 3) = true := beq_iff_eq.mpr c5
        have c5b1 : (a0 != 3) = false := bne_eq_false_iff_eq.mpr c5
        clear c5
        obtain rfl := Option.some.inj H
        go_enter Try.func15, Try.ntmps15
        go_wp2
        go_ret
        exact ⟨by first | rfl | (simp; done) | (simp [*]; done), by repeat (first | exact Drawn0.refl _ | apply Drawn0.step)⟩
      · rw [if_neg c5] at H
        have c5b0 : (a0 == 3) = false := beq_eq_false_iff_ne.mpr c5
        have c5b1 : (a0 != 3) = true := bne_iff_ne.mpr c5
        obtain rfl := Option.some.inj H
        go_enter Try.func15, Try.ntmps15
        go_wp2
        go_ret
        exact ⟨by first | rfl | (simp; done) | (simp [*]; done), by repeat (first | exact Drawn0.refl _ | apply Drawn0.step)⟩

/-! ### word_Fits: function 13 -/
def word_Fits.f (a0 : Int) (a1 : Int) : Option (Bool) := (word_Bits.f a0).bind fun t101 => (if t101 > 0 then ((word_Wrap.f a0 a1).bind fun t102 => (some (t102 == a1))) else (some false))
set_option maxHeartbeats 8000000 in
set_option maxRecDepth 100000 in
theorem word_Fits.calls (a0 : Int) (a1 : Int) (r : Bool) (w : World) (h : word_Fits.f a0 a1 = some r) :
    Calls Try.prog 13 #[.int .u8 a0, .int .i64 a1] w fun e w' => e = .returned (.bool r) ∧ Drawn0 w w' := by
  have H : ((word_Bits.f a0).bind fun t101 => (if t101 > 0 then ((word_Wrap.f a0 a1).bind fun t102 => (some (t102 == a1))) else (some false))) = some r := h
  clear h
  replace H := Option.bind_eq_some_iff.mp H
  obtain ⟨t101, A30, H⟩ := H
  replace H : (if t101 > 0 then ((word_Wrap.f a0 a1).bind fun t102 => (some (t102 == a1))) else (some false)) = some r := H
  have A3 := Aside0.mk A30
  clear A30
  by_cases c4 : t101 > 0
  · rw [if_pos c4] at H
    have c4b0 : decide (0 < t101) = true := decide_eq_true c4
    clear c4
    replace H := Option.bind_eq_some_iff.mp H
    obtain ⟨t102, A50, H⟩ := H
    replace H : (some (t102 == a1)) = some r := H
    have A5 := Aside0.mk A50
    clear A50
    obtain rfl := Option.some.inj H
    go_enter Try.func13, Try.ntmps13
    go_wp2_with (first | ((with_reducible refine gate_callee (f := 11) rfl ?_); refine goesL_ (some 6) rfl rfl Try.func11 (by kernel_rfl) rfl #[.int .u8 a0] rfl (by (try simp only [List.map_toArray, List.map_cons, List.map_nil]); first | done | rfl | (simp only [List.length_drop, List.length_take]; rfl)) ?_; (with_reducible refine (word_Bits.calls a0 t101 _ A3.out).mono ?_); rintro e w' ⟨rfl, ⟨nd, rfl⟩⟩; refine ⟨_, rfl, ?_⟩) | (go_at_call 15; (with_reducible refine (word_Wrap.calls a0 a1 t102 _ A5.out).mono ?_); rintro e w' ⟨rfl, ⟨nd, rfl⟩⟩))
    go_ret
    exact ⟨by first | rfl | (simp; done) | (simp [*]; done), by repeat (first | exact Drawn0.refl _ | apply Drawn0.step)⟩
  · rw [if_neg c4] at H
    have c4b0 : decide (0 < t101) = false := decide_eq_false c4
    clear c4
    obtain rfl := Option.some.inj H
    go_enter Try.func13, Try.ntmps13
    go_wp2_with (first | ((with_reducible refine gate_callee (f := 11) rfl ?_); refine goesL_ (some 6) rfl rfl Try.func11 (by kernel_rfl) rfl #[.int .u8 a0] rfl (by (try simp only [List.map_toArray, List.map_cons, List.map_nil]); first | done | rfl | (simp only [List.length_drop, List.length_take]; rfl)) ?_; (with_reducible refine (word_Bits.calls a0 t101 _ A3.out).mono ?_); rintro e w' ⟨rfl, ⟨nd, rfl⟩⟩; refine ⟨_, rfl, ?_⟩))
    go_ret
    exact ⟨by first | rfl | (simp; done) | (simp [*]; done), by repeat (first | exact Drawn0.refl _ | apply Drawn0.step)⟩

/-! ### word_two_int8: function 27 -/
def word_two_int8.j0 : Nat → Int → Int → Int → Int → Int → Bool → Option (Int × Int)
  | 0, _, _, _, _, _, _ => none
  | k + 1, x0, x1, x2, x3, x10, x11 => if x11 = true then (if x2 = 0 then (some (0, 1)) else (if x0 = 14 then (some (wrap64 (IntKind.i8.wrap (Int.tdiv x1 x2)), 0)) else (some (wrap64 (Int.tmod x1 x2), 0)))) else (if x10 = 12 then (some (wrap64 (IntKind.i8.wrap (x1 + (IntKind.i8.wrap (-x2)))), 0)) else (if x10 = 11 then (some (wrap64 (IntKind.i8.wrap (x1 + x2)), 0)) else (if x10 = 13 then (some (wrap64 (IntKind.i8.wrap (x1 * x2)), 0)) else (if x10 = 16 then (some (wrap64 (Go.bits .and .i8 x1 x2), 0)) else (if x10 = 17 then (some (wrap64 (Go.bits .or .i8 x1 x2), 0)) else (if x10 = 18 then (some (wrap64 (Go.bits .xor .i8 x1 x2), 0)) else (if x10 = 19 then (if x3 = 0 then (none) else (if 0 ≤ (Int.tmod (IntKind.u64.wrap (x2)) x3) then (some (wrap64 (shl .i8 x1 (Int.tmod (IntKind.u64.wrap (x2)) x3)), 0)) else (none))) else (if x10 = 20 then (if x3 = 0 then (none) else (if 0 ≤ (Int.tmod (IntKind.u64.wrap (x2)) x3) then (some (wrap64 (shr .i8 x1 (Int.tmod (IntKind.u64.wrap (x2)) x3)), 0)) else (none))) else (some (0, 0))))))))))
def word_two_int8.f (k : Nat) (a0 : Int) (a1 : Int) (a2 : Int) (a3 : Int) : Option (Int × Int) := if a0 = 14 then (word_two_int8.j0 k a0 a1 a2 a3 a0 (a0 == 14)) else (word_two_int8.j0 k a0 a1 a2 a3 a0 (a0 == 15))
theorem word_two_int8.mono_l : ∀ k, (∀ y0 y1 y2 y3 y4 y5, LeO (word_two_int8.j0 k y0 y1 y2 y3 y4 y5) (word_two_int8.j0 (k + 1) y0 y1 y2 y3 y4 y5))
  | 0 => fun _ _ _ _ _ _ r h => by simp [word_two_int8.j0] at h
  | k + 1 => by
    have ih0 := word_two_int8.mono_l k
    · intro y0 y1 y2 y3 y4 y5
      unfold word_two_int8.j0
      repeat' first
      | (with_reducible exact ih0 _ _ _ _ _ _)
      | (with_reducible exact LeO.refl _)
      | (with_reducible exact LeO.none _)
      | (with_reducible refine LeO.ite ?_ ?_)
      | (with_reducible refine LeO.bind ?_ (fun _ => ?_))
      | exact ih0 _ _ _ _ _ _
      | exact LeO.none _
      | refine LeO.ite ?_ ?_
      | refine LeO.bind ?_ (fun _ => ?_)
theorem word_two_int8.mono : ∀ a0 a1 a2 a3 k, LeO (word_two_int8.f k a0 a1 a2 a3) (word_two_int8.f (k + 1) a0 a1 a2 a3) := by
  intro a0 a1 a2 a3 k
  have ih0 := word_two_int8.mono_l k
  unfold word_two_int8.f
  repeat' first
      | (with_reducible exact ih0 _ _ _ _ _ _)
      | (with_reducible exact LeO.refl _)
      | (with_reducible exact LeO.none _)
      | (with_reducible refine LeO.ite ?_ ?_)
      | (with_reducible refine LeO.bind ?_ (fun _ => ?_))
      | exact ih0 _ _ _ _ _ _
      | exact LeO.none _
      | refine LeO.ite ?_ ?_
      | refine LeO.bind ?_ (fun _ => ?_)
set_option maxHeartbeats 8000000 in
set_option maxRecDepth 100000 in
theorem word_two_int8.calls (k : Nat) (a0 : Int) (a1 : Int) (a2 : Int) (a3 : Int) (r1 : Int) (r2 : Int) (w : World) (h : word_two_int8.f k a0 a1 a2 a3 = some (r1, r2)) :
    Calls Try.prog 27 #[.int .u8 a0, .int .i8 a1, .int .i8 a2, .int .u64 a3] w fun e w' => e = .returned (.tuple #[.int .i64 r1, .int .i64 r2]) ∧ Drawn0 w w' := by
  have H : (if a0 = 14 then (word_two_int8.j0 k a0 a1 a2 a3 a0 (a0 == 14)) else (word_two_int8.j0 k a0 a1 a2 a3 a0 (a0 == 15))) = some (r1, r2) := h
  clear h
  have HC5 := Aside0.mk H
  clear H
  go_enter Try.func27, Try.ntmps27
  go_upto_if 11 with (fail)
  go_cut [11] (fun v11 wc => ∃ (kq : Nat) (x11_4 : Bool), v11 = .bool x11_4 ∧ Aside0 (word_two_int8.j0 kq a0 a1 a2 a3 a0 x11_4 = some (r1, r2)) ∧ Aside0 (kq ≤ k) ∧ Drawn0 w wc)
  case first =>
    have H := HC5.out
    clear HC5
    by_cases c6 : a0 = 14
    · rw [if_pos c6] at H
      have c6b0 : (a0 == 14) = true := beq_iff_eq.mpr c6
      have c6b1 : (a0 != 14) = false := bne_eq_false_iff_eq.mpr c6
      clear c6
      (first | rw [c6b0] | (simp only [i64_w, i32_w]; rw [c6b0]) | skip)
      have H' := Aside0.mk H
      clear H
      go_wp2
      go_meet
      case rel => exact ⟨_, ((a0 == 14)), (by first | rfl | (simp; done) | (simp [*]; done)), H', ⟨by first | omega | exact Nat.le_refl _⟩, by repeat (first | exact Drawn0.refl _ | apply Drawn0.step)⟩
    · rw [if_neg c6] at H
      have c6b0 : (a0 == 14) = false := beq_eq_false_iff_ne.mpr c6
      have c6b1 : (a0 != 14) = true := bne_iff_ne.mpr c6
      (first | rw [c6b0] | (simp only [i64_w, i32_w]; rw [c6b0]) | skip)
      have H' := Aside0.mk H
      clear H
      go_wp2
      go_meet
      case rel => exact ⟨_, ((a0 == 15)), (by first | rfl | (simp; done) | (simp [*]; done)), H', ⟨by first | omega | exact Nat.le_refl _⟩, by repeat (first | exact Drawn0.refl _ | apply Drawn0.step)⟩
  case rest =>
    clear HC5
    try clear c2
    try clear p2
    try clear c6
    try clear c6b0
    try clear c6b1
    obtain ⟨kq, x11_4, rfl, HA, HJ4, ⟨mc4, rfl⟩⟩ := hcut
    cases kq with
    | zero => exact absurd HA.out (by simp [word_two_int8.j0])
    | succ kj4 =>
      have H := HA.out
      clear HA
      simp only [word_two_int8.j0] at H
      by_cases c7 : x11_4 = true
      · subst c7
        have H1 : (if a2 = 0 then (some (0, 1)) else (if a0 = 14 then (some (wrap64 (IntKind.i8.wrap (Int.tdiv a1 a2)), 0)) else (some (wrap64 (Int.tmod a1 a2), 0)))) = some (r1, r2) := by rw [if_pos rfl] at H; exact H
        clear H
        have H := H1
        clear H1
        by_cases c8 : a2 = 0
        · rw [if_pos c8] at H
          have c8b0 : (a2 == 0) = true := beq_iff_eq.mpr c8
          have c8b1 : (a2 != 0) = false := bne_eq_false_iff_eq.mpr c8
          clear c8
          simp only [Option.some.injEq, Prod.mk.injEq] at H
          obtain ⟨rfl, rfl⟩ := H
          go_wp2
          go_ret2
          exact ⟨by first | rfl | (simp; done) | (simp [*]; done), by repeat (first | exact Drawn0.refl _ | apply Drawn0.step)⟩
        · rw [if_neg c8] at H
          have c8b0 : (a2 == 0) = false := beq_eq_false_iff_ne.mpr c8
          have c8b1 : (a2 != 0) = true := bne_iff_ne.mpr c8
          by_cases c9 : a0 = 14
          · rw [if_pos c9] at H
            have c9b0 : (a0 == 14) = true := beq_iff_eq.mpr c9
            have c9b1 : (a0 != 14) = false := bne_eq_false_iff_eq.mpr c9
            clear c9
            simp only [Option.some.injEq, Prod.mk.injEq] at H
            obtain ⟨rfl, rfl⟩ := H
            go_wp2
            go_ret2
            exact ⟨by first | rfl | (simp; done) | (simp [*]; done), by repeat (first | exact Drawn0.refl _ | apply Drawn0.step)⟩
          · rw [if_neg c9] at H
            have c9b0 : (a0 == 14) = false := beq_eq_false_iff_ne.mpr c9
            have c9b1 : (a0 != 14) = true := bne_iff_ne.mpr c9
            simp only [Option.some.injEq, Prod.mk.injEq] at H
            obtain ⟨rfl, rfl⟩ := H
            go_wp2
            go_ret2
            exact ⟨by first | rfl | (simp; done) | (simp [*]; done), by repeat (first | exact Drawn0.refl _ | apply Drawn0.step)⟩
      · replace c7 := Bool.eq_false_iff.mpr c7
        subst c7
        have H1 : (if a0 = 12 then (some (wrap64 (IntKind.i8.wrap (a1 + (IntKind.i8.wrap (-a2)))), 0)) else (if a0 = 11 then (some (wrap64 (IntKind.i8.wrap (a1 + a2)), 0)) else (if a0 = 13 then (some (wrap64 (IntKind.i8.wrap (a1 * a2)), 0)) else (if a0 = 16 then (some (wrap64 (Go.bits .and .i8 a1 a2), 0)) else (if a0 = 17 then (some (wrap64 (Go.bits .or .i8 a1 a2), 0)) else (if a0 = 18 then (some (wrap64 (Go.bits .xor .i8 a1 a2), 0)) else (if a0 = 19 then (if a3 = 0 then (none) else (if 0 ≤ (Int.tmod (IntKind.u64.wrap (a2)) a3) then (some (wrap64 (shl .i8 a1 (Int.tmod (IntKind.u64.wrap (a2)) a3)), 0)) else (none))) else (if a0 = 20 then (if a3 = 0 then (none) else (if 0 ≤ (Int.tmod (IntKind.u64.wrap (a2)) a3) then (some (wrap64 (shr .i8 a1 (Int.tmod (IntKind.u64.wrap (a2)) a3)), 0)) else (none))) else (some (0, 0)))))))))) = some (r1, r2) := by rw [if_neg (show ¬ (false = true) by decide)] at H; exact H
        clear H
        have H := H1
        clear H1
        by_cases c10 : a0 = 12
        · rw [if_pos c10] at H
          have c10b0 : (a0 == 12) = true := beq_iff_eq.mpr c10
          have c10b1 : (a0 != 12) = false := bne_eq_false_iff_eq.mpr c10
          clear c10
          simp only [Option.some.injEq, Prod.mk.injEq] at H
          obtain ⟨rfl, rfl⟩ := H
          go_wp2
          go_ret2
          exact ⟨by first | rfl | (simp; done) | (simp [*]; done), by repeat (first | exact Drawn0.refl _ | apply Drawn0.step)⟩
        · rw [if_neg c10] at H
          have c10b0 : (a0 == 12) = false := beq_eq_false_iff_ne.mpr c10
          have c10b1 : (a0 != 12) = true := bne_iff_ne.mpr c10
          by_cases c11 : a0 = 11
          · rw [if_pos c11] at H
            have c11b0 : (a0 == 11) = true := beq_iff_eq.mpr c11
            have c11b1 : (a0 != 11) = false := bne_eq_false_iff_eq.mpr c11
            clear c11
            simp only [Option.some.injEq, Prod.mk.injEq] at H
            obtain ⟨rfl, rfl⟩ := H
            go_wp2
            go_ret2
            exact ⟨by first | rfl | (simp; done) | (simp [*]; done), by repeat (first | exact Drawn0.refl _ | apply Drawn0.step)⟩
          · rw [if_neg c11] at H
            have c11b0 : (a0 == 11) = false := beq_eq_false_iff_ne.mpr c11
            have c11b1 : (a0 != 11) = true := bne_iff_ne.mpr c11
            by_cases c12 : a0 = 13
            · rw [if_pos c12] at H
              have c12b0 : (a0 == 13) = true := beq_iff_eq.mpr c12
              have c12b1 : (a0 != 13) = false := bne_eq_false_iff_eq.mpr c12
              clear c12
              simp only [Option.some.injEq, Prod.mk.injEq] at H
              obtain ⟨rfl, rfl⟩ := H
              go_wp2
              go_ret2
              exact ⟨by first | rfl | (simp; done) | (simp [*]; done), by repeat (first | exact Drawn0.refl _ | apply Drawn0.step)⟩
            · rw [if_neg c12] at H
              have c12b0 : (a0 == 13) = false := beq_eq_false_iff_ne.mpr c12
              have c12b1 : (a0 != 13) = true := bne_iff_ne.mpr c12
              by_cases c13 : a0 = 16
              · rw [if_pos c13] at H
                have c13b0 : (a0 == 16) = true := beq_iff_eq.mpr c13
                have c13b1 : (a0 != 16) = false := bne_eq_false_iff_eq.mpr c13
                clear c13
                simp only [Option.some.injEq, Prod.mk.injEq] at H
                obtain ⟨rfl, rfl⟩ := H
                go_wp2
                go_ret2
                exact ⟨by first | rfl | (simp; done) | (simp [*]; done), by repeat (first | exact Drawn0.refl _ | apply Drawn0.step)⟩
              · rw [if_neg c13] at H
                have c13b0 : (a0 == 16) = false := beq_eq_false_iff_ne.mpr c13
                have c13b1 : (a0 != 16) = true := bne_iff_ne.mpr c13
                by_cases c14 : a0 = 17
                · rw [if_pos c14] at H
                  have c14b0 : (a0 == 17) = true := beq_iff_eq.mpr c14
                  have c14b1 : (a0 != 17) = false := bne_eq_false_iff_eq.mpr c14
                  clear c14
                  simp only [Option.some.injEq, Prod.mk.injEq] at H
                  obtain ⟨rfl, rfl⟩ := H
                  go_wp2
                  go_ret2
                  exact ⟨by first | rfl | (simp; done) | (simp [*]; done), by repeat (first | exact Drawn0.refl _ | apply Drawn0.step)⟩
                · rw [if_neg c14] at H
                  have c14b0 : (a0 == 17) = false := beq_eq_false_iff_ne.mpr c14
                  have c14b1 : (a0 != 17) = true := bne_iff_ne.mpr c14
                  by_cases c15 : a0 = 18
                  · rw [if_pos c15] at H
                    have c15b0 : (a0 == 18) = true := beq_iff_eq.mpr c15
                    have c15b1 : (a0 != 18) = false := bne_eq_false_iff_eq.mpr c15
                    clear c15
                    simp only [Option.some.injEq, Prod.mk.injEq] at H
                    obtain ⟨rfl, rfl⟩ := H
                    go_wp2
                    go_ret2
                    exact ⟨by first | rfl | (simp; done) | (simp [*]; done), by repeat (first | exact Drawn0.refl _ | apply Drawn0.step)⟩
                  · rw [if_neg c15] at H
                    have c15b0 : (a0 == 18) = false := beq_eq_false_iff_ne.mpr c15
                    have c15b1 : (a0 != 18) = true := bne_iff_ne.mpr c15
                    by_cases c16 : a0 = 19
                    · rw [if_pos c16] at H
                      have c16b0 : (a0 == 19) = true := beq_iff_eq.mpr c16
                      have c16b1 : (a0 != 19) = false := bne_eq_false_iff_eq.mpr c16
                      clear c16
                      by_cases c17 : a3 = 0
                      · rw [if_pos c17] at H
                        exact absurd H (by simp)
                      · rw [if_neg c17] at H
                        have c17b0 : (a3 == 0) = false := beq_eq_false_iff_ne.mpr c17
                        have c17b1 : (a3 != 0) = true := bne_iff_ne.mpr c17
                        obtain ⟨ji18, hji18⟩ : ∃ j_ : Int, (Int.tmod (IntKind.u64.wrap (a2)) a3) = j_ := ⟨_, rfl⟩
                        replace H : (if 0 ≤ (ji18) then (some (wrap64 (shl .i8 a1 (ji18)), 0)) else (none)) = some (r1, r2) := by first | (rw [hji18] at H; exact H) | (simp only [hji18] at H ⊢; exact H)
                        by_cases c19 : 0 ≤ (ji18)
                        · rw [if_pos c19] at H
                          have c19b0 := eq_true c19
                          have c19b1 : decide (0 ≤ (ji18)) = true := decide_eq_true c19
                          clear c19
                          obtain ⟨ji20, hji20⟩ : ∃ j_ : Int, (shl .i8 a1 (ji18)) = j_ := ⟨_, rfl⟩
                          replace H : (some (wrap64 (ji20), 0)) = some (r1, r2) := by first | (rw [hji20] at H; exact H) | (simp only [hji20] at H ⊢; exact H)
                          have hji20_ : (IntKind.i8.wrap (a1 * 2 ^ min (ji18).toNat 8)) = ji20 := hji20
                          have hji20z : (ji18) ≤ 8 → (IntKind.i8.wrap (a1 * 2 ^ (ji18).toNat)) = ji20 := shl_small hji20
                          simp only [Option.some.injEq, Prod.mk.injEq] at H
                          obtain ⟨rfl, rfl⟩ := H
                          go_wp2
                          go_ret2
                          exact ⟨by first | rfl | (simp; done) | (simp only [← hji18, ← hji20] <;> (first | rfl | simp)) | (simp [*]; done), by repeat (first | exact Drawn0.refl _ | apply Drawn0.step)⟩
                        · rw [if_neg c19] at H
                          exact absurd H (by simp)
                    · rw [if_neg c16] at H
                      have c16b0 : (a0 == 19) = false := beq_eq_false_iff_ne.mpr c16
                      have c16b1 : (a0 != 19) = true := bne_iff_ne.mpr c16
                      by_cases c21 : a0 = 20
                      · rw [if_pos c21] at H
                        have c21b0 : (a0 == 20) = true := beq_iff_eq.mpr c21
                        have c21b1 : (a0 != 20) = false := bne_eq_false_iff_eq.mpr c21
                        clear c21
                        by_cases c22 : a3 = 0
                        · rw [if_pos c22] at H
                          exact absurd H (by simp)
                        · rw [if_neg c22] at H
                          have c22b0 : (a3 == 0) = false := beq_eq_false_iff_ne.mpr c22
                          have c22b1 : (a3 != 0) = true := bne_iff_ne.mpr c22
                          obtain ⟨ji23, hji23⟩ : ∃ j_ : Int, (Int.tmod (IntKind.u64.wrap (a2)) a3) = j_ := ⟨_, rfl⟩
                          replace H : (if 0 ≤ (ji23) then (some (wrap64 (shr .i8 a1 (ji23)), 0)) else (none)) = some (r1, r2) := by first | (rw [hji23] at H; exact H) | (simp only [hji23] at H ⊢; exact H)
                          by_cases c24 : 0 ≤ (ji23)
                          · rw [if_pos c24] at H
                            have c24b0 := eq_true c24
                            have c24b1 : decide (0 ≤ (ji23)) = true := decide_eq_true c24
                            clear c24
                            obtain ⟨ji25, hji25⟩ : ∃ j_ : Int, (shr .i8 a1 (ji23)) = j_ := ⟨_, rfl⟩
                            replace H : (some (wrap64 (ji25), 0)) = some (r1, r2) := by first | (rw [hji25] at H; exact H) | (simp only [hji25] at H ⊢; exact H)
                            have hji25_ : (a1 / 2 ^ min (ji23).toNat 8) = ji25 := hji25
                            have hji25z : (ji23) ≤ 8 → (a1 / 2 ^ (ji23).toNat) = ji25 := shr_small hji25
                            simp only [Option.some.injEq, Prod.mk.injEq] at H
                            obtain ⟨rfl, rfl⟩ := H
                            go_wp2
                            go_ret2
                            exact ⟨by first | rfl | (simp; done) | (simp only [← hji23, ← hji25] <;> (first | rfl | simp)) | (simp [*]; done), by repeat (first | exact Drawn0.refl _ | apply Drawn0.step)⟩
                          · rw [if_neg c24] at H
                            exact absurd H (by simp)
                      · rw [if_neg c21] at H
                        have c21b0 : (a0 == 20) = false := beq_eq_false_iff_ne.mpr c21
                        have c21b1 : (a0 != 20) = true := bne_iff_ne.mpr c21
                        simp only [Option.some.injEq, Prod.mk.injEq] at H
                        obtain ⟨rfl, rfl⟩ := H
                        go_wp2
                        go_ret2
                        exact ⟨by first | rfl | (simp; done) | (simp [*]; done), by repeat (first | exact Drawn0.refl _ | apply Drawn0.step)⟩

/-! ### word_two_int32: function 28 -/
def word_two_int32.j0 : Nat → Int → Int → Int → Int → Int → Bool → Option (Int × Int)
  | 0, _, _, _, _, _, _ => none
  | k + 1, x0, x1, x2, x3, x10, x11 => if x11 = true then (if x2 = 0 then (some (0, 1)) else (if x0 = 14 then (some (wrap64 (wrap32 (Int.tdiv x1 x2)), 0)) else (some (wrap64 (Int.tmod x1 x2), 0)))) else (if x10 = 12 then (some (wrap64 (wrap32 (x1 + (wrap32 (-x2)))), 0)) else (if x10 = 11 then (some (wrap64 (wrap32 (x1 + x2)), 0)) else (if x10 = 13 then (some (wrap64 (wrap32 (x1 * x2)), 0)) else (if x10 = 16 then (some (wrap64 (Go.bits .and .i32 x1 x2), 0)) else (if x10 = 17 then (some (wrap64 (Go.bits .or .i32 x1 x2), 0)) else (if x10 = 18 then (some (wrap64 (Go.bits .xor .i32 x1 x2), 0)) else (if x10 = 19 then (if x3 = 0 then (none) else (if 0 ≤ (Int.tmod (IntKind.u64.wrap (x2)) x3) then (some (wrap64 (shl .i32 x1 (Int.tmod (IntKind.u64.wrap (x2)) x3)), 0)) else (none))) else (if x10 = 20 then (if x3 = 0 then (none) else (if 0 ≤ (Int.tmod (IntKind.u64.wrap (x2)) x3) then (some (wrap64 (shr .i32 x1 (Int.tmod (IntKind.u64.wrap (x2)) x3)), 0)) else (none))) else (some (0, 0))))))))))
def word_two_int32.f (k : Nat) (a0 : Int) (a1 : Int) (a2 : Int) (a3 : Int) : Option (Int × Int) := if a0 = 14 then (word_two_int32.j0 k a0 a1 a2 a3 a0 (a0 == 14)) else (word_two_int32.j0 k a0 a1 a2 a3 a0 (a0 == 15))
theorem word_two_int32.mono_l : ∀ k, (∀ y0 y1 y2 y3 y4 y5, LeO (word_two_int32.j0 k y0 y1 y2 y3 y4 y5) (word_two_int32.j0 (k + 1) y0 y1 y2 y3 y4 y5))
  | 0 => fun _ _ _ _ _ _ r h => by simp [word_two_int32.j0] at h
  | k + 1 => by
    have ih0 := word_two_int32.mono_l k
    · intro y0 y1 y2 y3 y4 y5
      unfold word_two_int32.j0
      repeat' first
      | (with_reducible exact ih0 _ _ _ _ _ _)
      | (with_reducible exact LeO.refl _)
      | (with_reducible exact LeO.none _)
      | (with_reducible refine LeO.ite ?_ ?_)
      | (with_reducible refine LeO.bind ?_ (fun _ => ?_))
      | exact ih0 _ _ _ _ _ _
      | exact LeO.none _
      | refine LeO.ite ?_ ?_
      | refine LeO.bind ?_ (fun _ => ?_)
theorem word_two_int32.mono : ∀ a0 a1 a2 a3 k, LeO (word_two_int32.f k a0 a1 a2 a3) (word_two_int32.f (k + 1) a0 a1 a2 a3) := by
  intro a0 a1 a2 a3 k
  have ih0 := word_two_int32.mono_l k
  unfold word_two_int32.f
  repeat' first
      | (with_reducible exact ih0 _ _ _ _ _ _)
      | (with_reducible exact LeO.refl _)
      | (with_reducible exact LeO.none _)
      | (with_reducible refine LeO.ite ?_ ?_)
      | (with_reducible refine LeO.bind ?_ (fun _ => ?_))
      | exact ih0 _ _ _ _ _ _
      | exact LeO.none _
      | refine LeO.ite ?_ ?_
      | refine LeO.bind ?_ (fun _ => ?_)
set_option maxHeartbeats 8000000 in
set_option maxRecDepth 100000 in
theorem word_two_int32.calls (k : Nat) (a0 : Int) (a1 : Int) (a2 : Int) (a3 : Int) (r1 : Int) (r2 : Int) (w : World) (h : word_two_int32.f k a0 a1 a2 a3 = some (r1, r2)) :
    Calls Try.prog 28 #[.int .u8 a0, .int .i32 a1, .int .i32 a2, .int .u64 a3] w fun e w' => e = .returned (.tuple #[.int .i64 r1, .int .i64 r2]) ∧ Drawn0 w w' := by
  have H : (if a0 = 14 then (word_two_int32.j0 k a0 a1 a2 a3 a0 (a0 == 14)) else (word_two_int32.j0 k a0 a1 a2 a3 a0 (a0 == 15))) = some (r1, r2) := h
  clear h
  have HC5 := Aside0.mk H
  clear H
  go_enter Try.func28, Try.ntmps28
  go_upto_if 11 with (fail)
  go_cut [11] (fun v11 wc => ∃ (kq : Nat) (x11_4 : Bool), v11 = .bool x11_4 ∧ Aside0 (word_two_int32.j0 kq a0 a1 a2 a3 a0 x11_4 = some (r1, r2)) ∧ Aside0 (kq ≤ k) ∧ Drawn0 w wc)
  case first =>
    have H := HC5.out
    clear HC5
    by_cases c6 : a0 = 14
    · rw [if_pos c6] at H
      have c6b0 : (a0 == 14) = true := beq_iff_eq.mpr c6
      have c6b1 : (a0 != 14) = false := bne_eq_false_iff_eq.mpr c6
      clear c6
      (first | rw [c6b0] | (simp only [i64_w, i32_w]; rw [c6b0]) | skip)
      have H' := Aside0.mk H
      clear H
      go_wp2
      go_meet
      case rel => exact ⟨_, ((a0 == 14)), (by first | rfl | (simp; done) | (simp [*]; done)), H', ⟨by first | omega | exact Nat.le_refl _⟩, by repeat (first | exact Drawn0.refl _ | apply Drawn0.step)⟩
    · rw [if_neg c6] at H
      have c6b0 : (a0 == 14) = false := beq_eq_false_iff_ne.mpr c6
      have c6b1 : (a0 != 14) = true := bne_iff_ne.mpr c6
      (first | rw [c6b0] | (simp only [i64_w, i32_w]; rw [c6b0]) | skip)
      have H' := Aside0.mk H
      clear H
      go_wp2
      go_meet
      case rel => exact ⟨_, ((a0 == 15)), (by first | rfl | (simp; done) | (simp [*]; done)), H', ⟨by first | omega | exact Nat.le_refl _⟩, by repeat (first | exact Drawn0.refl _ | apply Drawn0.step)⟩
  case rest =>
    clear HC5
    try clear c2
    try clear p2
    try clear c6
    try clear c6b0
    try clear c6b1
    obtain ⟨kq, x11_4, rfl, HA, HJ4, ⟨mc4, rfl⟩⟩ := hcut
    cases kq with
    | zero => exact absurd HA.out (by simp [word_two_int32.j0])
    | succ kj4 =>
      have H := HA.out
      clear HA
      simp only [word_two_int32.j0] at H
      by_cases c7 : x11_4 = true
      · subst c7
        have H1 : (if a2 = 0 then (some (0, 1)) else (if a0 = 14 then (some (wrap64 (wrap32 (Int.tdiv a1 a2)), 0)) else (some (wrap64 (Int.tmod a1 a2), 0)))) = some (r1, r2) := by rw [if_pos rfl] at H; exact H
        clear H
        have H := H1
        clear H1
        by_cases c8 : a2 = 0
        · rw [if_pos c8] at H
          have c8b0 : (a2 == 0) = true := beq_iff_eq.mpr c8
          have c8b1 : (a2 != 0) = false := bne_eq_false_iff_eq.mpr c8
          clear c8
          simp only [Option.some.injEq, Prod.mk.injEq] at H
          obtain ⟨rfl, rfl⟩ := H
          go_wp2
          go_ret2
          exact ⟨by first | rfl | (simp; done) | (simp [*]; done), by repeat (first | exact Drawn0.refl _ | apply Drawn0.step)⟩
        · rw [if_neg c8] at H
          have c8b0 : (a2 == 0) = false := beq_eq_false_iff_ne.mpr c8
          have c8b1 : (a2 != 0) = true := bne_iff_ne.mpr c8
          by_cases c9 : a0 = 14
          · rw [if_pos c9] at H
            have c9b0 : (a0 == 14) = true := beq_iff_eq.mpr c9
            have c9b1 : (a0 != 14) = false := bne_eq_false_iff_eq.mpr c9
            clear c9
            simp only [Option.some.injEq, Prod.mk.injEq] at H
            obtain ⟨rfl, rfl⟩ := H
            go_wp2
            go_ret2
            exact ⟨by first | rfl | (simp; done) | (simp [*]; done), by repeat (first | exact Drawn0.refl _ | apply Drawn0.step)⟩
          · rw [if_neg c9] at H
            have c9b0 : (a0 == 14) = false := beq_eq_false_iff_ne.mpr c9
            have c9b1 : (a0 != 14) = true := bne_iff_ne.mpr c9
            simp only [Option.some.injEq, Prod.mk.injEq] at H
            obtain ⟨rfl, rfl⟩ := H
            go_wp2
            go_ret2
            exact ⟨by first | rfl | (simp; done) | (simp [*]; done), by repeat (first | exact Drawn0.refl _ | apply Drawn0.step)⟩
      · replace c7 := Bool.eq_false_iff.mpr c7
        subst c7
        have H1 : (if a0 = 12 then (some (wrap64 (wrap32 (a1 + (wrap32 (-a2)))), 0)) else (if a0 = 11 then (some (wrap64 (wrap32 (a1 + a2)), 0)) else (if a0 = 13 then (some (wrap64 (wrap32 (a1 * a2)), 0)) else (if a0 = 16 then (some (wrap64 (Go.bits .and .i32 a1 a2), 0)) else (if a0 = 17 then (some (wrap64 (Go.bits .or .i32 a1 a2), 0)) else (if a0 = 18 then (some (wrap64 (Go.bits .xor .i32 a1 a2), 0)) else (if a0 = 19 then (if a3 = 0 then (none) else (if 0 ≤ (Int.tmod (IntKind.u64.wrap (a2)) a3) then (some (wrap64 (shl .i32 a1 (Int.tmod (IntKind.u64.wrap (a2)) a3)), 0)) else (none))) else (if a0 = 20 then (if a3 = 0 then (none) else (if 0 ≤ (Int.tmod (IntKind.u64.wrap (a2)) a3) then (some (wrap64 (shr .i32 a1 (Int.tmod (IntKind.u64.wrap (a2)) a3)), 0)) else (none))) else (some (0, 0)))))))))) = some (r1, r2) := by rw [if_neg (show ¬ (false = true) by decide)] at H; exact H
        clear H
        have H := H1
        clear H1
        by_cases c10 : a0 = 12
        · rw [if_pos c10] at H
          have c10b0 : (a0 == 12) = true := beq_iff_eq.mpr c10
          have c10b1 : (a0 != 12) = false := bne_eq_false_iff_eq.mpr c10
          clear c10
          simp only [Option.some.injEq, Prod.mk.injEq] at H
          obtain ⟨rfl, rfl⟩ := H
          go_wp2
          go_ret2
          exact ⟨by first | rfl | (simp; done) | (simp [*]; done), by repeat (first | exact Drawn0.refl _ | apply Drawn0.step)⟩
        · rw [if_neg c10] at H
          have c10b0 : (a0 == 12) = false := beq_eq_false_iff_ne.mpr c10
          have c10b1 : (a0 != 12) = true := bne_iff_ne.mpr c10
          by_cases c11 : a0 = 11
          · rw [if_pos c11] at H
            have c11b0 : (a0 == 11) = true := beq_iff_eq.mpr c11
            have c11b1 : (a0 != 11) = false := bne_eq_false_iff_eq.mpr c11
            clear c11
            simp only [Option.some.injEq, Prod.mk.injEq] at H
            obtain ⟨rfl, rfl⟩ := H
            go_wp2
            go_ret2
            exact ⟨by first | rfl | (simp; done) | (simp [*]; done), by repeat (first | exact Drawn0.refl _ | apply Drawn0.step)⟩
          · rw [if_neg c11] at H
            have c11b0 : (a0 == 11) = false := beq_eq_false_iff_ne.mpr c11
            have c11b1 : (a0 != 11) = true := bne_iff_ne.mpr c11
            by_cases c12 : a0 = 13
            · rw [if_pos c12] at H
              have c12b0 : (a0 == 13) = true := beq_iff_eq.mpr c12
              have c12b1 : (a0 != 13) = false := bne_eq_false_iff_eq.mpr c12
              clear c12
              simp only [Option.some.injEq, Prod.mk.injEq] at H
              obtain ⟨rfl, rfl⟩ := H
              go_wp2
              go_ret2
              exact ⟨by first | rfl | (simp; done) | (simp [*]; done), by repeat (first | exact Drawn0.refl _ | apply Drawn0.step)⟩
            · rw [if_neg c12] at H
              have c12b0 : (a0 == 13) = false := beq_eq_false_iff_ne.mpr c12
              have c12b1 : (a0 != 13) = true := bne_iff_ne.mpr c12
              by_cases c13 : a0 = 16
              · rw [if_pos c13] at H
                have c13b0 : (a0 == 16) = true := beq_iff_eq.mpr c13
                have c13b1 : (a0 != 16) = false := bne_eq_false_iff_eq.mpr c13
                clear c13
                simp only [Option.some.injEq, Prod.mk.injEq] at H
                obtain ⟨rfl, rfl⟩ := H
                go_wp2
                go_ret2
                exact ⟨by first | rfl | (simp; done) | (simp [*]; done), by repeat (first | exact Drawn0.refl _ | apply Drawn0.step)⟩
              · rw [if_neg c13] at H
                have c13b0 : (a0 == 16) = false := beq_eq_false_iff_ne.mpr c13
                have c13b1 : (a0 != 16) = true := bne_iff_ne.mpr c13
                by_cases c14 : a0 = 17
                · rw [if_pos c14] at H
                  have c14b0 : (a0 == 17) = true := beq_iff_eq.mpr c14
                  have c14b1 : (a0 != 17) = false := bne_eq_false_iff_eq.mpr c14
                  clear c14
                  simp only [Option.some.injEq, Prod.mk.injEq] at H
                  obtain ⟨rfl, rfl⟩ := H
                  go_wp2
                  go_ret2
                  exact ⟨by first | rfl | (simp; done) | (simp [*]; done), by repeat (first | exact Drawn0.refl _ | apply Drawn0.step)⟩
                · rw [if_neg c14] at H
                  have c14b0 : (a0 == 17) = false := beq_eq_false_iff_ne.mpr c14
                  have c14b1 : (a0 != 17) = true := bne_iff_ne.mpr c14
                  by_cases c15 : a0 = 18
                  · rw [if_pos c15] at H
                    have c15b0 : (a0 == 18) = true := beq_iff_eq.mpr c15
                    have c15b1 : (a0 != 18) = false := bne_eq_false_iff_eq.mpr c15
                    clear c15
                    simp only [Option.some.injEq, Prod.mk.injEq] at H
                    obtain ⟨rfl, rfl⟩ := H
                    go_wp2
                    go_ret2
                    exact ⟨by first | rfl | (simp; done) | (simp [*]; done), by repeat (first | exact Drawn0.refl _ | apply Drawn0.step)⟩
                  · rw [if_neg c15] at H
                    have c15b0 : (a0 == 18) = false := beq_eq_false_iff_ne.mpr c15
                    have c15b1 : (a0 != 18) = true := bne_iff_ne.mpr c15
                    by_cases c16 : a0 = 19
                    · rw [if_pos c16] at H
                      have c16b0 : (a0 == 19) = true := beq_iff_eq.mpr c16
                      have c16b1 : (a0 != 19) = false := bne_eq_false_iff_eq.mpr c16
                      clear c16
                      by_cases c17 : a3 = 0
                      · rw [if_pos c17] at H
                        exact absurd H (by simp)
                      · rw [if_neg c17] at H
                        have c17b0 : (a3 == 0) = false := beq_eq_false_iff_ne.mpr c17
                        have c17b1 : (a3 != 0) = true := bne_iff_ne.mpr c17
                        obtain ⟨ji18, hji18⟩ : ∃ j_ : Int, (Int.tmod (IntKind.u64.wrap (a2)) a3) = j_ := ⟨_, rfl⟩
                        replace H : (if 0 ≤ (ji18) then (some (wrap64 (shl .i32 a1 (ji18)), 0)) else (none)) = some (r1, r2) := by first | (rw [hji18] at H; exact H) | (simp only [hji18] at H ⊢; exact H)
                        by_cases c19 : 0 ≤ (ji18)
                        · rw [if_pos c19] at H
                          have c19b0 := eq_true c19
                          have c19b1 : decide (0 ≤ (ji18)) = true := decide_eq_true c19
                          clear c19
                          obtain ⟨ji20, hji20⟩ : ∃ j_ : Int, (shl .i32 a1 (ji18)) = j_ := ⟨_, rfl⟩
                          replace H : (some (wrap64 (ji20), 0)) = some (r1, r2) := by first | (rw [hji20] at H; exact H) | (simp only [hji20] at H ⊢; exact H)
                          have hji20_ : (IntKind.i32.wrap (a1 * 2 ^ min (ji18).toNat 32)) = ji20 := hji20
                          have hji20z : (ji18) ≤ 32 → (IntKind.i32.wrap (a1 * 2 ^ (ji18).toNat)) = ji20 := shl_small hji20
                          have hji20y : (wrap32 (a1 * 2 ^ min (ji18).toNat 32)) = ji20 := (i32_w _).symm.trans hji20_
                          have hji20x : (ji18) ≤ 32 → (wrap32 (a1 * 2 ^ (ji18).toNat)) = ji20 := fun h_ => (i32_w _).symm.trans (hji20z h_)
                          simp only [Option.some.injEq, Prod.mk.injEq] at H
                          obtain ⟨rfl, rfl⟩ := H
                          go_wp2
                          go_ret2
                          exact ⟨by first | rfl | (simp; done) | (simp only [← hji18, ← hji20] <;> (first | rfl | simp)) | (simp [*]; done), by repeat (first | exact Drawn0.refl _ | apply Drawn0.step)⟩
                        · rw [if_neg c19] at H
                          exact absurd H (by simp)
                    · rw [if_neg c16] at H
                      have c16b0 : (a0 == 19) = false := beq_eq_false_iff_ne.mpr c16
                      have c16b1 : (a0 != 19) = true := bne_iff_ne.mpr c16
                      by_cases c21 : a0 = 20
                      · rw [if_pos c21] at H
                        have c21b0 : (a0 == 20) = true := beq_iff_eq.mpr c21
                        have c21b1 : (a0 != 20) = false := bne_eq_false_iff_eq.mpr c21
                        clear c21
                        by_cases c22 : a3 = 0
                        · rw [if_pos c22] at H
                          exact absurd H (by simp)
                        · rw [if_neg c22] at H
                          have c22b0 : (a3 == 0) = false := beq_eq_false_iff_ne.mpr c22
                          have c22b1 : (a3 != 0) = true := bne_iff_ne.mpr c22
                          obtain ⟨ji23, hji23⟩ : ∃ j_ : Int, (Int.tmod (IntKind.u64.wrap (a2)) a3) = j_ := ⟨_, rfl⟩
                          replace H : (if 0 ≤ (ji23) then (some (wrap64 (shr .i32 a1 (ji23)), 0)) else (none)) = some (r1, r2) := by first | (rw [hji23] at H; exact H) | (simp only [hji23] at H ⊢; exact H)
                          by_cases c24 : 0 ≤ (ji23)
                          · rw [if_pos c24] at H
                            have c24b0 := eq_true c24
                            have c24b1 : decide (0 ≤ (ji23)) = true := decide_eq_true c24
                            clear c24
                            obtain ⟨ji25, hji25⟩ : ∃ j_ : Int, (shr .i32 a1 (ji23)) = j_ := ⟨_, rfl⟩
                            replace H : (some (wrap64 (ji25), 0)) = some (r1, r2) := by first | (rw [hji25] at H; exact H) | (simp only [hji25] at H ⊢; exact H)
                            have hji25_ : (a1 / 2 ^ min (ji23).toNat 32) = ji25 := hji25
                            have hji25z : (ji23) ≤ 32 → (a1 / 2 ^ (ji23).toNat) = ji25 := shr_small hji25
                            simp only [Option.some.injEq, Prod.mk.injEq] at H
                            obtain ⟨rfl, rfl⟩ := H
                            go_wp2
                            go_ret2
                            exact ⟨by first | rfl | (simp; done) | (simp only [← hji23, ← hji25] <;> (first | rfl | simp)) | (simp [*]; done), by repeat (first | exact Drawn0.refl _ | apply Drawn0.step)⟩
                          · rw [if_neg c24] at H
                            exact absurd H (by simp)
                      · rw [if_neg c21] at H
                        have c21b0 : (a0 == 20) = false := beq_eq_false_iff_ne.mpr c21
                        have c21b1 : (a0 != 20) = true := bne_iff_ne.mpr c21
                        simp only [Option.some.injEq, Prod.mk.injEq] at H
                        obtain ⟨rfl, rfl⟩ := H
                        go_wp2
                        go_ret2
                        exact ⟨by first | rfl | (simp; done) | (simp [*]; done), by repeat (first | exact Drawn0.refl _ | apply Drawn0.step)⟩

end Go.Proofs.Ytgomkbdemakndaa.PWordReckons
