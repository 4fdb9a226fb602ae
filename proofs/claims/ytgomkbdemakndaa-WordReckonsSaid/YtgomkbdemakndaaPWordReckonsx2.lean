/- Written by a program of this session's: functions that the law reaches, their walks, the row; no conditions beyond the statement's own. -/
import Derived.Test.YtgomkbdemakndaaPWordReckonsx0
import Derived.Test.YtgomkbdemakndaaPWordReckonsx1
namespace Go.Proofs.Ytgomkbdemakndaa.PWordReckons
open Go.RowKit Go.Proofs.YtgomkbdemakndaaW.PrintWords Go.Proofs.YtgomkbdemakndaaW.PrintLast Go.Proofs.YtgomkbdemakndaaW.PrintMore
attribute [local go_sem] max2_int min2_int max_two min_two max_three min_three max_four min_four   -- for this text's walks alone
set_option linter.unusedVariables false
set_option linter.unusedSimpArgs false

/-! ### word_two_int64: function 29 -/
def word_two_int64.j0 : Nat → Int → Int → Int → Int → Int → Bool → Option (Int × Int)
  | 0, _, _, _, _, _, _ => none
  | k + 1, x0, x1, x2, x3, x10, x11 => if x11 = true then (if x2 = 0 then (some (0, 1)) else (if x0 = 14 then (some (wrap64 (Int.tdiv x1 x2), 0)) else (some (Int.tmod x1 x2, 0)))) else (if x10 = 12 then (some (wrap64 (x1 + (wrap64 (-x2))), 0)) else (if x10 = 11 then (some (wrap64 (x1 + x2), 0)) else (if x10 = 13 then (some (wrap64 (x1 * x2), 0)) else (if x10 = 16 then (some (Go.bits .and .i64 x1 x2, 0)) else (if x10 = 17 then (some (Go.bits .or .i64 x1 x2, 0)) else (if x10 = 18 then (some (Go.bits .xor .i64 x1 x2, 0)) else (if x10 = 19 then (if x3 = 0 then (none) else (if 0 ≤ (Int.tmod (IntKind.u64.wrap (x2)) x3) then (some (shl .i64 x1 (Int.tmod (IntKind.u64.wrap (x2)) x3), 0)) else (none))) else (if x10 = 20 then (if x3 = 0 then (none) else (if 0 ≤ (Int.tmod (IntKind.u64.wrap (x2)) x3) then (some (shr .i64 x1 (Int.tmod (IntKind.u64.wrap (x2)) x3), 0)) else (none))) else (some (0, 0))))))))))
def word_two_int64.f (k : Nat) (a0 : Int) (a1 : Int) (a2 : Int) (a3 : Int) : Option (Int × Int) := if a0 = 14 then (word_two_int64.j0 k a0 a1 a2 a3 a0 (a0 == 14)) else (word_two_int64.j0 k a0 a1 a2 a3 a0 (a0 == 15))
theorem word_two_int64.mono_l : ∀ k, (∀ y0 y1 y2 y3 y4 y5, LeO (word_two_int64.j0 k y0 y1 y2 y3 y4 y5) (word_two_int64.j0 (k + 1) y0 y1 y2 y3 y4 y5))
  | 0 => fun _ _ _ _ _ _ r h => by simp [word_two_int64.j0] at h
  | k + 1 => by
    have ih0 := word_two_int64.mono_l k
    · intro y0 y1 y2 y3 y4 y5
      unfold word_two_int64.j0
      repeat' first
      | (with_reducible exact ih0 _ _ _ _ _ _)
      | (with_reducible exact LeO.refl _)
      | (with_reducible exact LeO.none _)
      | (with_reducible refine LeO.ite ?_ ?_)
      | (with_reducible refine LeO.bind ?_ (fun _ => ?_))
      | exact ih0 _ _ _ _ _ _
      | exact LeO.none _
      | refine LeO.ite ?_ ?_
      | refine LeO.bind ?_ (fun _ => ?_)
theorem word_two_int64.mono : ∀ a0 a1 a2 a3 k, LeO (word_two_int64.f k a0 a1 a2 a3) (word_two_int64.f (k + 1) a0 a1 a2 a3) := by
  intro a0 a1 a2 a3 k
  have ih0 := word_two_int64.mono_l k
  unfold word_two_int64.f
  repeat' first
      | (with_reducible exact ih0 _ _ _ _ _ _)
      | (with_reducible exact LeO.refl _)
      | (with_reducible exact LeO.none _)
      | (with_reducible refine LeO.ite ?_ ?_)
      | (with_reducible refine LeO.bind ?_ (fun _ => ?_))
      | exact ih0 _ _ _ _ _ _
      | exact LeO.none _
      | refine LeO.ite ?_ ?_
      | refine LeO.bind ?_ (fun _ => ?_)
set_option maxHeartbeats 8000000 in
set_option maxRecDepth 100000 in
theorem word_two_int64.calls (k : Nat) (a0 : Int) (a1 : Int) (a2 : Int) (a3 : Int) (r1 : Int) (r2 : Int) (w : World) (h : word_two_int64.f k a0 a1 a2 a3 = some (r1, r2)) :
    Calls Try.prog 29 #[.int .u8 a0, .int .i64 a1, .int .i64 a2, .int .u64 a3] w fun e w' => e = .returned (.tuple #[.int .i64 r1, .int .i64 r2]) ∧ Drawn0 w w' := by
  have H : (if a0 = 14 then (word_two_int64.j0 k a0 a1 a2 a3 a0 (a0 == 14)) else (word_two_int64.j0 k a0 a1 a2 a3 a0 (a0 == 15))) = some (r1, r2) := h
  clear h
  have HC5 := Aside0.mk H
  clear H
  go_enter Try.func29, Try.ntmps29
  go_upto_if 11 with (fail)
  go_cut [11] (fun v11 wc => ∃ (kq : Nat) (x11_4 : Bool), v11 = .bool x11_4 ∧ Aside0 (word_two_int64.j0 kq a0 a1 a2 a3 a0 x11_4 = some (r1, r2)) ∧ Aside0 (kq ≤ k) ∧ Drawn0 w wc)
  case first =>
    have H := HC5.out
    clear HC5
    by_cases c6 : a0 = 14
    · rw [if_pos c6] at H
      have c6b0 : (a0 == 14) = true := beq_iff_eq.mpr c6
      have c6b1 : (a0 != 14) = false := bne_eq_false_iff_eq.mpr c6
      clear c6
      (first | rw [c6b0] | (simp only [i64_w, i32_w]; rw [c6b0]) | skip)
      have H' := Aside0.mk H
      clear H
      go_wp2
      go_meet
      case rel => exact ⟨_, ((a0 == 14)), (by first | rfl | (simp; done) | (simp [*]; done)), H', ⟨by first | omega | exact Nat.le_refl _⟩, by repeat (first | exact Drawn0.refl _ | apply Drawn0.step)⟩
    · rw [if_neg c6] at H
      have c6b0 : (a0 == 14) = false := beq_eq_false_iff_ne.mpr c6
      have c6b1 : (a0 != 14) = true := bne_iff_ne.mpr c6
      (first | rw [c6b0] | (simp only [i64_w, i32_w]; rw [c6b0]) | skip)
      have H' := Aside0.mk H
      clear H
      go_wp2
      go_meet
      case rel => exact ⟨_, ((a0 == 15)), (by first | rfl | (simp; done) | (simp [*]; done)), H', ⟨by first | omega | exact Nat.le_refl _⟩, by repeat (first | exact Drawn0.refl _ | apply Drawn0.step)⟩
  case rest =>
    clear HC5
    try clear c2
    try clear p2
    try clear c6
    try clear c6b0
    try clear c6b1
    obtain ⟨kq, x11_4, rfl, HA, HJ4, ⟨mc4, rfl⟩⟩ := hcut
    cases kq with
    | zero => exact absurd HA.out (by simp [word_two_int64.j0])
    | succ kj4 =>
      have H := HA.out
      clear HA
      simp only [word_two_int64.j0] at H
      by_cases c7 : x11_4 = true
      · subst c7
        have H1 : (if a2 = 0 then (some (0, 1)) else (if a0 = 14 then (some (wrap64 (Int.tdiv a1 a2), 0)) else (some (Int.tmod a1 a2, 0)))) = some (r1, r2) := by rw [if_pos rfl] at H; exact H
        clear H
        have H := H1
        clear H1
        by_cases c8 : a2 = 0
        · rw [if_pos c8] at H
          have c8b0 : (a2 == 0) = true := beq_iff_eq.mpr c8
          have c8b1 : (a2 != 0) = false := bne_eq_false_iff_eq.mpr c8
          clear c8
          simp only [Option.some.injEq, Prod.mk.injEq] at H
          obtain ⟨rfl, rfl⟩ := H
          go_wp2
          go_ret2
          exact ⟨by first | rfl | (simp; done) | (simp [*]; done), by repeat (first | exact Drawn0.refl _ | apply Drawn0.step)⟩
        · rw [if_neg c8] at H
          have c8b0 : (a2 == 0) = false := beq_eq_false_iff_ne.mpr c8
          have c8b1 : (a2 != 0) = true := bne_iff_ne.mpr c8
          by_cases c9 : a0 = 14
          · rw [if_pos c9] at H
            have c9b0 : (a0 == 14) = true := beq_iff_eq.mpr c9
            have c9b1 : (a0 != 14) = false := bne_eq_false_iff_eq.mpr c9
            clear c9
            simp only [Option.some.injEq, Prod.mk.injEq] at H
            obtain ⟨rfl, rfl⟩ := H
            go_wp2
            go_ret2
            exact ⟨by first | rfl | (simp; done) | (simp [*]; done), by repeat (first | exact Drawn0.refl _ | apply Drawn0.step)⟩
          · rw [if_neg c9] at H
            have c9b0 : (a0 == 14) = false := beq_eq_false_iff_ne.mpr c9
            have c9b1 : (a0 != 14) = true := bne_iff_ne.mpr c9
            simp only [Option.some.injEq, Prod.mk.injEq] at H
            obtain ⟨rfl, rfl⟩ := H
            go_wp2
            go_ret2
            exact ⟨by first | rfl | (simp; done) | (simp [*]; done), by repeat (first | exact Drawn0.refl _ | apply Drawn0.step)⟩
      · replace c7 := Bool.eq_false_iff.mpr c7
        subst c7
        have H1 : (if a0 = 12 then (some (wrap64 (a1 + (wrap64 (-a2))), 0)) else (if a0 = 11 then (some (wrap64 (a1 + a2), 0)) else (if a0 = 13 then (some (wrap64 (a1 * a2), 0)) else (if a0 = 16 then (some (Go.bits .and .i64 a1 a2, 0)) else (if a0 = 17 then (some (Go.bits .or .i64 a1 a2, 0)) else (if a0 = 18 then (some (Go.bits .xor .i64 a1 a2, 0)) else (if a0 = 19 then (if a3 = 0 then (none) else (if 0 ≤ (Int.tmod (IntKind.u64.wrap (a2)) a3) then (some (shl .i64 a1 (Int.tmod (IntKind.u64.wrap (a2)) a3), 0)) else (none))) else (if a0 = 20 then (if a3 = 0 then (none) else (if 0 ≤ (Int.tmod (IntKind.u64.wrap (a2)) a3) then (some (shr .i64 a1 (Int.tmod (IntKind.u64.wrap (a2)) a3), 0)) else (none))) else (some (0, 0)))))))))) = some (r1, r2) := by rw [if_neg (show ¬ (false = true) by decide)] at H; exact H
        clear H
        have H := H1
        clear H1
        by_cases c10 : a0 = 12
        · rw [if_pos c10] at H
          have c10b0 : (a0 == 12) = true := beq_iff_eq.mpr c10
          have c10b1 : (a0 != 12) = false := bne_eq_false_iff_eq.mpr c10
          clear c10
          simp only [Option.some.injEq, Prod.mk.injEq] at H
          obtain ⟨rfl, rfl⟩ := H
          go_wp2
          go_ret2
          exact ⟨by first | rfl | (simp; done) | (simp [*]; done), by repeat (first | exact Drawn0.refl _ | apply Drawn0.step)⟩
        · rw [if_neg c10] at H
          have c10b0 : (a0 == 12) = false := beq_eq_false_iff_ne.mpr c10
          have c10b1 : (a0 != 12) = true := bne_iff_ne.mpr c10
          by_cases c11 : a0 = 11
          · rw [if_pos c11] at H
            have c11b0 : (a0 == 11) = true := beq_iff_eq.mpr c11
            have c11b1 : (a0 != 11) = false := bne_eq_false_iff_eq.mpr c11
            clear c11
            simp only [Option.some.injEq, Prod.mk.injEq] at H
            obtain ⟨rfl, rfl⟩ := H
            go_wp2
            go_ret2
            exact ⟨by first | rfl | (simp; done) | (simp [*]; done), by repeat (first | exact Drawn0.refl _ | apply Drawn0.step)⟩
          · rw [if_neg c11] at H
            have c11b0 : (a0 == 11) = false := beq_eq_false_iff_ne.mpr c11
            have c11b1 : (a0 != 11) = true := bne_iff_ne.mpr c11
            by_cases c12 : a0 = 13
            · rw [if_pos c12] at H
              have c12b0 : (a0 == 13) = true := beq_iff_eq.mpr c12
              have c12b1 : (a0 != 13) = false := bne_eq_false_iff_eq.mpr c12
              clear c12
              simp only [Option.some.injEq, Prod.mk.injEq] at H
              obtain ⟨rfl, rfl⟩ := H
              go_wp2
              go_ret2
              exact ⟨by first | rfl | (simp; done) | (simp [*]; done), by repeat (first | exact Drawn0.refl _ | apply Drawn0.step)⟩
            · rw [if_neg c12] at H
              have c12b0 : (a0 == 13) = false := beq_eq_false_iff_ne.mpr c12
              have c12b1 : (a0 != 13) = true := bne_iff_ne.mpr c12
              by_cases c13 : a0 = 16
              · rw [if_pos c13] at H
                have c13b0 : (a0 == 16) = true := beq_iff_eq.mpr c13
                have c13b1 : (a0 != 16) = false := bne_eq_false_iff_eq.mpr c13
                clear c13
                simp only [Option.some.injEq, Prod.mk.injEq] at H
                obtain ⟨rfl, rfl⟩ := H
                go_wp2
                go_ret2
                exact ⟨by first | rfl | (simp; done) | (simp [*]; done), by repeat (first | exact Drawn0.refl _ | apply Drawn0.step)⟩
              · rw [if_neg c13] at H
                have c13b0 : (a0 == 16) = false := beq_eq_false_iff_ne.mpr c13
                have c13b1 : (a0 != 16) = true := bne_iff_ne.mpr c13
                by_cases c14 : a0 = 17
                · rw [if_pos c14] at H
                  have c14b0 : (a0 == 17) = true := beq_iff_eq.mpr c14
                  have c14b1 : (a0 != 17) = false := bne_eq_false_iff_eq.mpr c14
                  clear c14
                  simp only [Option.some.injEq, Prod.mk.injEq] at H
                  obtain ⟨rfl, rfl⟩ := H
                  go_wp2
                  go_ret2
                  exact ⟨by first | rfl | (simp; done) | (simp [*]; done), by repeat (first | exact Drawn0.refl _ | apply Drawn0.step)⟩
                · rw [if_neg c14] at H
                  have c14b0 : (a0 == 17) = false := beq_eq_false_iff_ne.mpr c14
                  have c14b1 : (a0 != 17) = true := bne_iff_ne.mpr c14
                  by_cases c15 : a0 = 18
                  · rw [if_pos c15] at H
                    have c15b0 : (a0 == 18) = true := beq_iff_eq.mpr c15
                    have c15b1 : (a0 != 18) = false := bne_eq_false_iff_eq.mpr c15
                    clear c15
                    simp only [Option.some.injEq, Prod.mk.injEq] at H
                    obtain ⟨rfl, rfl⟩ := H
                    go_wp2
                    go_ret2
                    exact ⟨by first | rfl | (simp; done) | (simp [*]; done), by repeat (first | exact Drawn0.refl _ | apply Drawn0.step)⟩
                  · rw [if_neg c15] at H
                    have c15b0 : (a0 == 18) = false := beq_eq_false_iff_ne.mpr c15
                    have c15b1 : (a0 != 18) = true := bne_iff_ne.mpr c15
                    by_cases c16 : a0 = 19
                    · rw [if_pos c16] at H
                      have c16b0 : (a0 == 19) = true := beq_iff_eq.mpr c16
                      have c16b1 : (a0 != 19) = false := bne_eq_false_iff_eq.mpr c16
                      clear c16
                      by_cases c17 : a3 = 0
                      · rw [if_pos c17] at H
                        exact absurd H (by simp)
                      · rw [if_neg c17] at H
                        have c17b0 : (a3 == 0) = false := beq_eq_false_iff_ne.mpr c17
                        have c17b1 : (a3 != 0) = true := bne_iff_ne.mpr c17
                        obtain ⟨ji18, hji18⟩ : ∃ j_ : Int, (Int.tmod (IntKind.u64.wrap (a2)) a3) = j_ := ⟨_, rfl⟩
                        replace H : (if 0 ≤ (ji18) then (some (shl .i64 a1 (ji18), 0)) else (none)) = some (r1, r2) := by first | (rw [hji18] at H; exact H) | (simp only [hji18] at H ⊢; exact H)
                        by_cases c19 : 0 ≤ (ji18)
                        · rw [if_pos c19] at H
                          have c19b0 := eq_true c19
                          have c19b1 : decide (0 ≤ (ji18)) = true := decide_eq_true c19
                          clear c19
                          obtain ⟨ji20, hji20⟩ : ∃ j_ : Int, (shl .i64 a1 (ji18)) = j_ := ⟨_, rfl⟩
                          replace H : (some (ji20, 0)) = some (r1, r2) := by first | (rw [hji20] at H; exact H) | (simp only [hji20] at H ⊢; exact H)
                          have hji20_ : (IntKind.i64.wrap (a1 * 2 ^ min (ji18).toNat 64)) = ji20 := hji20
                          have hji20z : (ji18) ≤ 64 → (IntKind.i64.wrap (a1 * 2 ^ (ji18).toNat)) = ji20 := shl_small hji20
                          have hji20y : (wrap64 (a1 * 2 ^ min (ji18).toNat 64)) = ji20 := (i64_w _).symm.trans hji20_
                          have hji20x : (ji18) ≤ 64 → (wrap64 (a1 * 2 ^ (ji18).toNat)) = ji20 := fun h_ => (i64_w _).symm.trans (hji20z h_)
                          simp only [Option.some.injEq, Prod.mk.injEq] at H
                          obtain ⟨rfl, rfl⟩ := H
                          go_wp2
                          go_ret2
                          exact ⟨by first | rfl | (simp; done) | (simp only [← hji18, ← hji20] <;> (first | rfl | simp)) | (simp [*]; done), by repeat (first | exact Drawn0.refl _ | apply Drawn0.step)⟩
                        · rw [if_neg c19] at H
                          exact absurd H (by simp)
                    · rw [if_neg c16] at H
                      have c16b0 : (a0 == 19) = false := beq_eq_false_iff_ne.mpr c16
                      have c16b1 : (a0 != 19) = true := bne_iff_ne.mpr c16
                      by_cases c21 : a0 = 20
                      · rw [if_pos c21] at H
                        have c21b0 : (a0 == 20) = true := beq_iff_eq.mpr c21
                        have c21b1 : (a0 != 20) = false := bne_eq_false_iff_eq.mpr c21
                        clear c21
                        by_cases c22 : a3 = 0
                        · rw [if_pos c22] at H
                          exact absurd H (by simp)
                        · rw [if_neg c22] at H
                          have c22b0 : (a3 == 0) = false := beq_eq_false_iff_ne.mpr c22
                          have c22b1 : (a3 != 0) = true := bne_iff_ne.mpr c22
                          obtain ⟨ji23, hji23⟩ : ∃ j_ : Int, (Int.tmod (IntKind.u64.wrap (a2)) a3) = j_ := ⟨_, rfl⟩
                          replace H : (if 0 ≤ (ji23) then (some (shr .i64 a1 (ji23), 0)) else (none)) = some (r1, r2) := by first | (rw [hji23] at H; exact H) | (simp only [hji23] at H ⊢; exact H)
                          by_cases c24 : 0 ≤ (ji23)
                          · rw [if_pos c24] at H
                            have c24b0 := eq_true c24
                            have c24b1 : decide (0 ≤ (ji23)) = true := decide_eq_true c24
                            clear c24
                            obtain ⟨ji25, hji25⟩ : ∃ j_ : Int, (shr .i64 a1 (ji23)) = j_ := ⟨_, rfl⟩
                            replace H : (some (ji25, 0)) = some (r1, r2) := by first | (rw [hji25] at H; exact H) | (simp only [hji25] at H ⊢; exact H)
                            have hji25_ : (a1 / 2 ^ min (ji23).toNat 64) = ji25 := hji25
                            have hji25z : (ji23) ≤ 64 → (a1 / 2 ^ (ji23).toNat) = ji25 := shr_small hji25
                            simp only [Option.some.injEq, Prod.mk.injEq] at H
                            obtain ⟨rfl, rfl⟩ := H
                            go_wp2
                            go_ret2
                            exact ⟨by first | rfl | (simp; done) | (simp only [← hji23, ← hji25] <;> (first | rfl | simp)) | (simp [*]; done), by repeat (first | exact Drawn0.refl _ | apply Drawn0.step)⟩
                          · rw [if_neg c24] at H
                            exact absurd H (by simp)
                      · rw [if_neg c21] at H
                        have c21b0 : (a0 == 20) = false := beq_eq_false_iff_ne.mpr c21
                        have c21b1 : (a0 != 20) = true := bne_iff_ne.mpr c21
                        simp only [Option.some.injEq, Prod.mk.injEq] at H
                        obtain ⟨rfl, rfl⟩ := H
                        go_wp2
                        go_ret2
                        exact ⟨by first | rfl | (simp; done) | (simp [*]; done), by repeat (first | exact Drawn0.refl _ | apply Drawn0.step)⟩

/-! ### word_Two: function 19 -/
def word_Two.f (k : Nat) (a0 : Int) (a1 : Int) (a2 : Int) (a3 : Int) : Option (Int × Int) := if a1 = 1 then ((word_two_int8.f k a0 (IntKind.i8.wrap (a2)) (IntKind.i8.wrap (a3)) 8).bind fun bt103 => (some (bt103.1, bt103.2))) else (if a1 = 2 then ((word_two_int32.f k a0 (wrap32 (a2)) (wrap32 (a3)) 32).bind fun bt105 => (some (bt105.1, bt105.2))) else (if a1 = 3 then ((word_two_int64.f k a0 a2 a3 64).bind fun bt107 => (some (bt107.1, bt107.2))) else (some (0, 0))))
theorem word_Two.mono : ∀ a0 a1 a2 a3 k, LeO (word_Two.f k a0 a1 a2 a3) (word_Two.f (k + 1) a0 a1 a2 a3) := by
  intro a0 a1 a2 a3 k
  unfold word_Two.f
  repeat' first
      | (with_reducible exact word_two_int32.mono _ _ _ _ _)
      | (with_reducible exact word_two_int64.mono _ _ _ _ _)
      | (with_reducible exact word_two_int8.mono _ _ _ _ _)
      | (with_reducible exact LeO.refl _)
      | (with_reducible exact LeO.none _)
      | (with_reducible refine LeO.ite ?_ ?_)
      | (with_reducible refine LeO.bind ?_ (fun _ => ?_))
      | exact word_two_int32.mono _ _ _ _ _
      | exact word_two_int64.mono _ _ _ _ _
      | exact word_two_int8.mono _ _ _ _ _
      | exact LeO.none _
      | refine LeO.ite ?_ ?_
      | refine LeO.bind ?_ (fun _ => ?_)
set_option maxHeartbeats 8000000 in
set_option maxRecDepth 100000 in
theorem word_Two.calls (k : Nat) (a0 : Int) (a1 : Int) (a2 : Int) (a3 : Int) (r1 : Int) (r2 : Int) (w : World) (h : word_Two.f k a0 a1 a2 a3 = some (r1, r2)) :
    Calls Try.prog 19 #[.int .u8 a0, .int .u8 a1, .int .i64 a2, .int .i64 a3] w fun e w' => e = .returned (.tuple #[.int .i64 r1, .int .i64 r2]) ∧ Drawn0 w w' := by
  have H : (if a1 = 1 then ((word_two_int8.f k a0 (IntKind.i8.wrap (a2)) (IntKind.i8.wrap (a3)) 8).bind fun bt103 => (some (bt103.1, bt103.2))) else (if a1 = 2 then ((word_two_int32.f k a0 (wrap32 (a2)) (wrap32 (a3)) 32).bind fun bt105 => (some (bt105.1, bt105.2))) else (if a1 = 3 then ((word_two_int64.f k a0 a2 a3 64).bind fun bt107 => (some (bt107.1, bt107.2))) else (some (0, 0))))) = some (r1, r2) := h
  clear h
  by_cases c5 : a1 = 1
  · rw [if_pos c5] at H
    have c5b0 : (a1 == 1) = true := beq_iff_eq.mpr c5
    have c5b1 : (a1 != 1) = false := bne_eq_false_iff_eq.mpr c5
    clear c5
    replace H := Option.bind_eq_some_iff.mp H
    obtain ⟨⟨t103, t104⟩, A60, H⟩ := H
    replace H : (some (t103, t104)) = some (r1, r2) := H
    have A6 := Aside0.mk A60
    clear A60
    simp only [Option.some.injEq, Prod.mk.injEq] at H
    obtain ⟨rfl, rfl⟩ := H
    go_enter Try.func19, Try.ntmps19
    go_wp2_with (first | ((with_reducible refine gate_callee (f := 27) rfl ?_); refine goesL_ (some 18) rfl rfl Try.func27 (by kernel_rfl) rfl #[.int .u8 a0, .int .i8 (IntKind.i8.wrap (a2)), .int .i8 (IntKind.i8.wrap (a3)), .int .u64 8] rfl (by (try simp only [List.map_toArray, List.map_cons, List.map_nil]); first | done | rfl | (simp only [List.length_drop, List.length_take]; rfl)) ?_; (with_reducible refine (word_two_int8.calls k a0 (IntKind.i8.wrap (a2)) (IntKind.i8.wrap (a3)) 8 t103 t104 _ A6.out).mono ?_); rintro e w' ⟨rfl, ⟨nd, rfl⟩⟩; refine ⟨_, rfl, ?_⟩))
    go_ret2
    exact ⟨by first | rfl | (simp; done) | (simp [*]; done), by repeat (first | exact Drawn0.refl _ | apply Drawn0.step)⟩
  · rw [if_neg c5] at H
    have c5b0 : (a1 == 1) = false := beq_eq_false_iff_ne.mpr c5
    have c5b1 : (a1 != 1) = true := bne_iff_ne.mpr c5
    by_cases c7 : a1 = 2
    · rw [if_pos c7] at H
      have c7b0 : (a1 == 2) = true := beq_iff_eq.mpr c7
      have c7b1 : (a1 != 2) = false := bne_eq_false_iff_eq.mpr c7
      clear c7
      replace H := Option.bind_eq_some_iff.mp H
      obtain ⟨⟨t105, t106⟩, A80, H⟩ := H
      replace H : (some (t105, t106)) = some (r1, r2) := H
      have A8 := Aside0.mk A80
      clear A80
      simp only [Option.some.injEq, Prod.mk.injEq] at H
      obtain ⟨rfl, rfl⟩ := H
      go_enter Try.func19, Try.ntmps19
      go_wp2_with (first | ((with_reducible refine gate_callee (f := 28) rfl ?_); refine goesL_ (some 28) rfl rfl Try.func28 (by kernel_rfl) rfl #[.int .u8 a0, .int .i32 (wrap32 (a2)), .int .i32 (wrap32 (a3)), .int .u64 32] rfl (by (try simp only [List.map_toArray, List.map_cons, List.map_nil]); first | done | rfl | (simp only [List.length_drop, List.length_take]; rfl)) ?_; (with_reducible refine (word_two_int32.calls k a0 (wrap32 (a2)) (wrap32 (a3)) 32 t105 t106 _ A8.out).mono ?_); rintro e w' ⟨rfl, ⟨nd, rfl⟩⟩; refine ⟨_, rfl, ?_⟩))
      go_ret2
      exact ⟨by first | rfl | (simp; done) | (simp [*]; done), by repeat (first | exact Drawn0.refl _ | apply Drawn0.step)⟩
    · rw [if_neg c7] at H
      have c7b0 : (a1 == 2) = false := beq_eq_false_iff_ne.mpr c7
      have c7b1 : (a1 != 2) = true := bne_iff_ne.mpr c7
      by_cases c9 : a1 = 3
      · rw [if_pos c9] at H
        have c9b0 : (a1 == 3) = true := beq_iff_eq.mpr c9
        have c9b1 : (a1 != 3) = false := bne_eq_false_iff_eq.mpr c9
        clear c9
        replace H := Option.bind_eq_some_iff.mp H
        obtain ⟨⟨t107, t108⟩, A100, H⟩ := H
        replace H : (some (t107, t108)) = some (r1, r2) := H
        have A10 := Aside0.mk A100
        clear A100
        simp only [Option.some.injEq, Prod.mk.injEq] at H
        obtain ⟨rfl, rfl⟩ := H
        go_enter Try.func19, Try.ntmps19
        go_wp2_with (first | ((with_reducible refine gate_callee (f := 29) rfl ?_); refine goesL_ (some 36) rfl rfl Try.func29 (by kernel_rfl) rfl #[.int .u8 a0, .int .i64 a2, .int .i64 a3, .int .u64 64] rfl (by (try simp only [List.map_toArray, List.map_cons, List.map_nil]); first | done | rfl | (simp only [List.length_drop, List.length_take]; rfl)) ?_; (with_reducible refine (word_two_int64.calls k a0 a2 a3 64 t107 t108 _ A10.out).mono ?_); rintro e w' ⟨rfl, ⟨nd, rfl⟩⟩; refine ⟨_, rfl, ?_⟩))
        go_ret2
        exact ⟨by first | rfl | (simp; done) | (simp [*]; done), by repeat (first | exact Drawn0.refl _ | apply Drawn0.step)⟩
      · rw [if_neg c9] at H
        have c9b0 : (a1 == 3) = false := beq_eq_false_iff_ne.mpr c9
        have c9b1 : (a1 != 3) = true := bne_iff_ne.mpr c9
        simp only [Option.some.injEq, Prod.mk.injEq] at H
        obtain ⟨rfl, rfl⟩ := H
        go_enter Try.func19, Try.ntmps19
        go_wp2
        go_ret2
        exact ⟨by first | rfl | (simp; done) | (simp [*]; done), by repeat (first | exact Drawn0.refl _ | apply Drawn0.step)⟩

/-! ### trammellaw02_works: function 17 -/
def trammellaw02_works.f (k : Nat)  : Option (Bool) := (word_Two.f k 11 1 100 100).bind fun bt109 => (if bt109.1 = (-56) then (if bt109.2 = 0 then ((word_Fits.f 1 127).bind fun t111 => (if t111 = true then ((word_Fits.f 1 128).bind fun t112 => (some (!t112))) else (some false))) else (some false)) else (some false))
theorem trammellaw02_works.mono : ∀ k, LeO (trammellaw02_works.f k ) (trammellaw02_works.f (k + 1) ) := by
  intro  k
  unfold trammellaw02_works.f
  repeat' first
      | (with_reducible exact word_Two.mono _ _ _ _ _)
      | (with_reducible exact LeO.refl _)
      | (with_reducible exact LeO.none _)
      | (with_reducible refine LeO.ite ?_ ?_)
      | (with_reducible refine LeO.bind ?_ (fun _ => ?_))
      | exact word_Two.mono _ _ _ _ _
      | exact LeO.none _
      | refine LeO.ite ?_ ?_
      | refine LeO.bind ?_ (fun _ => ?_)
set_option maxHeartbeats 8000000 in
set_option maxRecDepth 100000 in
theorem trammellaw02_works.calls (k : Nat)  (r : Bool) (w : World) (h : trammellaw02_works.f k  = some r) :
    Calls Try.prog 17 #[] w fun e w' => e = .returned (.bool r) ∧ Drawn0 w w' := by
  have H : ((word_Two.f k 11 1 100 100).bind fun bt109 => (if bt109.1 = (-56) then (if bt109.2 = 0 then ((word_Fits.f 1 127).bind fun t111 => (if t111 = true then ((word_Fits.f 1 128).bind fun t112 => (some (!t112))) else (some false))) else (some false)) else (some false))) = some r := h
  clear h
  replace H := Option.bind_eq_some_iff.mp H
  obtain ⟨⟨t109, t110⟩, A10, H⟩ := H
  replace H : (if t109 = (-56) then (if t110 = 0 then ((word_Fits.f 1 127).bind fun t111 => (if t111 = true then ((word_Fits.f 1 128).bind fun t112 => (some (!t112))) else (some false))) else (some false)) else (some false)) = some r := H
  have A1 := Aside0.mk A10
  clear A10
  by_cases c2 : t109 = (-56)
  · rw [if_pos c2] at H
    have c2b0 : (t109 == (-56)) = true := beq_iff_eq.mpr c2
    have c2b1 : (t109 != (-56)) = false := bne_eq_false_iff_eq.mpr c2
    clear c2
    by_cases c3 : t110 = 0
    · rw [if_pos c3] at H
      have c3b0 : (t110 == 0) = true := beq_iff_eq.mpr c3
      have c3b1 : (t110 != 0) = false := bne_eq_false_iff_eq.mpr c3
      clear c3
      replace H := Option.bind_eq_some_iff.mp H
      obtain ⟨t111, A40, H⟩ := H
      replace H : (if t111 = true then ((word_Fits.f 1 128).bind fun t112 => (some (!t112))) else (some false)) = some r := H
      have A4 := Aside0.mk A40
      clear A40
      by_cases c5 : t111 = true
      · subst c5
        have H1 : ((word_Fits.f 1 128).bind fun t112 => (some (!t112))) = some r := by rw [if_pos rfl] at H; exact H
        clear H
        have H := H1
        clear H1
        replace H := Option.bind_eq_some_iff.mp H
        obtain ⟨t112, A60, H⟩ := H
        replace H : (some (!t112)) = some r := H
        have A6 := Aside0.mk A60
        clear A60
        obtain rfl := Option.some.inj H
        go_enter Try.func17, Try.ntmps17
        go_wp2_with (first | ((with_reducible refine gate_callee (f := 19) rfl ?_); refine goesL_ (some 4) rfl rfl Try.func19 (by kernel_rfl) rfl #[.int .u8 11, .int .u8 1, .int .i64 100, .int .i64 100] rfl (by (try simp only [List.map_toArray, List.map_cons, List.map_nil]); first | done | rfl | (simp only [List.length_drop, List.length_take]; rfl)) ?_; (with_reducible refine (word_Two.calls k 11 1 100 100 t109 t110 _ A1.out).mono ?_); rintro e w' ⟨rfl, ⟨nd, rfl⟩⟩; refine ⟨_, rfl, ?_⟩) | (go_at_call 13; (with_reducible refine (word_Fits.calls 1 127 true _ A4.out).mono ?_); rintro e w' ⟨rfl, ⟨nd, rfl⟩⟩) | (go_at_call 13; (with_reducible refine (word_Fits.calls 1 128 t112 _ A6.out).mono ?_); rintro e w' ⟨rfl, ⟨nd, rfl⟩⟩))
        go_ret
        exact ⟨by first | rfl | (simp; done) | (simp [*]; done), by repeat (first | exact Drawn0.refl _ | apply Drawn0.step)⟩
      · replace c5 := Bool.eq_false_iff.mpr c5
        subst c5
        have H1 : (some false) = some r := by rw [if_neg (show ¬ (false = true) by decide)] at H; exact H
        clear H
        have H := H1
        clear H1
        obtain rfl := Option.some.inj H
        go_enter Try.func17, Try.ntmps17
        go_wp2_with (first | ((with_reducible refine gate_callee (f := 19) rfl ?_); refine goesL_ (some 4) rfl rfl Try.func19 (by kernel_rfl) rfl #[.int .u8 11, .int .u8 1, .int .i64 100, .int .i64 100] rfl (by (try simp only [List.map_toArray, List.map_cons, List.map_nil]); first | done | rfl | (simp only [List.length_drop, List.length_take]; rfl)) ?_; (with_reducible refine (word_Two.calls k 11 1 100 100 t109 t110 _ A1.out).mono ?_); rintro e w' ⟨rfl, ⟨nd, rfl⟩⟩; refine ⟨_, rfl, ?_⟩) | (go_at_call 13; (with_reducible refine (word_Fits.calls 1 127 false _ A4.out).mono ?_); rintro e w' ⟨rfl, ⟨nd, rfl⟩⟩))
        go_ret
        exact ⟨by first | rfl | (simp; done) | (simp [*]; done), by repeat (first | exact Drawn0.refl _ | apply Drawn0.step)⟩
    · rw [if_neg c3] at H
      have c3b0 : (t110 == 0) = false := beq_eq_false_iff_ne.mpr c3
      have c3b1 : (t110 != 0) = true := bne_iff_ne.mpr c3
      obtain rfl := Option.some.inj H
      go_enter Try.func17, Try.ntmps17
      go_wp2_with (first | ((with_reducible refine gate_callee (f := 19) rfl ?_); refine goesL_ (some 4) rfl rfl Try.func19 (by kernel_rfl) rfl #[.int .u8 11, .int .u8 1, .int .i64 100, .int .i64 100] rfl (by (try simp only [List.map_toArray, List.map_cons, List.map_nil]); first | done | rfl | (simp only [List.length_drop, List.length_take]; rfl)) ?_; (with_reducible refine (word_Two.calls k 11 1 100 100 t109 t110 _ A1.out).mono ?_); rintro e w' ⟨rfl, ⟨nd, rfl⟩⟩; refine ⟨_, rfl, ?_⟩))
      go_ret
      exact ⟨by first | rfl | (simp; done) | (simp [*]; done), by repeat (first | exact Drawn0.refl _ | apply Drawn0.step)⟩
  · rw [if_neg c2] at H
    have c2b0 : (t109 == (-56)) = false := beq_eq_false_iff_ne.mpr c2
    have c2b1 : (t109 != (-56)) = true := bne_iff_ne.mpr c2
    obtain rfl := Option.some.inj H
    go_enter Try.func17, Try.ntmps17
    go_wp2_with (first | ((with_reducible refine gate_callee (f := 19) rfl ?_); refine goesL_ (some 4) rfl rfl Try.func19 (by kernel_rfl) rfl #[.int .u8 11, .int .u8 1, .int .i64 100, .int .i64 100] rfl (by (try simp only [List.map_toArray, List.map_cons, List.map_nil]); first | done | rfl | (simp only [List.length_drop, List.length_take]; rfl)) ?_; (with_reducible refine (word_Two.calls k 11 1 100 100 t109 t110 _ A1.out).mono ?_); rintro e w' ⟨rfl, ⟨nd, rfl⟩⟩; refine ⟨_, rfl, ?_⟩))
    go_ret
    exact ⟨by first | rfl | (simp; done) | (simp [*]; done), by repeat (first | exact Drawn0.refl _ | apply Drawn0.step)⟩

/-! ### word_One: function 21 -/
def word_One.f (a0 : Int) (a1 : Int) (a2 : Int) : Option (Int) := if a0 = 21 then ((word_Wrap.f a1 (wrap64 (-a2))).bind fun t113 => (some t113)) else (if a0 = 22 then ((word_Wrap.f a1 (Go.bits .xor .i64 (-1) a2)).bind fun t114 => (some t114)) else (some 0))
set_option maxHeartbeats 8000000 in
set_option maxRecDepth 100000 in
theorem word_One.calls (a0 : Int) (a1 : Int) (a2 : Int) (r : Int) (w : World) (h : word_One.f a0 a1 a2 = some r) :
    Calls Try.prog 21 #[.int .u8 a0, .int .u8 a1, .int .i64 a2] w fun e w' => e = .returned (.int .i64 r) ∧ Drawn0 w w' := by
  have H : (if a0 = 21 then ((word_Wrap.f a1 (wrap64 (-a2))).bind fun t113 => (some t113)) else (if a0 = 22 then ((word_Wrap.f a1 (Go.bits .xor .i64 (-1) a2)).bind fun t114 => (some t114)) else (some 0))) = some r := h
  clear h
  by_cases c4 : a0 = 21
  · rw [if_pos c4] at H
    have c4b0 : (a0 == 21) = true := beq_iff_eq.mpr c4
    have c4b1 : (a0 != 21) = false := bne_eq_false_iff_eq.mpr c4
    clear c4
    replace H := Option.bind_eq_some_iff.mp H
    obtain ⟨t113, A50, H⟩ := H
    replace H : (some t113) = some r := H
    have A5 := Aside0.mk A50
    clear A50
    obtain rfl := Option.some.inj H
    go_enter Try.func21, Try.ntmps21
    go_wp2_with (first | ((with_reducible refine gate_callee (f := 15) rfl ?_); refine goesL_ (some 13) rfl rfl Try.func15 (by kernel_rfl) rfl #[.int .u8 a1, .int .i64 (wrap64 (-a2))] rfl (by (try simp only [List.map_toArray, List.map_cons, List.map_nil]); first | done | rfl | (simp only [List.length_drop, List.length_take]; rfl)) ?_; (with_reducible refine (word_Wrap.calls a1 (wrap64 (-a2)) t113 _ A5.out).mono ?_); rintro e w' ⟨rfl, ⟨nd, rfl⟩⟩; refine ⟨_, rfl, ?_⟩))
    go_ret
    exact ⟨by first | rfl | (simp; done) | (simp [*]; done), by repeat (first | exact Drawn0.refl _ | apply Drawn0.step)⟩
  · rw [if_neg c4] at H
    have c4b0 : (a0 == 21) = false := beq_eq_false_iff_ne.mpr c4
    have c4b1 : (a0 != 21) = true := bne_iff_ne.mpr c4
    by_cases c6 : a0 = 22
    · rw [if_pos c6] at H
      have c6b0 : (a0 == 22) = true := beq_iff_eq.mpr c6
      have c6b1 : (a0 != 22) = false := bne_eq_false_iff_eq.mpr c6
      clear c6
      replace H := Option.bind_eq_some_iff.mp H
      obtain ⟨t114, A70, H⟩ := H
      replace H : (some t114) = some r := H
      have A7 := Aside0.mk A70
      clear A70
      obtain rfl := Option.some.inj H
      go_enter Try.func21, Try.ntmps21
      go_wp2_with (first | ((with_reducible refine gate_callee (f := 15) rfl ?_); refine goesL_ (some 19) rfl rfl Try.func15 (by kernel_rfl) rfl #[.int .u8 a1, .int .i64 (Go.bits .xor .i64 (-1) a2)] rfl (by (try simp only [List.map_toArray, List.map_cons, List.map_nil]); first | done | rfl | (simp only [List.length_drop, List.length_take]; rfl)) ?_; (with_reducible refine (word_Wrap.calls a1 (Go.bits .xor .i64 (-1) a2) t114 _ A7.out).mono ?_); rintro e w' ⟨rfl, ⟨nd, rfl⟩⟩; refine ⟨_, rfl, ?_⟩))
      go_ret
      exact ⟨by first | rfl | (simp; done) | (simp [*]; done), by repeat (first | exact Drawn0.refl _ | apply Drawn0.step)⟩
    · rw [if_neg c6] at H
      have c6b0 : (a0 == 22) = false := beq_eq_false_iff_ne.mpr c6
      have c6b1 : (a0 != 22) = true := bne_iff_ne.mpr c6
      obtain rfl := Option.some.inj H
      go_enter Try.func21, Try.ntmps21
      go_wp2
      go_ret
      exact ⟨by first | rfl | (simp; done) | (simp [*]; done), by repeat (first | exact Drawn0.refl _ | apply Drawn0.step)⟩

/-! ### word_compare_int8: function 30 -/
def word_compare_int8.f (a0 : Int) (a1 : Int) (a2 : Int) : Option (Bool) := if a0 = 23 then (some (a1 == a2)) else (if a0 = 24 then (some (a1 != a2)) else (if a0 = 25 then (some (decide (a1 < a2))) else (if a0 = 26 then (some (decide (a1 ≤ a2))) else (if a0 = 27 then (some (decide (a1 > a2))) else (if a0 = 28 then (some (decide (a1 ≥ a2))) else (some false))))))
set_option maxHeartbeats 8000000 in
set_option maxRecDepth 100000 in
theorem word_compare_int8.calls (a0 : Int) (a1 : Int) (a2 : Int) (r : Bool) (w : World) (h : word_compare_int8.f a0 a1 a2 = some r) :
    Calls Try.prog 30 #[.int .u8 a0, .int .i8 a1, .int .i8 a2] w fun e w' => e = .returned (.bool r) ∧ Drawn0 w w' := by
  have H : (if a0 = 23 then (some (a1 == a2)) else (if a0 = 24 then (some (a1 != a2)) else (if a0 = 25 then (some (decide (a1 < a2))) else (if a0 = 26 then (some (decide (a1 ≤ a2))) else (if a0 = 27 then (some (decide (a1 > a2))) else (if a0 = 28 then (some (decide (a1 ≥ a2))) else (some false))))))) = some r := h
  clear h
  by_cases c4 : a0 = 23
  · rw [if_pos c4] at H
    have c4b0 : (a0 == 23) = true := beq_iff_eq.mpr c4
    have c4b1 : (a0 != 23) = false := bne_eq_false_iff_eq.mpr c4
    clear c4
    obtain rfl := Option.some.inj H
    go_enter Try.func30, Try.ntmps30
    go_wp2
    go_ret
    exact ⟨by first | rfl | (simp; done) | (simp [*]; done), by repeat (first | exact Drawn0.refl _ | apply Drawn0.step)⟩
  · rw [if_neg c4] at H
    have c4b0 : (a0 == 23) = false := beq_eq_false_iff_ne.mpr c4
    have c4b1 : (a0 != 23) = true := bne_iff_ne.mpr c4
    by_cases c5 : a0 = 24
    · rw [if_pos c5] at H
      have c5b0 : (a0 == 24) = true := beq_iff_eq.mpr c5
      have c5b1 : (a0 != 24) = false := bne_eq_false_iff_eq.mpr c5
      clear c5
      obtain rfl := Option.some.inj H
      go_enter Try.func30, Try.ntmps30
      go_wp2
      go_ret
      exact ⟨by first | rfl | (simp; done) | (simp [*]; done), by repeat (first | exact Drawn0.refl _ | apply Drawn0.step)⟩
    · rw [if_neg c5] at H
      have c5b0 : (a0 == 24) = false := beq_eq_false_iff_ne.mpr c5
      have c5b1 : (a0 != 24) = true := bne_iff_ne.mpr c5
      by_cases c6 : a0 = 25
      · rw [if_pos c6] at H
        have c6b0 : (a0 == 25) = true := beq_iff_eq.mpr c6
        have c6b1 : (a0 != 25) = false := bne_eq_false_iff_eq.mpr c6
        clear c6
        obtain rfl := Option.some.inj H
        go_enter Try.func30, Try.ntmps30
        go_wp2
        go_ret
        exact ⟨by first | rfl | (simp; done) | (simp [*]; done), by repeat (first | exact Drawn0.refl _ | apply Drawn0.step)⟩
      · rw [if_neg c6] at H
        have c6b0 : (a0 == 25) = false := beq_eq_false_iff_ne.mpr c6
        have c6b1 : (a0 != 25) = true := bne_iff_ne.mpr c6
        by_cases c7 : a0 = 26
        · rw [if_pos c7] at H
          have c7b0 : (a0 == 26) = true := beq_iff_eq.mpr c7
          have c7b1 : (a0 != 26) = false := bne_eq_false_iff_eq.mpr c7
          clear c7
          obtain rfl := Option.some.inj H
          go_enter Try.func30, Try.ntmps30
          go_wp2
          go_ret
          exact ⟨by first | rfl | (simp; done) | (simp [*]; done), by repeat (first | exact Drawn0.refl _ | apply Drawn0.step)⟩
        · rw [if_neg c7] at H
          have c7b0 : (a0 == 26) = false := beq_eq_false_iff_ne.mpr c7
          have c7b1 : (a0 != 26) = true := bne_iff_ne.mpr c7
          by_cases c8 : a0 = 27
          · rw [if_pos c8] at H
            have c8b0 : (a0 == 27) = true := beq_iff_eq.mpr c8
            have c8b1 : (a0 != 27) = false := bne_eq_false_iff_eq.mpr c8
            clear c8
            obtain rfl := Option.some.inj H
            go_enter Try.func30, Try.ntmps30
            go_wp2
            go_ret
            exact ⟨by first | rfl | (simp; done) | (simp [*]; done), by repeat (first | exact Drawn0.refl _ | apply Drawn0.step)⟩
          · rw [if_neg c8] at H
            have c8b0 : (a0 == 27) = false := beq_eq_false_iff_ne.mpr c8
            have c8b1 : (a0 != 27) = true := bne_iff_ne.mpr c8
            by_cases c9 : a0 = 28
            · rw [if_pos c9] at H
              have c9b0 : (a0 == 28) = true := beq_iff_eq.mpr c9
              have c9b1 : (a0 != 28) = false := bne_eq_false_iff_eq.mpr c9
              clear c9
              obtain rfl := Option.some.inj H
              go_enter Try.func30, Try.ntmps30
              go_wp2
              go_ret
              exact ⟨by first | rfl | (simp; done) | (simp [*]; done), by repeat (first | exact Drawn0.refl _ | apply Drawn0.step)⟩
            · rw [if_neg c9] at H
              have c9b0 : (a0 == 28) = false := beq_eq_false_iff_ne.mpr c9
              have c9b1 : (a0 != 28) = true := bne_iff_ne.mpr c9
              obtain rfl := Option.some.inj H
              go_enter Try.func30, Try.ntmps30
              go_wp2
              go_ret
              exact ⟨by first | rfl | (simp; done) | (simp [*]; done), by repeat (first | exact Drawn0.refl _ | apply Drawn0.step)⟩

/-! ### word_compare_int32: function 31 -/
def word_compare_int32.f (a0 : Int) (a1 : Int) (a2 : Int) : Option (Bool) := if a0 = 23 then (some (a1 == a2)) else (if a0 = 24 then (some (a1 != a2)) else (if a0 = 25 then (some (decide (a1 < a2))) else (if a0 = 26 then (some (decide (a1 ≤ a2))) else (if a0 = 27 then (some (decide (a1 > a2))) else (if a0 = 28 then (some (decide (a1 ≥ a2))) else (some false))))))
set_option maxHeartbeats 8000000 in
set_option maxRecDepth 100000 in
theorem word_compare_int32.calls (a0 : Int) (a1 : Int) (a2 : Int) (r : Bool) (w : World) (h : word_compare_int32.f a0 a1 a2 = some r) :
    Calls Try.prog 31 #[.int .u8 a0, .int .i32 a1, .int .i32 a2] w fun e w' => e = .returned (.bool r) ∧ Drawn0 w w' := by
  have H : (if a0 = 23 then (some (a1 == a2)) else (if a0 = 24 then (some (a1 != a2)) else (if a0 = 25 then (some (decide (a1 < a2))) else (if a0 = 26 then (some (decide (a1 ≤ a2))) else (if a0 = 27 then (some (decide (a1 > a2))) else (if a0 = 28 then (some (decide (a1 ≥ a2))) else (some false))))))) = some r := h
  clear h
  by_cases c4 : a0 = 23
  · rw [if_pos c4] at H
    have c4b0 : (a0 == 23) = true := beq_iff_eq.mpr c4
    have c4b1 : (a0 != 23) = false := bne_eq_false_iff_eq.mpr c4
    clear c4
    obtain rfl := Option.some.inj H
    go_enter Try.func31, Try.ntmps31
    go_wp2
    go_ret
    exact ⟨by first | rfl | (simp; done) | (simp [*]; done), by repeat (first | exact Drawn0.refl _ | apply Drawn0.step)⟩
  · rw [if_neg c4] at H
    have c4b0 : (a0 == 23) = false := beq_eq_false_iff_ne.mpr c4
    have c4b1 : (a0 != 23) = true := bne_iff_ne.mpr c4
    by_cases c5 : a0 = 24
    · rw [if_pos c5] at H
      have c5b0 : (a0 == 24) = true := beq_iff_eq.mpr c5
      have c5b1 : (a0 != 24) = false := bne_eq_false_iff_eq.mpr c5
      clear c5
      obtain rfl := Option.some.inj H
      go_enter Try.func31, Try.ntmps31
      go_wp2
      go_ret
      exact ⟨by first | rfl | (simp; done) | (simp [*]; done), by repeat (first | exact Drawn0.refl _ | apply Drawn0.step)⟩
    · rw [if_neg c5] at H
      have c5b0 : (a0 == 24) = false := beq_eq_false_iff_ne.mpr c5
      have c5b1 : (a0 != 24) = true := bne_iff_ne.mpr c5
      by_cases c6 : a0 = 25
      · rw [if_pos c6] at H
        have c6b0 : (a0 == 25) = true := beq_iff_eq.mpr c6
        have c6b1 : (a0 != 25) = false := bne_eq_false_iff_eq.mpr c6
        clear c6
        obtain rfl := Option.some.inj H
        go_enter Try.func31, Try.ntmps31
        go_wp2
        go_ret
        exact ⟨by first | rfl | (simp; done) | (simp [*]; done), by repeat (first | exact Drawn0.refl _ | apply Drawn0.step)⟩
      · rw [if_neg c6] at H
        have c6b0 : (a0 == 25) = false := beq_eq_false_iff_ne.mpr c6
        have c6b1 : (a0 != 25) = true := bne_iff_ne.mpr c6
        by_cases c7 : a0 = 26
        · rw [if_pos c7] at H
          have c7b0 : (a0 == 26) = true := beq_iff_eq.mpr c7
          have c7b1 : (a0 != 26) = false := bne_eq_false_iff_eq.mpr c7
          clear c7
          obtain rfl := Option.some.inj H
          go_enter Try.func31, Try.ntmps31
          go_wp2
          go_ret
          exact ⟨by first | rfl | (simp; done) | (simp [*]; done), by repeat (first | exact Drawn0.refl _ | apply Drawn0.step)⟩
        · rw [if_neg c7] at H
          have c7b0 : (a0 == 26) = false := beq_eq_false_iff_ne.mpr c7
          have c7b1 : (a0 != 26) = true := bne_iff_ne.mpr c7
          by_cases c8 : a0 = 27
          · rw [if_pos c8] at H
            have c8b0 : (a0 == 27) = true := beq_iff_eq.mpr c8
            have c8b1 : (a0 != 27) = false := bne_eq_false_iff_eq.mpr c8
            clear c8
            obtain rfl := Option.some.inj H
            go_enter Try.func31, Try.ntmps31
            go_wp2
            go_ret
            exact ⟨by first | rfl | (simp; done) | (simp [*]; done), by repeat (first | exact Drawn0.refl _ | apply Drawn0.step)⟩
          · rw [if_neg c8] at H
            have c8b0 : (a0 == 27) = false := beq_eq_false_iff_ne.mpr c8
            have c8b1 : (a0 != 27) = true := bne_iff_ne.mpr c8
            by_cases c9 : a0 = 28
            · rw [if_pos c9] at H
              have c9b0 : (a0 == 28) = true := beq_iff_eq.mpr c9
              have c9b1 : (a0 != 28) = false := bne_eq_false_iff_eq.mpr c9
              clear c9
              obtain rfl := Option.some.inj H
              go_enter Try.func31, Try.ntmps31
              go_wp2
              go_ret
              exact ⟨by first | rfl | (simp; done) | (simp [*]; done), by repeat (first | exact Drawn0.refl _ | apply Drawn0.step)⟩
            · rw [if_neg c9] at H
              have c9b0 : (a0 == 28) = false := beq_eq_false_iff_ne.mpr c9
              have c9b1 : (a0 != 28) = true := bne_iff_ne.mpr c9
              obtain rfl := Option.some.inj H
              go_enter Try.func31, Try.ntmps31
              go_wp2
              go_ret
              exact ⟨by first | rfl | (simp; done) | (simp [*]; done), by repeat (first | exact Drawn0.refl _ | apply Drawn0.step)⟩

/-! ### word_compare_int64: function 32 -/
def word_compare_int64.f (a0 : Int) (a1 : Int) (a2 : Int) : Option (Bool) := if a0 = 23 then (some (a1 == a2)) else (if a0 = 24 then (some (a1 != a2)) else (if a0 = 25 then (some (decide (a1 < a2))) else (if a0 = 26 then (some (decide (a1 ≤ a2))) else (if a0 = 27 then (some (decide (a1 > a2))) else (if a0 = 28 then (some (decide (a1 ≥ a2))) else (some false))))))
set_option maxHeartbeats 8000000 in
set_option maxRecDepth 100000 in
theorem word_compare_int64.calls (a0 : Int) (a1 : Int) (a2 : Int) (r : Bool) (w : World) (h : word_compare_int64.f a0 a1 a2 = some r) :
    Calls Try.prog 32 #[.int .u8 a0, .int .i64 a1, .int .i64 a2] w fun e w' => e = .returned (.bool r) ∧ Drawn0 w w' := by
  have H : (if a0 = 23 then (some (a1 == a2)) else (if a0 = 24 then (some (a1 != a2)) else (if a0 = 25 then (some (decide (a1 < a2))) else (if a0 = 26 then (some (decide (a1 ≤ a2))) else (if a0 = 27 then (some (decide (a1 > a2))) else (if a0 = 28 then (some (decide (a1 ≥ a2))) else (some false))))))) = some r := h
  clear h
  by_cases c4 : a0 = 23
  · rw [if_pos c4] at H
    have c4b0 : (a0 == 23) = true := beq_iff_eq.mpr c4
    have c4b1 : (a0 != 23) = false := bne_eq_false_iff_eq.mpr c4
    clear c4
    obtain rfl := Option.some.inj H
    go_enter Try.func32, Try.ntmps32
    go_wp2
    go_ret
    exact ⟨by first | rfl | (simp; done) | (simp [*]; done), by repeat (first | exact Drawn0.refl _ | apply Drawn0.step)⟩
  · rw [if_neg c4] at H
    have c4b0 : (a0 == 23) = false := beq_eq_false_iff_ne.mpr c4
    have c4b1 : (a0 != 23) = true := bne_iff_ne.mpr c4
    by_cases c5 : a0 = 24
    · rw [if_pos c5] at H
      have c5b0 : (a0 == 24) = true := beq_iff_eq.mpr c5
      have c5b1 : (a0 != 24) = false := bne_eq_false_iff_eq.mpr c5
      clear c5
      obtain rfl := Option.some.inj H
      go_enter Try.func32, Try.ntmps32
      go_wp2
      go_ret
      exact ⟨by first | rfl | (simp; done) | (simp [*]; done), by repeat (first | exact Drawn0.refl _ | apply Drawn0.step)⟩
    · rw [if_neg c5] at H
      have c5b0 : (a0 == 24) = false := beq_eq_false_iff_ne.mpr c5
      have c5b1 : (a0 != 24) = true := bne_iff_ne.mpr c5
      by_cases c6 : a0 = 25
      · rw [if_pos c6] at H
        have c6b0 : (a0 == 25) = true := beq_iff_eq.mpr c6
        have c6b1 : (a0 != 25) = false := bne_eq_false_iff_eq.mpr c6
        clear c6
        obtain rfl := Option.some.inj H
        go_enter Try.func32, Try.ntmps32
        go_wp2
        go_ret
        exact ⟨by first | rfl | (simp; done) | (simp [*]; done), by repeat (first | exact Drawn0.refl _ | apply Drawn0.step)⟩
      · rw [if_neg c6] at H
        have c6b0 : (a0 == 25) = false := beq_eq_false_iff_ne.mpr c6
        have c6b1 : (a0 != 25) = true := bne_iff_ne.mpr c6
        by_cases c7 : a0 = 26
        · rw [if_pos c7] at H
          have c7b0 : (a0 == 26) = true := beq_iff_eq.mpr c7
          have c7b1 : (a0 != 26) = false := bne_eq_false_iff_eq.mpr c7
          clear c7
          obtain rfl := Option.some.inj H
          go_enter Try.func32, Try.ntmps32
          go_wp2
          go_ret
          exact ⟨by first | rfl | (simp; done) | (simp [*]; done), by repeat (first | exact Drawn0.refl _ | apply Drawn0.step)⟩
        · rw [if_neg c7] at H
          have c7b0 : (a0 == 26) = false := beq_eq_false_iff_ne.mpr c7
          have c7b1 : (a0 != 26) = true := bne_iff_ne.mpr c7
          by_cases c8 : a0 = 27
          · rw [if_pos c8] at H
            have c8b0 : (a0 == 27) = true := beq_iff_eq.mpr c8
            have c8b1 : (a0 != 27) = false := bne_eq_false_iff_eq.mpr c8
            clear c8
            obtain rfl := Option.some.inj H
            go_enter Try.func32, Try.ntmps32
            go_wp2
            go_ret
            exact ⟨by first | rfl | (simp; done) | (simp [*]; done), by repeat (first | exact Drawn0.refl _ | apply Drawn0.step)⟩
          · rw [if_neg c8] at H
            have c8b0 : (a0 == 27) = false := beq_eq_false_iff_ne.mpr c8
            have c8b1 : (a0 != 27) = true := bne_iff_ne.mpr c8
            by_cases c9 : a0 = 28
            · rw [if_pos c9] at H
              have c9b0 : (a0 == 28) = true := beq_iff_eq.mpr c9
              have c9b1 : (a0 != 28) = false := bne_eq_false_iff_eq.mpr c9
              clear c9
              obtain rfl := Option.some.inj H
              go_enter Try.func32, Try.ntmps32
              go_wp2
              go_ret
              exact ⟨by first | rfl | (simp; done) | (simp [*]; done), by repeat (first | exact Drawn0.refl _ | apply Drawn0.step)⟩
            · rw [if_neg c9] at H
              have c9b0 : (a0 == 28) = false := beq_eq_false_iff_ne.mpr c9
              have c9b1 : (a0 != 28) = true := bne_iff_ne.mpr c9
              obtain rfl := Option.some.inj H
              go_enter Try.func32, Try.ntmps32
              go_wp2
              go_ret
              exact ⟨by first | rfl | (simp; done) | (simp [*]; done), by repeat (first | exact Drawn0.refl _ | apply Drawn0.step)⟩

/-! ### word_Test: function 22 -/
def word_Test.f (a0 : Int) (a1 : Int) (a2 : Int) (a3 : Int) : Option (Bool) := if a1 = 1 then ((word_compare_int8.f a0 (IntKind.i8.wrap (a2)) (IntKind.i8.wrap (a3))).bind fun t115 => (some t115)) else (if a1 = 2 then ((word_compare_int32.f a0 (wrap32 (a2)) (wrap32 (a3))).bind fun t116 => (some t116)) else (if a1 = 3 then ((word_compare_int64.f a0 a2 a3).bind fun t117 => (some t117)) else (some false)))
set_option maxHeartbeats 8000000 in
set_option maxRecDepth 100000 in
theorem word_Test.calls (a0 : Int) (a1 : Int) (a2 : Int) (a3 : Int) (r : Bool) (w : World) (h : word_Test.f a0 a1 a2 a3 = some r) :
    Calls Try.prog 22 #[.int .u8 a0, .int .u8 a1, .int .i64 a2, .int .i64 a3] w fun e w' => e = .returned (.bool r) ∧ Drawn0 w w' := by
  have H : (if a1 = 1 then ((word_compare_int8.f a0 (IntKind.i8.wrap (a2)) (IntKind.i8.wrap (a3))).bind fun t115 => (some t115)) else (if a1 = 2 then ((word_compare_int32.f a0 (wrap32 (a2)) (wrap32 (a3))).bind fun t116 => (some t116)) else (if a1 = 3 then ((word_compare_int64.f a0 a2 a3).bind fun t117 => (some t117)) else (some false)))) = some r := h
  clear h
  by_cases c5 : a1 = 1
  · rw [if_pos c5] at H
    have c5b0 : (a1 == 1) = true := beq_iff_eq.mpr c5
    have c5b1 : (a1 != 1) = false := bne_eq_false_iff_eq.mpr c5
    clear c5
    replace H := Option.bind_eq_some_iff.mp H
    obtain ⟨t115, A60, H⟩ := H
    replace H : (some t115) = some r := H
    have A6 := Aside0.mk A60
    clear A60
    obtain rfl := Option.some.inj H
    go_enter Try.func22, Try.ntmps22
    go_wp2_with (first | ((with_reducible refine gate_callee (f := 30) rfl ?_); refine goesL_ (some 17) rfl rfl Try.func30 (by kernel_rfl) rfl #[.int .u8 a0, .int .i8 (IntKind.i8.wrap (a2)), .int .i8 (IntKind.i8.wrap (a3))] rfl (by (try simp only [List.map_toArray, List.map_cons, List.map_nil]); first | done | rfl | (simp only [List.length_drop, List.length_take]; rfl)) ?_; (with_reducible refine (word_compare_int8.calls a0 (IntKind.i8.wrap (a2)) (IntKind.i8.wrap (a3)) t115 _ A6.out).mono ?_); rintro e w' ⟨rfl, ⟨nd, rfl⟩⟩; refine ⟨_, rfl, ?_⟩))
    go_ret
    exact ⟨by first | rfl | (simp; done) | (simp [*]; done), by repeat (first | exact Drawn0.refl _ | apply Drawn0.step)⟩
  · rw [if_neg c5] at H
    have c5b0 : (a1 == 1) = false := beq_eq_false_iff_ne.mpr c5
    have c5b1 : (a1 != 1) = true := bne_iff_ne.mpr c5
    by_cases c7 : a1 = 2
    · rw [if_pos c7] at H
      have c7b0 : (a1 == 2) = true := beq_iff_eq.mpr c7
      have c7b1 : (a1 != 2) = false := bne_eq_false_iff_eq.mpr c7
      clear c7
      replace H := Option.bind_eq_some_iff.mp H
      obtain ⟨t116, A80, H⟩ := H
      replace H : (some t116) = some r := H
      have A8 := Aside0.mk A80
      clear A80
      obtain rfl := Option.some.inj H
      go_enter Try.func22, Try.ntmps22
      go_wp2_with (first | ((with_reducible refine gate_callee (f := 31) rfl ?_); refine goesL_ (some 25) rfl rfl Try.func31 (by kernel_rfl) rfl #[.int .u8 a0, .int .i32 (wrap32 (a2)), .int .i32 (wrap32 (a3))] rfl (by (try simp only [List.map_toArray, List.map_cons, List.map_nil]); first | done | rfl | (simp only [List.length_drop, List.length_take]; rfl)) ?_; (with_reducible refine (word_compare_int32.calls a0 (wrap32 (a2)) (wrap32 (a3)) t116 _ A8.out).mono ?_); rintro e w' ⟨rfl, ⟨nd, rfl⟩⟩; refine ⟨_, rfl, ?_⟩))
      go_ret
      exact ⟨by first | rfl | (simp; done) | (simp [*]; done), by repeat (first | exact Drawn0.refl _ | apply Drawn0.step)⟩
    · rw [if_neg c7] at H
      have c7b0 : (a1 == 2) = false := beq_eq_false_iff_ne.mpr c7
      have c7b1 : (a1 != 2) = true := bne_iff_ne.mpr c7
      by_cases c9 : a1 = 3
      · rw [if_pos c9] at H
        have c9b0 : (a1 == 3) = true := beq_iff_eq.mpr c9
        have c9b1 : (a1 != 3) = false := bne_eq_false_iff_eq.mpr c9
        clear c9
        replace H := Option.bind_eq_some_iff.mp H
        obtain ⟨t117, A100, H⟩ := H
        replace H : (some t117) = some r := H
        have A10 := Aside0.mk A100
        clear A100
        obtain rfl := Option.some.inj H
        go_enter Try.func22, Try.ntmps22
        go_wp2_with (first | ((with_reducible refine gate_callee (f := 32) rfl ?_); refine goesL_ (some 31) rfl rfl Try.func32 (by kernel_rfl) rfl #[.int .u8 a0, .int .i64 a2, .int .i64 a3] rfl (by (try simp only [List.map_toArray, List.map_cons, List.map_nil]); first | done | rfl | (simp only [List.length_drop, List.length_take]; rfl)) ?_; (with_reducible refine (word_compare_int64.calls a0 a2 a3 t117 _ A10.out).mono ?_); rintro e w' ⟨rfl, ⟨nd, rfl⟩⟩; refine ⟨_, rfl, ?_⟩))
        go_ret
        exact ⟨by first | rfl | (simp; done) | (simp [*]; done), by repeat (first | exact Drawn0.refl _ | apply Drawn0.step)⟩
      · rw [if_neg c9] at H
        have c9b0 : (a1 == 3) = false := beq_eq_false_iff_ne.mpr c9
        have c9b1 : (a1 != 3) = true := bne_iff_ne.mpr c9
        obtain rfl := Option.some.inj H
        go_enter Try.func22, Try.ntmps22
        go_wp2
        go_ret
        exact ⟨by first | rfl | (simp; done) | (simp [*]; done), by repeat (first | exact Drawn0.refl _ | apply Drawn0.step)⟩

/-! ### trammelref02_Bits: function 12 -/
def trammelref02_Bits.f (a0 : Int) : Option (Int) := if a0 = 1 then (some 8) else (if a0 = 2 then (some 32) else (if a0 = 3 then (some 64) else (some 0)))
set_option maxHeartbeats 8000000 in
set_option maxRecDepth 100000 in
theorem trammelref02_Bits.calls (a0 : Int) (r : Int) (w : World) (h : trammelref02_Bits.f a0 = some r) :
    Calls Try.prog 12 #[.int .u8 a0] w fun e w' => e = .returned (.int .i64 r) ∧ Drawn0 w w' := by
  have H : (if a0 = 1 then (some 8) else (if a0 = 2 then (some 32) else (if a0 = 3 then (some 64) else (some 0)))) = some r := h
  clear h
  by_cases c2 : a0 = 1
  · rw [if_pos c2] at H
    have c2b0 : (a0 == 1) = true := beq_iff_eq.mpr c2
    have c2b1 : (a0 != 1) = false := bne_eq_false_iff_eq.mpr c2
    clear c2
    obtain rfl := Option.some.inj H
    go_enter Try.func12, Try.ntmps12
    go_wp2
    go_ret
    exact ⟨by first | rfl | (simp; done) | (simp [*]; done), by repeat (first | exact Drawn0.refl _ | apply Drawn0.step)⟩
  · rw [if_neg c2] at H
    have c2b0 : (a0 == 1) = false := beq_eq_false_iff_ne.mpr c2
    have c2b1 : (a0 != 1) = true := bne_iff_ne.mpr c2
    by_cases c3 : a0 = 2
    · rw [if_pos c3] at H
      have c3b0 : (a0 == 2) = true := beq_iff_eq.mpr c3
      have c3b1 : (a0 != 2) = false := bne_eq_false_iff_eq.mpr c3
      clear c3
      obtain rfl := Option.some.inj H
      go_enter Try.func12, Try.ntmps12
      go_wp2
      go_ret
      exact ⟨by first | rfl | (simp; done) | (simp [*]; done), by repeat (first | exact Drawn0.refl _ | apply Drawn0.step)⟩
    · rw [if_neg c3] at H
      have c3b0 : (a0 == 2) = false := beq_eq_false_iff_ne.mpr c3
      have c3b1 : (a0 != 2) = true := bne_iff_ne.mpr c3
      by_cases c4 : a0 = 3
      · rw [if_pos c4] at H
        have c4b0 : (a0 == 3) = true := beq_iff_eq.mpr c4
        have c4b1 : (a0 != 3) = false := bne_eq_false_iff_eq.mpr c4
        clear c4
        obtain rfl := Option.some.inj H
        go_enter Try.func12, Try.ntmps12
        go_wp2
        go_ret
        exact ⟨by first | rfl | (simp; done) | (simp [*]; done), by repeat (first | exact Drawn0.refl _ | apply Drawn0.step)⟩
      · rw [if_neg c4] at H
        have c4b0 : (a0 == 3) = false := beq_eq_false_iff_ne.mpr c4
        have c4b1 : (a0 != 3) = true := bne_iff_ne.mpr c4
        obtain rfl := Option.some.inj H
        go_enter Try.func12, Try.ntmps12
        go_wp2
        go_ret
        exact ⟨by first | rfl | (simp; done) | (simp [*]; done), by repeat (first | exact Drawn0.refl _ | apply Drawn0.step)⟩

end Go.Proofs.Ytgomkbdemakndaa.PWordReckons
