/- Written by a program of this session's: functions that the law reaches, their walks, the row; no conditions beyond the statement's own. -/
import Derived.Test.YtgomkbdemakndaaPWordReckonsx0
import Derived.Test.YtgomkbdemakndaaPWordReckonsx2
import Derived.Test.YtgomkbdemakndaaPWordReckonsx3
namespace Go.Proofs.Ytgomkbdemakndaa.PWordReckons
open Go.RowKit Go.Proofs.YtgomkbdemakndaaW.PrintWords Go.Proofs.YtgomkbdemakndaaW.PrintLast Go.Proofs.YtgomkbdemakndaaW.PrintMore
attribute [local go_sem] max2_int min2_int max_two min_two max_three min_three max_four min_four   -- for this text's walks alone
set_option linter.unusedVariables false
set_option linter.unusedSimpArgs false

/-! ### trammelref02_Two: function 23 -/
def trammelref02_Two.j0 : Nat → Int → Int → Int → Int → Int → Int → Int → Bool → Option (Int × Int)
  | 0, _, _, _, _, _, _, _, _ => none
  | k + 1, x0, x1, x2, x3, x11, x12, x31, x47 => if x47 = true then (if x3 = 0 then (some (0, 1)) else ((trammelref02_divided.f k x2 x3).bind fun bt131 => (if x0 = 15 then ((trammelref02_Wrap.f k x1 bt131.2).bind fun t133 => (some (t133, 0))) else ((trammelref02_Wrap.f k x1 bt131.1).bind fun t134 => (some (t134, 0)))))) else (if x31 = 16 then ((trammelref02_bits.f k x2 x3 true false).bind fun t135 => ((trammelref02_Wrap.f k x1 t135).bind fun t136 => (some (t136, 0)))) else (if x31 = 17 then ((trammelref02_bits.f k x2 x3 true true).bind fun t137 => ((trammelref02_Wrap.f k x1 t137).bind fun t138 => (some (t138, 0)))) else (if x31 = 18 then ((trammelref02_bits.f k x2 x3 false true).bind fun t139 => ((trammelref02_Wrap.f k x1 t139).bind fun t140 => (some (t140, 0)))) else (if x31 = 19 then ((trammelref02_power.f x11).bind fun t141 => ((trammelref02_Wrap.f k x1 (wrap64 (x2 * t141))).bind fun t142 => (some (t142, 0)))) else (if x31 = 20 then ((trammelref02_down.f k x2 x11).bind fun t143 => ((trammelref02_Wrap.f k x1 t143).bind fun t144 => (some (t144, 0)))) else ((trammelref02_Wrap.f k x1 x12).bind fun t145 => (some (t145, 0))))))))
def trammelref02_Two.f (k : Nat) (a0 : Int) (a1 : Int) (a2 : Int) (a3 : Int) : Option (Int × Int) := (trammelref02_Bits.f a1).bind fun t125 => (if t125 = 0 then (some (0, 0)) else ((trammelref02_Wrap.f k a1 a2).bind fun t126 => ((trammelref02_Wrap.f k a1 a3).bind fun t127 => (if (IntKind.u64.wrap (t125)) = 0 then (none) else (if a0 = 11 then ((trammelref02_Wrap.f k a1 (wrap64 (t126 + t127))).bind fun t128 => (some (t128, 0))) else (if a0 = 12 then ((trammelref02_Wrap.f k a1 (wrap64 (t126 - t127))).bind fun t129 => (some (t129, 0))) else (if a0 = 13 then ((trammelref02_Wrap.f k a1 (wrap64 (t126 * t127))).bind fun t130 => (some (t130, 0))) else (if a0 = 14 then (trammelref02_Two.j0 k a0 a1 t126 t127 (wrap64 (Int.tmod (IntKind.u64.wrap (t127)) (IntKind.u64.wrap (t125)))) 0 a0 (a0 == 14)) else (trammelref02_Two.j0 k a0 a1 t126 t127 (wrap64 (Int.tmod (IntKind.u64.wrap (t127)) (IntKind.u64.wrap (t125)))) 0 a0 (a0 == 15))))))))))
theorem trammelref02_Two.mono_l : ∀ k, (∀ y0 y1 y2 y3 y4 y5 y6 y7, LeO (trammelref02_Two.j0 k y0 y1 y2 y3 y4 y5 y6 y7) (trammelref02_Two.j0 (k + 1) y0 y1 y2 y3 y4 y5 y6 y7))
  | 0 => fun _ _ _ _ _ _ _ _ r h => by simp [trammelref02_Two.j0] at h
  | k + 1 => by
    have ih0 := trammelref02_Two.mono_l k
    · intro y0 y1 y2 y3 y4 y5 y6 y7
      unfold trammelref02_Two.j0
      repeat' first
      | (with_reducible exact ih0 _ _ _ _ _ _ _ _)
      | (with_reducible exact trammelref02_Wrap.mono _ _ _)
      | (with_reducible exact trammelref02_bits.mono _ _ _ _ _)
      | (with_reducible exact trammelref02_divided.mono _ _ _)
      | (with_reducible exact trammelref02_down.mono _ _ _)
      | (with_reducible exact LeO.refl _)
      | (with_reducible exact LeO.none _)
      | (with_reducible refine LeO.ite ?_ ?_)
      | (with_reducible refine LeO.bind ?_ (fun _ => ?_))
      | exact ih0 _ _ _ _ _ _ _ _
      | exact trammelref02_Wrap.mono _ _ _
      | exact trammelref02_bits.mono _ _ _ _ _
      | exact trammelref02_divided.mono _ _ _
      | exact trammelref02_down.mono _ _ _
      | exact LeO.none _
      | refine LeO.ite ?_ ?_
      | refine LeO.bind ?_ (fun _ => ?_)
theorem trammelref02_Two.mono : ∀ a0 a1 a2 a3 k, LeO (trammelref02_Two.f k a0 a1 a2 a3) (trammelref02_Two.f (k + 1) a0 a1 a2 a3) := by
  intro a0 a1 a2 a3 k
  have ih0 := trammelref02_Two.mono_l k
  unfold trammelref02_Two.f
  repeat' first
      | (with_reducible exact ih0 _ _ _ _ _ _ _ _)
      | (with_reducible exact trammelref02_Wrap.mono _ _ _)
      | (with_reducible exact trammelref02_bits.mono _ _ _ _ _)
      | (with_reducible exact trammelref02_divided.mono _ _ _)
      | (with_reducible exact trammelref02_down.mono _ _ _)
      | (with_reducible exact LeO.refl _)
      | (with_reducible exact LeO.none _)
      | (with_reducible refine LeO.ite ?_ ?_)
      | (with_reducible refine LeO.bind ?_ (fun _ => ?_))
      | exact ih0 _ _ _ _ _ _ _ _
      | exact trammelref02_Wrap.mono _ _ _
      | exact trammelref02_bits.mono _ _ _ _ _
      | exact trammelref02_divided.mono _ _ _
      | exact trammelref02_down.mono _ _ _
      | exact LeO.none _
      | refine LeO.ite ?_ ?_
      | refine LeO.bind ?_ (fun _ => ?_)
set_option maxHeartbeats 8000000 in
set_option maxRecDepth 100000 in
theorem trammelref02_Two.calls (k : Nat) (a0 : Int) (a1 : Int) (a2 : Int) (a3 : Int) (r1 : Int) (r2 : Int) (w : World) (h : trammelref02_Two.f k a0 a1 a2 a3 = some (r1, r2)) :
    Calls Try.prog 23 #[.int .u8 a0, .int .u8 a1, .int .i64 a2, .int .i64 a3] w fun e w' => e = .returned (.tuple #[.int .i64 r1, .int .i64 r2]) ∧ Drawn0 w w' := by
  have H : ((trammelref02_Bits.f a1).bind fun t125 => (if t125 = 0 then (some (0, 0)) else ((trammelref02_Wrap.f k a1 a2).bind fun t126 => ((trammelref02_Wrap.f k a1 a3).bind fun t127 => (if (IntKind.u64.wrap (t125)) = 0 then (none) else (if a0 = 11 then ((trammelref02_Wrap.f k a1 (wrap64 (t126 + t127))).bind fun t128 => (some (t128, 0))) else (if a0 = 12 then ((trammelref02_Wrap.f k a1 (wrap64 (t126 - t127))).bind fun t129 => (some (t129, 0))) else (if a0 = 13 then ((trammelref02_Wrap.f k a1 (wrap64 (t126 * t127))).bind fun t130 => (some (t130, 0))) else (if a0 = 14 then (trammelref02_Two.j0 k a0 a1 t126 t127 (wrap64 (Int.tmod (IntKind.u64.wrap (t127)) (IntKind.u64.wrap (t125)))) 0 a0 (a0 == 14)) else (trammelref02_Two.j0 k a0 a1 t126 t127 (wrap64 (Int.tmod (IntKind.u64.wrap (t127)) (IntKind.u64.wrap (t125)))) 0 a0 (a0 == 15))))))))))) = some (r1, r2) := h
  clear h
  replace H := Option.bind_eq_some_iff.mp H
  obtain ⟨t125, A50, H⟩ := H
  replace H : (if t125 = 0 then (some (0, 0)) else ((trammelref02_Wrap.f k a1 a2).bind fun t126 => ((trammelref02_Wrap.f k a1 a3).bind fun t127 => (if (IntKind.u64.wrap (t125)) = 0 then (none) else (if a0 = 11 then ((trammelref02_Wrap.f k a1 (wrap64 (t126 + t127))).bind fun t128 => (some (t128, 0))) else (if a0 = 12 then ((trammelref02_Wrap.f k a1 (wrap64 (t126 - t127))).bind fun t129 => (some (t129, 0))) else (if a0 = 13 then ((trammelref02_Wrap.f k a1 (wrap64 (t126 * t127))).bind fun t130 => (some (t130, 0))) else (if a0 = 14 then (trammelref02_Two.j0 k a0 a1 t126 t127 (wrap64 (Int.tmod (IntKind.u64.wrap (t127)) (IntKind.u64.wrap (t125)))) 0 a0 (a0 == 14)) else (trammelref02_Two.j0 k a0 a1 t126 t127 (wrap64 (Int.tmod (IntKind.u64.wrap (t127)) (IntKind.u64.wrap (t125)))) 0 a0 (a0 == 15)))))))))) = some (r1, r2) := H
  have A5 := Aside0.mk A50
  clear A50
  by_cases c6 : t125 = 0
  · rw [if_pos c6] at H
    have c6b0 : (t125 == 0) = true := beq_iff_eq.mpr c6
    have c6b1 : (t125 != 0) = false := bne_eq_false_iff_eq.mpr c6
    clear c6
    simp only [Option.some.injEq, Prod.mk.injEq] at H
    obtain ⟨rfl, rfl⟩ := H
    go_enter Try.func23, Try.ntmps23
    go_wp2_with (first | ((with_reducible refine gate_callee (f := 12) rfl ?_); refine goesL_ (some 16) rfl rfl Try.func12 (by kernel_rfl) rfl #[.int .u8 a1] rfl (by (try simp only [List.map_toArray, List.map_cons, List.map_nil]); first | done | rfl | (simp only [List.length_drop, List.length_take]; rfl)) ?_; (with_reducible refine (trammelref02_Bits.calls a1 t125 _ A5.out).mono ?_); rintro e w' ⟨rfl, ⟨nd, rfl⟩⟩; refine ⟨_, rfl, ?_⟩))
    go_ret2
    exact ⟨by first | rfl | (simp; done) | (simp [*]; done), by repeat (first | exact Drawn0.refl _ | apply Drawn0.step)⟩
  · rw [if_neg c6] at H
    have c6b0 : (t125 == 0) = false := beq_eq_false_iff_ne.mpr c6
    have c6b1 : (t125 != 0) = true := bne_iff_ne.mpr c6
    replace H := Option.bind_eq_some_iff.mp H
    obtain ⟨t126, A70, H⟩ := H
    replace H : ((trammelref02_Wrap.f k a1 a3).bind fun t127 => (if (IntKind.u64.wrap (t125)) = 0 then (none) else (if a0 = 11 then ((trammelref02_Wrap.f k a1 (wrap64 (t126 + t127))).bind fun t128 => (some (t128, 0))) else (if a0 = 12 then ((trammelref02_Wrap.f k a1 (wrap64 (t126 - t127))).bind fun t129 => (some (t129, 0))) else (if a0 = 13 then ((trammelref02_Wrap.f k a1 (wrap64 (t126 * t127))).bind fun t130 => (some (t130, 0))) else (if a0 = 14 then (trammelref02_Two.j0 k a0 a1 t126 t127 (wrap64 (Int.tmod (IntKind.u64.wrap (t127)) (IntKind.u64.wrap (t125)))) 0 a0 (a0 == 14)) else (trammelref02_Two.j0 k a0 a1 t126 t127 (wrap64 (Int.tmod (IntKind.u64.wrap (t127)) (IntKind.u64.wrap (t125)))) 0 a0 (a0 == 15)))))))) = some (r1, r2) := H
    have A7 := Aside0.mk A70
    clear A70
    replace H := Option.bind_eq_some_iff.mp H
    obtain ⟨t127, A80, H⟩ := H
    replace H : (if (IntKind.u64.wrap (t125)) = 0 then (none) else (if a0 = 11 then ((trammelref02_Wrap.f k a1 (wrap64 (t126 + t127))).bind fun t128 => (some (t128, 0))) else (if a0 = 12 then ((trammelref02_Wrap.f k a1 (wrap64 (t126 - t127))).bind fun t129 => (some (t129, 0))) else (if a0 = 13 then ((trammelref02_Wrap.f k a1 (wrap64 (t126 * t127))).bind fun t130 => (some (t130, 0))) else (if a0 = 14 then (trammelref02_Two.j0 k a0 a1 t126 t127 (wrap64 (Int.tmod (IntKind.u64.wrap (t127)) (IntKind.u64.wrap (t125)))) 0 a0 (a0 == 14)) else (trammelref02_Two.j0 k a0 a1 t126 t127 (wrap64 (Int.tmod (IntKind.u64.wrap (t127)) (IntKind.u64.wrap (t125)))) 0 a0 (a0 == 15))))))) = some (r1, r2) := H
    have A8 := Aside0.mk A80
    clear A80
    by_cases c9 : (IntKind.u64.wrap (t125)) = 0
    · rw [if_pos c9] at H
      exact absurd H (by simp)
    · rw [if_neg c9] at H
      have c9b0 : ((IntKind.u64.wrap (t125)) == 0) = false := beq_eq_false_iff_ne.mpr c9
      have c9b1 : ((IntKind.u64.wrap (t125)) != 0) = true := bne_iff_ne.mpr c9
      by_cases c10 : a0 = 11
      · rw [if_pos c10] at H
        have c10b0 : (a0 == 11) = true := beq_iff_eq.mpr c10
        have c10b1 : (a0 != 11) = false := bne_eq_false_iff_eq.mpr c10
        clear c10
        replace H := Option.bind_eq_some_iff.mp H
        obtain ⟨t128, A110, H⟩ := H
        replace H : (some (t128, 0)) = some (r1, r2) := H
        have A11 := Aside0.mk A110
        clear A110
        simp only [Option.some.injEq, Prod.mk.injEq] at H
        obtain ⟨rfl, rfl⟩ := H
        go_enter Try.func23, Try.ntmps23
        go_wp2_with (first | ((with_reducible refine gate_callee (f := 12) rfl ?_); refine goesL_ (some 16) rfl rfl Try.func12 (by kernel_rfl) rfl #[.int .u8 a1] rfl (by (try simp only [List.map_toArray, List.map_cons, List.map_nil]); first | done | rfl | (simp only [List.length_drop, List.length_take]; rfl)) ?_; (with_reducible refine (trammelref02_Bits.calls a1 t125 _ A5.out).mono ?_); rintro e w' ⟨rfl, ⟨nd, rfl⟩⟩; refine ⟨_, rfl, ?_⟩) | ((with_reducible refine gate_callee (f := 16) rfl ?_); refine goesL_ (some 21) rfl rfl Try.func16 (by kernel_rfl) rfl #[.int .u8 a1, .int .i64 a2] rfl (by (try simp only [List.map_toArray, List.map_cons, List.map_nil]); first | done | rfl | (simp only [List.length_drop, List.length_take]; rfl)) ?_; (with_reducible refine (trammelref02_Wrap.calls k a1 a2 t126 _ A7.out).mono ?_); rintro e w' ⟨rfl, ⟨nd, rfl⟩⟩; refine ⟨_, rfl, ?_⟩) | ((with_reducible refine gate_callee (f := 16) rfl ?_); refine goesL_ (some 24) rfl rfl Try.func16 (by kernel_rfl) rfl #[.int .u8 a1, .int .i64 a3] rfl (by (try simp only [List.map_toArray, List.map_cons, List.map_nil]); first | done | rfl | (simp only [List.length_drop, List.length_take]; rfl)) ?_; (with_reducible refine (trammelref02_Wrap.calls k a1 a3 t127 _ A8.out).mono ?_); rintro e w' ⟨rfl, ⟨nd, rfl⟩⟩; refine ⟨_, rfl, ?_⟩) | ((with_reducible refine gate_callee (f := 16) rfl ?_); refine goesL_ (some 90) rfl rfl Try.func16 (by kernel_rfl) rfl #[.int .u8 a1, .int .i64 (wrap64 (t126 + t127))] rfl (by (try simp only [List.map_toArray, List.map_cons, List.map_nil]); first | done | rfl | (simp only [List.length_drop, List.length_take]; rfl)) ?_; (with_reducible refine (trammelref02_Wrap.calls k a1 (wrap64 (t126 + t127)) t128 _ A11.out).mono ?_); rintro e w' ⟨rfl, ⟨nd, rfl⟩⟩; refine ⟨_, rfl, ?_⟩))
        go_ret2
        exact ⟨by first | rfl | (simp; done) | (simp [*]; done), by repeat (first | exact Drawn0.refl _ | apply Drawn0.step)⟩
      · rw [if_neg c10] at H
        have c10b0 : (a0 == 11) = false := beq_eq_false_iff_ne.mpr c10
        have c10b1 : (a0 != 11) = true := bne_iff_ne.mpr c10
        by_cases c12 : a0 = 12
        · rw [if_pos c12] at H
          have c12b0 : (a0 == 12) = true := beq_iff_eq.mpr c12
          have c12b1 : (a0 != 12) = false := bne_eq_false_iff_eq.mpr c12
          clear c12
          replace H := Option.bind_eq_some_iff.mp H
          obtain ⟨t129, A130, H⟩ := H
          replace H : (some (t129, 0)) = some (r1, r2) := H
          have A13 := Aside0.mk A130
          clear A130
          simp only [Option.some.injEq, Prod.mk.injEq] at H
          obtain ⟨rfl, rfl⟩ := H
          go_enter Try.func23, Try.ntmps23
          go_wp2_with (first | ((with_reducible refine gate_callee (f := 12) rfl ?_); refine goesL_ (some 16) rfl rfl Try.func12 (by kernel_rfl) rfl #[.int .u8 a1] rfl (by (try simp only [List.map_toArray, List.map_cons, List.map_nil]); first | done | rfl | (simp only [List.length_drop, List.length_take]; rfl)) ?_; (with_reducible refine (trammelref02_Bits.calls a1 t125 _ A5.out).mono ?_); rintro e w' ⟨rfl, ⟨nd, rfl⟩⟩; refine ⟨_, rfl, ?_⟩) | ((with_reducible refine gate_callee (f := 16) rfl ?_); refine goesL_ (some 21) rfl rfl Try.func16 (by kernel_rfl) rfl #[.int .u8 a1, .int .i64 a2] rfl (by (try simp only [List.map_toArray, List.map_cons, List.map_nil]); first | done | rfl | (simp only [List.length_drop, List.length_take]; rfl)) ?_; (with_reducible refine (trammelref02_Wrap.calls k a1 a2 t126 _ A7.out).mono ?_); rintro e w' ⟨rfl, ⟨nd, rfl⟩⟩; refine ⟨_, rfl, ?_⟩) | ((with_reducible refine gate_callee (f := 16) rfl ?_); refine goesL_ (some 24) rfl rfl Try.func16 (by kernel_rfl) rfl #[.int .u8 a1, .int .i64 a3] rfl (by (try simp only [List.map_toArray, List.map_cons, List.map_nil]); first | done | rfl | (simp only [List.length_drop, List.length_take]; rfl)) ?_; (with_reducible refine (trammelref02_Wrap.calls k a1 a3 t127 _ A8.out).mono ?_); rintro e w' ⟨rfl, ⟨nd, rfl⟩⟩; refine ⟨_, rfl, ?_⟩) | ((with_reducible refine gate_callee (f := 16) rfl ?_); refine goesL_ (some 90) rfl rfl Try.func16 (by kernel_rfl) rfl #[.int .u8 a1, .int .i64 (wrap64 (t126 - t127))] rfl (by (try simp only [List.map_toArray, List.map_cons, List.map_nil]); first | done | rfl | (simp only [List.length_drop, List.length_take]; rfl)) ?_; (with_reducible refine (trammelref02_Wrap.calls k a1 (wrap64 (t126 - t127)) t129 _ A13.out).mono ?_); rintro e w' ⟨rfl, ⟨nd, rfl⟩⟩; refine ⟨_, rfl, ?_⟩))
          go_ret2
          exact ⟨by first | rfl | (simp; done) | (simp [*]; done), by repeat (first | exact Drawn0.refl _ | apply Drawn0.step)⟩
        · rw [if_neg c12] at H
          have c12b0 : (a0 == 12) = false := beq_eq_false_iff_ne.mpr c12
          have c12b1 : (a0 != 12) = true := bne_iff_ne.mpr c12
          by_cases c14 : a0 = 13
          · rw [if_pos c14] at H
            have c14b0 : (a0 == 13) = true := beq_iff_eq.mpr c14
            have c14b1 : (a0 != 13) = false := bne_eq_false_iff_eq.mpr c14
            clear c14
            replace H := Option.bind_eq_some_iff.mp H
            obtain ⟨t130, A150, H⟩ := H
            replace H : (some (t130, 0)) = some (r1, r2) := H
            have A15 := Aside0.mk A150
            clear A150
            simp only [Option.some.injEq, Prod.mk.injEq] at H
            obtain ⟨rfl, rfl⟩ := H
            go_enter Try.func23, Try.ntmps23
            go_wp2_with (first | ((with_reducible refine gate_callee (f := 12) rfl ?_); refine goesL_ (some 16) rfl rfl Try.func12 (by kernel_rfl) rfl #[.int .u8 a1] rfl (by (try simp only [List.map_toArray, List.map_cons, List.map_nil]); first | done | rfl | (simp only [List.length_drop, List.length_take]; rfl)) ?_; (with_reducible refine (trammelref02_Bits.calls a1 t125 _ A5.out).mono ?_); rintro e w' ⟨rfl, ⟨nd, rfl⟩⟩; refine ⟨_, rfl, ?_⟩) | ((with_reducible refine gate_callee (f := 16) rfl ?_); refine goesL_ (some 21) rfl rfl Try.func16 (by kernel_rfl) rfl #[.int .u8 a1, .int .i64 a2] rfl (by (try simp only [List.map_toArray, List.map_cons, List.map_nil]); first | done | rfl | (simp only [List.length_drop, List.length_take]; rfl)) ?_; (with_reducible refine (trammelref02_Wrap.calls k a1 a2 t126 _ A7.out).mono ?_); rintro e w' ⟨rfl, ⟨nd, rfl⟩⟩; refine ⟨_, rfl, ?_⟩) | ((with_reducible refine gate_callee (f := 16) rfl ?_); refine goesL_ (some 24) rfl rfl Try.func16 (by kernel_rfl) rfl #[.int .u8 a1, .int .i64 a3] rfl (by (try simp only [List.map_toArray, List.map_cons, List.map_nil]); first | done | rfl | (simp only [List.length_drop, List.length_take]; rfl)) ?_; (with_reducible refine (trammelref02_Wrap.calls k a1 a3 t127 _ A8.out).mono ?_); rintro e w' ⟨rfl, ⟨nd, rfl⟩⟩; refine ⟨_, rfl, ?_⟩) | ((with_reducible refine gate_callee (f := 16) rfl ?_); refine goesL_ (some 90) rfl rfl Try.func16 (by kernel_rfl) rfl #[.int .u8 a1, .int .i64 (wrap64 (t126 * t127))] rfl (by (try simp only [List.map_toArray, List.map_cons, List.map_nil]); first | done | rfl | (simp only [List.length_drop, List.length_take]; rfl)) ?_; (with_reducible refine (trammelref02_Wrap.calls k a1 (wrap64 (t126 * t127)) t130 _ A15.out).mono ?_); rintro e w' ⟨rfl, ⟨nd, rfl⟩⟩; refine ⟨_, rfl, ?_⟩))
            go_ret2
            exact ⟨by first | rfl | (simp; done) | (simp [*]; done), by repeat (first | exact Drawn0.refl _ | apply Drawn0.step)⟩
          · rw [if_neg c14] at H
            have c14b0 : (a0 == 13) = false := beq_eq_false_iff_ne.mpr c14
            have c14b1 : (a0 != 13) = true := bne_iff_ne.mpr c14
            have HC16 := Aside0.mk H
            clear H
            go_enter Try.func23, Try.ntmps23
            go_upto_if 47 with (first | ((with_reducible refine gate_callee (f := 12) rfl ?_); refine goesL_ (some 16) rfl rfl Try.func12 (by kernel_rfl) rfl #[.int .u8 a1] rfl (by (try simp only [List.map_toArray, List.map_cons, List.map_nil]); first | done | rfl | (simp only [List.length_drop, List.length_take]; rfl)) ?_; (with_reducible refine (trammelref02_Bits.calls a1 t125 _ A5.out).mono ?_); rintro e w' ⟨rfl, ⟨nd, rfl⟩⟩; refine ⟨_, rfl, ?_⟩) | ((with_reducible refine gate_callee (f := 16) rfl ?_); refine goesL_ (some 21) rfl rfl Try.func16 (by kernel_rfl) rfl #[.int .u8 a1, .int .i64 a2] rfl (by (try simp only [List.map_toArray, List.map_cons, List.map_nil]); first | done | rfl | (simp only [List.length_drop, List.length_take]; rfl)) ?_; (with_reducible refine (trammelref02_Wrap.calls k a1 a2 t126 _ A7.out).mono ?_); rintro e w' ⟨rfl, ⟨nd, rfl⟩⟩; refine ⟨_, rfl, ?_⟩) | ((with_reducible refine gate_callee (f := 16) rfl ?_); refine goesL_ (some 24) rfl rfl Try.func16 (by kernel_rfl) rfl #[.int .u8 a1, .int .i64 a3] rfl (by (try simp only [List.map_toArray, List.map_cons, List.map_nil]); first | done | rfl | (simp only [List.length_drop, List.length_take]; rfl)) ?_; (with_reducible refine (trammelref02_Wrap.calls k a1 a3 t127 _ A8.out).mono ?_); rintro e w' ⟨rfl, ⟨nd, rfl⟩⟩; refine ⟨_, rfl, ?_⟩))
            (try simp only [Act.put, List.setIfInBounds_toArray, List.set_cons_zero, List.set_cons_succ])
            go_cut [47] (fun v47 wc => ∃ (kq : Nat) (x47_15 : Bool), v47 = .bool x47_15 ∧ Aside0 (trammelref02_Two.j0 kq a0 a1 t126 t127 (wrap64 (Int.tmod (IntKind.u64.wrap (t127)) (IntKind.u64.wrap (t125)))) 0 a0 x47_15 = some (r1, r2)) ∧ Aside0 (kq ≤ k) ∧ Drawn0 w wc)
            case first =>
              have H := HC16.out
              clear HC16
              by_cases c17 : a0 = 14
              · rw [if_pos c17] at H
                have c17b0 : (a0 == 14) = true := beq_iff_eq.mpr c17
                have c17b1 : (a0 != 14) = false := bne_eq_false_iff_eq.mpr c17
                clear c17
                (first | rw [c17b0] | (simp only [i64_w, i32_w]; rw [c17b0]) | skip)
                have H' := Aside0.mk H
                clear H
                go_wp2
                go_meet
                case rel => exact ⟨_, ((a0 == 14)), (by first | rfl | (simp; done) | (simp [*]; done)), H', ⟨by first | omega | exact Nat.le_refl _⟩, by repeat (first | exact Drawn0.refl _ | apply Drawn0.step)⟩
              · rw [if_neg c17] at H
                have c17b0 : (a0 == 14) = false := beq_eq_false_iff_ne.mpr c17
                have c17b1 : (a0 != 14) = true := bne_iff_ne.mpr c17
                (first | rw [c17b0] | (simp only [i64_w, i32_w]; rw [c17b0]) | skip)
                have H' := Aside0.mk H
                clear H
                go_wp2
                go_meet
                case rel => exact ⟨_, ((a0 == 15)), (by first | rfl | (simp; done) | (simp [*]; done)), H', ⟨by first | omega | exact Nat.le_refl _⟩, by repeat (first | exact Drawn0.refl _ | apply Drawn0.step)⟩
            case rest =>
              clear HC16
              try clear c1
              try clear c2
              try clear p2
              try clear c6
              try clear c6b0
              try clear c6b1
              try clear p6
              try clear c9
              try clear c9b0
              try clear c9b1
              try clear c10
              try clear c10b0
              try clear c10b1
              try clear c12
              try clear c12b0
              try clear c12b1
              try clear c14
              try clear c14b0
              try clear c14b1
              try clear c16
              try clear c17
              try clear c17b0
              try clear c17b1
              obtain ⟨kq, x47_15, rfl, HA, HJ15, ⟨mc15, rfl⟩⟩ := hcut
              cases kq with
              | zero => exact absurd HA.out (by simp [trammelref02_Two.j0])
              | succ kj15 =>
                have H := HA.out
                clear HA
                simp only [trammelref02_Two.j0] at H
                by_cases c18 : x47_15 = true
                · subst c18
                  have H1 : (if t127 = 0 then (some (0, 1)) else ((trammelref02_divided.f kj15 t126 t127).bind fun bt131 => (if a0 = 15 then ((trammelref02_Wrap.f kj15 a1 bt131.2).bind fun t133 => (some (t133, 0))) else ((trammelref02_Wrap.f kj15 a1 bt131.1).bind fun t134 => (some (t134, 0)))))) = some (r1, r2) := by rw [if_pos rfl] at H; exact H
                  clear H
                  have H := H1
                  clear H1
                  by_cases c19 : t127 = 0
                  · rw [if_pos c19] at H
                    have c19b0 : (t127 == 0) = true := beq_iff_eq.mpr c19
                    have c19b1 : (t127 != 0) = false := bne_eq_false_iff_eq.mpr c19
                    clear c19
                    simp only [Option.some.injEq, Prod.mk.injEq] at H
                    obtain ⟨rfl, rfl⟩ := H
                    go_wp2
                    go_ret2
                    exact ⟨by first | rfl | (simp; done) | (simp [*]; done), by repeat (first | exact Drawn0.refl _ | apply Drawn0.step)⟩
                  · rw [if_neg c19] at H
                    have c19b0 : (t127 == 0) = false := beq_eq_false_iff_ne.mpr c19
                    have c19b1 : (t127 != 0) = true := bne_iff_ne.mpr c19
                    replace H := Option.bind_eq_some_iff.mp H
                    obtain ⟨⟨t131, t132⟩, A200, H⟩ := H
                    replace H : (if a0 = 15 then ((trammelref02_Wrap.f kj15 a1 t132).bind fun t133 => (some (t133, 0))) else ((trammelref02_Wrap.f kj15 a1 t131).bind fun t134 => (some (t134, 0)))) = some (r1, r2) := H
                    have A20 := Aside0.mk A200
                    clear A200
                    by_cases c21 : a0 = 15
                    · rw [if_pos c21] at H
                      have c21b0 : (a0 == 15) = true := beq_iff_eq.mpr c21
                      have c21b1 : (a0 != 15) = false := bne_eq_false_iff_eq.mpr c21
                      clear c21
                      replace H := Option.bind_eq_some_iff.mp H
                      obtain ⟨t133, A220, H⟩ := H
                      replace H : (some (t133, 0)) = some (r1, r2) := H
                      have A22 := Aside0.mk A220
                      clear A220
                      simp only [Option.some.injEq, Prod.mk.injEq] at H
                      obtain ⟨rfl, rfl⟩ := H
                      go_wp2_with (first | ((with_reducible refine gate_callee (f := 33) rfl ?_); refine goesL_ (some 55) rfl rfl Try.func33 (by kernel_rfl) rfl #[.int .i64 t126, .int .i64 t127] rfl (by (try simp only [List.map_toArray, List.map_cons, List.map_nil]); first | done | rfl | (simp only [List.length_drop, List.length_take]; rfl)) ?_; (with_reducible refine (trammelref02_divided.calls kj15 t126 t127 t131 t132 _ A20.out).mono ?_); rintro e w' ⟨rfl, ⟨nd, rfl⟩⟩; refine ⟨_, rfl, ?_⟩) | ((with_reducible refine gate_callee (f := 16) rfl ?_); refine goesL_ (some 90) rfl rfl Try.func16 (by kernel_rfl) rfl #[.int .u8 a1, .int .i64 t132] rfl (by (try simp only [List.map_toArray, List.map_cons, List.map_nil]); first | done | rfl | (simp only [List.length_drop, List.length_take]; rfl)) ?_; (with_reducible refine (trammelref02_Wrap.calls kj15 a1 t132 t133 _ A22.out).mono ?_); rintro e w' ⟨rfl, ⟨nd, rfl⟩⟩; refine ⟨_, rfl, ?_⟩))
                      go_ret2
                      exact ⟨by first | rfl | (simp; done) | (simp [*]; done), by repeat (first | exact Drawn0.refl _ | apply Drawn0.step)⟩
                    · rw [if_neg c21] at H
                      have c21b0 : (a0 == 15) = false := beq_eq_false_iff_ne.mpr c21
                      have c21b1 : (a0 != 15) = true := bne_iff_ne.mpr c21
                      replace H := Option.bind_eq_some_iff.mp H
                      obtain ⟨t134, A230, H⟩ := H
                      replace H : (some (t134, 0)) = some (r1, r2) := H
                      have A23 := Aside0.mk A230
                      clear A230
                      simp only [Option.some.injEq, Prod.mk.injEq] at H
                      obtain ⟨rfl, rfl⟩ := H
                      go_wp2_with (first | ((with_reducible refine gate_callee (f := 33) rfl ?_); refine goesL_ (some 55) rfl rfl Try.func33 (by kernel_rfl) rfl #[.int .i64 t126, .int .i64 t127] rfl (by (try simp only [List.map_toArray, List.map_cons, List.map_nil]); first | done | rfl | (simp only [List.length_drop, List.length_take]; rfl)) ?_; (with_reducible refine (trammelref02_divided.calls kj15 t126 t127 t131 t132 _ A20.out).mono ?_); rintro e w' ⟨rfl, ⟨nd, rfl⟩⟩; refine ⟨_, rfl, ?_⟩) | ((with_reducible refine gate_callee (f := 16) rfl ?_); refine goesL_ (some 90) rfl rfl Try.func16 (by kernel_rfl) rfl #[.int .u8 a1, .int .i64 t131] rfl (by (try simp only [List.map_toArray, List.map_cons, List.map_nil]); first | done | rfl | (simp only [List.length_drop, List.length_take]; rfl)) ?_; (with_reducible refine (trammelref02_Wrap.calls kj15 a1 t131 t134 _ A23.out).mono ?_); rintro e w' ⟨rfl, ⟨nd, rfl⟩⟩; refine ⟨_, rfl, ?_⟩))
                      go_ret2
                      exact ⟨by first | rfl | (simp; done) | (simp [*]; done), by repeat (first | exact Drawn0.refl _ | apply Drawn0.step)⟩
                · replace c18 := Bool.eq_false_iff.mpr c18
                  subst c18
                  have H1 : (if a0 = 16 then ((trammelref02_bits.f kj15 t126 t127 true false).bind fun t135 => ((trammelref02_Wrap.f kj15 a1 t135).bind fun t136 => (some (t136, 0)))) else (if a0 = 17 then ((trammelref02_bits.f kj15 t126 t127 true true).bind fun t137 => ((trammelref02_Wrap.f kj15 a1 t137).bind fun t138 => (some (t138, 0)))) else (if a0 = 18 then ((trammelref02_bits.f kj15 t126 t127 false true).bind fun t139 => ((trammelref02_Wrap.f kj15 a1 t139).bind fun t140 => (some (t140, 0)))) else (if a0 = 19 then ((trammelref02_power.f (wrap64 (Int.tmod (IntKind.u64.wrap (t127)) (IntKind.u64.wrap (t125))))).bind fun t141 => ((trammelref02_Wrap.f kj15 a1 (wrap64 (t126 * t141))).bind fun t142 => (some (t142, 0)))) else (if a0 = 20 then ((trammelref02_down.f kj15 t126 (wrap64 (Int.tmod (IntKind.u64.wrap (t127)) (IntKind.u64.wrap (t125))))).bind fun t143 => ((trammelref02_Wrap.f kj15 a1 t143).bind fun t144 => (some (t144, 0)))) else ((trammelref02_Wrap.f kj15 a1 0).bind fun t145 => (some (t145, 0)))))))) = some (r1, r2) := by rw [if_neg (show ¬ (false = true) by decide)] at H; exact H
                  clear H
                  have H := H1
                  clear H1
                  by_cases c24 : a0 = 16
                  · rw [if_pos c24] at H
                    have c24b0 : (a0 == 16) = true := beq_iff_eq.mpr c24
                    have c24b1 : (a0 != 16) = false := bne_eq_false_iff_eq.mpr c24
                    clear c24
                    replace H := Option.bind_eq_some_iff.mp H
                    obtain ⟨t135, A250, H⟩ := H
                    replace H : ((trammelref02_Wrap.f kj15 a1 t135).bind fun t136 => (some (t136, 0))) = some (r1, r2) := H
                    have A25 := Aside0.mk A250
                    clear A250
                    replace H := Option.bind_eq_some_iff.mp H
                    obtain ⟨t136, A260, H⟩ := H
                    replace H : (some (t136, 0)) = some (r1, r2) := H
                    have A26 := Aside0.mk A260
                    clear A260
                    simp only [Option.some.injEq, Prod.mk.injEq] at H
                    obtain ⟨rfl, rfl⟩ := H
                    go_wp2_with (first | ((with_reducible refine gate_callee (f := 34) rfl ?_); refine goesL_ (some 66) rfl rfl Try.func34 (by kernel_rfl) rfl #[.int .i64 t126, .int .i64 t127, .bool true, .bool false] rfl (by (try simp only [List.map_toArray, List.map_cons, List.map_nil]); first | done | rfl | (simp only [List.length_drop, List.length_take]; rfl)) ?_; (with_reducible refine (trammelref02_bits.calls kj15 t126 t127 true false t135 _ A25.out).mono ?_); rintro e w' ⟨rfl, ⟨nd, rfl⟩⟩; refine ⟨_, rfl, ?_⟩) | ((with_reducible refine gate_callee (f := 16) rfl ?_); refine goesL_ (some 90) rfl rfl Try.func16 (by kernel_rfl) rfl #[.int .u8 a1, .int .i64 t135] rfl (by (try simp only [List.map_toArray, List.map_cons, List.map_nil]); first | done | rfl | (simp only [List.length_drop, List.length_take]; rfl)) ?_; (with_reducible refine (trammelref02_Wrap.calls kj15 a1 t135 t136 _ A26.out).mono ?_); rintro e w' ⟨rfl, ⟨nd, rfl⟩⟩; refine ⟨_, rfl, ?_⟩))
                    go_ret2
                    exact ⟨by first | rfl | (simp; done) | (simp [*]; done), by repeat (first | exact Drawn0.refl _ | apply Drawn0.step)⟩
                  · rw [if_neg c24] at H
                    have c24b0 : (a0 == 16) = false := beq_eq_false_iff_ne.mpr c24
                    have c24b1 : (a0 != 16) = true := bne_iff_ne.mpr c24
                    by_cases c27 : a0 = 17
                    · rw [if_pos c27] at H
                      have c27b0 : (a0 == 17) = true := beq_iff_eq.mpr c27
                      have c27b1 : (a0 != 17) = false := bne_eq_false_iff_eq.mpr c27
                      clear c27
                      replace H := Option.bind_eq_some_iff.mp H
                      obtain ⟨t137, A280, H⟩ := H
                      replace H : ((trammelref02_Wrap.f kj15 a1 t137).bind fun t138 => (some (t138, 0))) = some (r1, r2) := H
                      have A28 := Aside0.mk A280
                      clear A280
                      replace H := Option.bind_eq_some_iff.mp H
                      obtain ⟨t138, A290, H⟩ := H
                      replace H : (some (t138, 0)) = some (r1, r2) := H
                      have A29 := Aside0.mk A290
                      clear A290
                      simp only [Option.some.injEq, Prod.mk.injEq] at H
                      obtain ⟨rfl, rfl⟩ := H
                      go_wp2_with (first | ((with_reducible refine gate_callee (f := 34) rfl ?_); refine goesL_ (some 71) rfl rfl Try.func34 (by kernel_rfl) rfl #[.int .i64 t126, .int .i64 t127, .bool true, .bool true] rfl (by (try simp only [List.map_toArray, List.map_cons, List.map_nil]); first | done | rfl | (simp only [List.length_drop, List.length_take]; rfl)) ?_; (with_reducible refine (trammelref02_bits.calls kj15 t126 t127 true true t137 _ A28.out).mono ?_); rintro e w' ⟨rfl, ⟨nd, rfl⟩⟩; refine ⟨_, rfl, ?_⟩) | ((with_reducible refine gate_callee (f := 16) rfl ?_); refine goesL_ (some 90) rfl rfl Try.func16 (by kernel_rfl) rfl #[.int .u8 a1, .int .i64 t137] rfl (by (try simp only [List.map_toArray, List.map_cons, List.map_nil]); first | done | rfl | (simp only [List.length_drop, List.length_take]; rfl)) ?_; (with_reducible refine (trammelref02_Wrap.calls kj15 a1 t137 t138 _ A29.out).mono ?_); rintro e w' ⟨rfl, ⟨nd, rfl⟩⟩; refine ⟨_, rfl, ?_⟩))
                      go_ret2
                      exact ⟨by first | rfl | (simp; done) | (simp [*]; done), by repeat (first | exact Drawn0.refl _ | apply Drawn0.step)⟩
                    · rw [if_neg c27] at H
                      have c27b0 : (a0 == 17) = false := beq_eq_false_iff_ne.mpr c27
                      have c27b1 : (a0 != 17) = true := bne_iff_ne.mpr c27
                      by_cases c30 : a0 = 18
                      · rw [if_pos c30] at H
                        have c30b0 : (a0 == 18) = true := beq_iff_eq.mpr c30
                        have c30b1 : (a0 != 18) = false := bne_eq_false_iff_eq.mpr c30
                        clear c30
                        replace H := Option.bind_eq_some_iff.mp H
                        obtain ⟨t139, A310, H⟩ := H
                        replace H : ((trammelref02_Wrap.f kj15 a1 t139).bind fun t140 => (some (t140, 0))) = some (r1, r2) := H
                        have A31 := Aside0.mk A310
                        clear A310
                        replace H := Option.bind_eq_some_iff.mp H
                        obtain ⟨t140, A320, H⟩ := H
                        replace H : (some (t140, 0)) = some (r1, r2) := H
                        have A32 := Aside0.mk A320
                        clear A320
                        simp only [Option.some.injEq, Prod.mk.injEq] at H
                        obtain ⟨rfl, rfl⟩ := H
                        go_wp2_with (first | ((with_reducible refine gate_callee (f := 34) rfl ?_); refine goesL_ (some 76) rfl rfl Try.func34 (by kernel_rfl) rfl #[.int .i64 t126, .int .i64 t127, .bool false, .bool true] rfl (by (try simp only [List.map_toArray, List.map_cons, List.map_nil]); first | done | rfl | (simp only [List.length_drop, List.length_take]; rfl)) ?_; (with_reducible refine (trammelref02_bits.calls kj15 t126 t127 false true t139 _ A31.out).mono ?_); rintro e w' ⟨rfl, ⟨nd, rfl⟩⟩; refine ⟨_, rfl, ?_⟩) | ((with_reducible refine gate_callee (f := 16) rfl ?_); refine goesL_ (some 90) rfl rfl Try.func16 (by kernel_rfl) rfl #[.int .u8 a1, .int .i64 t139] rfl (by (try simp only [List.map_toArray, List.map_cons, List.map_nil]); first | done | rfl | (simp only [List.length_drop, List.length_take]; rfl)) ?_; (with_reducible refine (trammelref02_Wrap.calls kj15 a1 t139 t140 _ A32.out).mono ?_); rintro e w' ⟨rfl, ⟨nd, rfl⟩⟩; refine ⟨_, rfl, ?_⟩))
                        go_ret2
                        exact ⟨by first | rfl | (simp; done) | (simp [*]; done), by repeat (first | exact Drawn0.refl _ | apply Drawn0.step)⟩
                      · rw [if_neg c30] at H
                        have c30b0 : (a0 == 18) = false := beq_eq_false_iff_ne.mpr c30
                        have c30b1 : (a0 != 18) = true := bne_iff_ne.mpr c30
                        by_cases c33 : a0 = 19
                        · rw [if_pos c33] at H
                          have c33b0 : (a0 == 19) = true := beq_iff_eq.mpr c33
                          have c33b1 : (a0 != 19) = false := bne_eq_false_iff_eq.mpr c33
                          clear c33
                          replace H := Option.bind_eq_some_iff.mp H
                          obtain ⟨t141, A340, H⟩ := H
                          replace H : ((trammelref02_Wrap.f kj15 a1 (wrap64 (t126 * t141))).bind fun t142 => (some (t142, 0))) = some (r1, r2) := H
                          have A34 := Aside0.mk A340
                          clear A340
                          replace H := Option.bind_eq_some_iff.mp H
                          obtain ⟨t142, A350, H⟩ := H
                          replace H : (some (t142, 0)) = some (r1, r2) := H
                          have A35 := Aside0.mk A350
                          clear A350
                          simp only [Option.some.injEq, Prod.mk.injEq] at H
                          obtain ⟨rfl, rfl⟩ := H
                          go_wp2_with (first | ((with_reducible refine gate_callee (f := 35) rfl ?_); refine goesL_ (some 81) rfl rfl Try.func35 (by kernel_rfl) rfl #[.int .i64 (wrap64 (Int.tmod (IntKind.u64.wrap (t127)) (IntKind.u64.wrap (t125))))] rfl (by (try simp only [List.map_toArray, List.map_cons, List.map_nil]); first | done | rfl | (simp only [List.length_drop, List.length_take]; rfl)) ?_; (with_reducible refine (trammelref02_power.calls (wrap64 (Int.tmod (IntKind.u64.wrap (t127)) (IntKind.u64.wrap (t125)))) t141 _ A34.out).mono ?_); rintro e w' ⟨rfl, ⟨nd, rfl⟩⟩; refine ⟨_, rfl, ?_⟩) | ((with_reducible refine gate_callee (f := 16) rfl ?_); refine goesL_ (some 90) rfl rfl Try.func16 (by kernel_rfl) rfl #[.int .u8 a1, .int .i64 (wrap64 (t126 * t141))] rfl (by (try simp only [List.map_toArray, List.map_cons, List.map_nil]); first | done | rfl | (simp only [List.length_drop, List.length_take]; rfl)) ?_; (with_reducible refine (trammelref02_Wrap.calls kj15 a1 (wrap64 (t126 * t141)) t142 _ A35.out).mono ?_); rintro e w' ⟨rfl, ⟨nd, rfl⟩⟩; refine ⟨_, rfl, ?_⟩))
                          go_ret2
                          exact ⟨by first | rfl | (simp; done) | (simp [*]; done), by repeat (first | exact Drawn0.refl _ | apply Drawn0.step)⟩
                        · rw [if_neg c33] at H
                          have c33b0 : (a0 == 19) = false := beq_eq_false_iff_ne.mpr c33
                          have c33b1 : (a0 != 19) = true := bne_iff_ne.mpr c33
                          by_cases c36 : a0 = 20
                          · rw [if_pos c36] at H
                            have c36b0 : (a0 == 20) = true := beq_iff_eq.mpr c36
                            have c36b1 : (a0 != 20) = false := bne_eq_false_iff_eq.mpr c36
                            clear c36
                            replace H := Option.bind_eq_some_iff.mp H
                            obtain ⟨t143, A370, H⟩ := H
                            replace H : ((trammelref02_Wrap.f kj15 a1 t143).bind fun t144 => (some (t144, 0))) = some (r1, r2) := H
                            have A37 := Aside0.mk A370
                            clear A370
                            replace H := Option.bind_eq_some_iff.mp H
                            obtain ⟨t144, A380, H⟩ := H
                            replace H : (some (t144, 0)) = some (r1, r2) := H
                            have A38 := Aside0.mk A380
                            clear A380
                            simp only [Option.some.injEq, Prod.mk.injEq] at H
                            obtain ⟨rfl, rfl⟩ := H
                            go_wp2_with (first | ((with_reducible refine gate_callee (f := 36) rfl ?_); refine goesL_ (some 87) rfl rfl Try.func36 (by kernel_rfl) rfl #[.int .i64 t126, .int .i64 (wrap64 (Int.tmod (IntKind.u64.wrap (t127)) (IntKind.u64.wrap (t125))))] rfl (by (try simp only [List.map_toArray, List.map_cons, List.map_nil]); first | done | rfl | (simp only [List.length_drop, List.length_take]; rfl)) ?_; (with_reducible refine (trammelref02_down.calls kj15 t126 (wrap64 (Int.tmod (IntKind.u64.wrap (t127)) (IntKind.u64.wrap (t125)))) t143 _ A37.out).mono ?_); rintro e w' ⟨rfl, ⟨nd, rfl⟩⟩; refine ⟨_, rfl, ?_⟩) | ((with_reducible refine gate_callee (f := 16) rfl ?_); refine goesL_ (some 90) rfl rfl Try.func16 (by kernel_rfl) rfl #[.int .u8 a1, .int .i64 t143] rfl (by (try simp only [List.map_toArray, List.map_cons, List.map_nil]); first | done | rfl | (simp only [List.length_drop, List.length_take]; rfl)) ?_; (with_reducible refine (trammelref02_Wrap.calls kj15 a1 t143 t144 _ A38.out).mono ?_); rintro e w' ⟨rfl, ⟨nd, rfl⟩⟩; refine ⟨_, rfl, ?_⟩))
                            go_ret2
                            exact ⟨by first | rfl | (simp; done) | (simp [*]; done), by repeat (first | exact Drawn0.refl _ | apply Drawn0.step)⟩
                          · rw [if_neg c36] at H
                            have c36b0 : (a0 == 20) = false := beq_eq_false_iff_ne.mpr c36
                            have c36b1 : (a0 != 20) = true := bne_iff_ne.mpr c36
                            replace H := Option.bind_eq_some_iff.mp H
                            obtain ⟨t145, A390, H⟩ := H
                            replace H : (some (t145, 0)) = some (r1, r2) := H
                            have A39 := Aside0.mk A390
                            clear A390
                            simp only [Option.some.injEq, Prod.mk.injEq] at H
                            obtain ⟨rfl, rfl⟩ := H
                            go_wp2_with (first | ((with_reducible refine gate_callee (f := 16) rfl ?_); refine goesL_ (some 90) rfl rfl Try.func16 (by kernel_rfl) rfl #[.int .u8 a1, .int .i64 0] rfl (by (try simp only [List.map_toArray, List.map_cons, List.map_nil]); first | done | rfl | (simp only [List.length_drop, List.length_take]; rfl)) ?_; (with_reducible refine (trammelref02_Wrap.calls kj15 a1 0 t145 _ A39.out).mono ?_); rintro e w' ⟨rfl, ⟨nd, rfl⟩⟩; refine ⟨_, rfl, ?_⟩))
                            go_ret2
                            exact ⟨by first | rfl | (simp; done) | (simp [*]; done), by repeat (first | exact Drawn0.refl _ | apply Drawn0.step)⟩

/-! ### trammelref02_One: function 24 -/
def trammelref02_One.f (k : Nat) (a0 : Int) (a1 : Int) (a2 : Int) : Option (Int) := if a0 = 21 then ((trammelref02_Wrap.f k a1 a2).bind fun t146 => ((trammelref02_Wrap.f k a1 (wrap64 (-t146))).bind fun t147 => (some t147))) else (if a0 = 22 then ((trammelref02_Wrap.f k a1 a2).bind fun t148 => ((trammelref02_Wrap.f k a1 (wrap64 ((-1) - t148))).bind fun t149 => (some t149))) else (some 0))
theorem trammelref02_One.mono : ∀ a0 a1 a2 k, LeO (trammelref02_One.f k a0 a1 a2) (trammelref02_One.f (k + 1) a0 a1 a2) := by
  intro a0 a1 a2 k
  unfold trammelref02_One.f
  repeat' first
      | (with_reducible exact trammelref02_Wrap.mono _ _ _)
      | (with_reducible exact LeO.refl _)
      | (with_reducible exact LeO.none _)
      | (with_reducible refine LeO.ite ?_ ?_)
      | (with_reducible refine LeO.bind ?_ (fun _ => ?_))
      | exact trammelref02_Wrap.mono _ _ _
      | exact LeO.none _
      | refine LeO.ite ?_ ?_
      | refine LeO.bind ?_ (fun _ => ?_)
set_option maxHeartbeats 8000000 in
set_option maxRecDepth 100000 in
theorem trammelref02_One.calls (k : Nat) (a0 : Int) (a1 : Int) (a2 : Int) (r : Int) (w : World) (h : trammelref02_One.f k a0 a1 a2 = some r) :
    Calls Try.prog 24 #[.int .u8 a0, .int .u8 a1, .int .i64 a2] w fun e w' => e = .returned (.int .i64 r) ∧ Drawn0 w w' := by
  have H : (if a0 = 21 then ((trammelref02_Wrap.f k a1 a2).bind fun t146 => ((trammelref02_Wrap.f k a1 (wrap64 (-t146))).bind fun t147 => (some t147))) else (if a0 = 22 then ((trammelref02_Wrap.f k a1 a2).bind fun t148 => ((trammelref02_Wrap.f k a1 (wrap64 ((-1) - t148))).bind fun t149 => (some t149))) else (some 0))) = some r := h
  clear h
  by_cases c4 : a0 = 21
  · rw [if_pos c4] at H
    have c4b0 : (a0 == 21) = true := beq_iff_eq.mpr c4
    have c4b1 : (a0 != 21) = false := bne_eq_false_iff_eq.mpr c4
    clear c4
    replace H := Option.bind_eq_some_iff.mp H
    obtain ⟨t146, A50, H⟩ := H
    replace H : ((trammelref02_Wrap.f k a1 (wrap64 (-t146))).bind fun t147 => (some t147)) = some r := H
    have A5 := Aside0.mk A50
    clear A50
    replace H := Option.bind_eq_some_iff.mp H
    obtain ⟨t147, A60, H⟩ := H
    replace H : (some t147) = some r := H
    have A6 := Aside0.mk A60
    clear A60
    obtain rfl := Option.some.inj H
    go_enter Try.func24, Try.ntmps24
    go_wp2_with (first | ((with_reducible refine gate_callee (f := 16) rfl ?_); refine goesL_ (some 13) rfl rfl Try.func16 (by kernel_rfl) rfl #[.int .u8 a1, .int .i64 a2] rfl (by (try simp only [List.map_toArray, List.map_cons, List.map_nil]); first | done | rfl | (simp only [List.length_drop, List.length_take]; rfl)) ?_; (with_reducible refine (trammelref02_Wrap.calls k a1 a2 t146 _ A5.out).mono ?_); rintro e w' ⟨rfl, ⟨nd, rfl⟩⟩; refine ⟨_, rfl, ?_⟩) | ((with_reducible refine gate_callee (f := 16) rfl ?_); refine goesL_ (some 15) rfl rfl Try.func16 (by kernel_rfl) rfl #[.int .u8 a1, .int .i64 (wrap64 (-t146))] rfl (by (try simp only [List.map_toArray, List.map_cons, List.map_nil]); first | done | rfl | (simp only [List.length_drop, List.length_take]; rfl)) ?_; (with_reducible refine (trammelref02_Wrap.calls k a1 (wrap64 (-t146)) t147 _ A6.out).mono ?_); rintro e w' ⟨rfl, ⟨nd, rfl⟩⟩; refine ⟨_, rfl, ?_⟩))
    go_ret
    exact ⟨by first | rfl | (simp; done) | (simp [*]; done), by repeat (first | exact Drawn0.refl _ | apply Drawn0.step)⟩
  · rw [if_neg c4] at H
    have c4b0 : (a0 == 21) = false := beq_eq_false_iff_ne.mpr c4
    have c4b1 : (a0 != 21) = true := bne_iff_ne.mpr c4
    by_cases c7 : a0 = 22
    · rw [if_pos c7] at H
      have c7b0 : (a0 == 22) = true := beq_iff_eq.mpr c7
      have c7b1 : (a0 != 22) = false := bne_eq_false_iff_eq.mpr c7
      clear c7
      replace H := Option.bind_eq_some_iff.mp H
      obtain ⟨t148, A80, H⟩ := H
      replace H : ((trammelref02_Wrap.f k a1 (wrap64 ((-1) - t148))).bind fun t149 => (some t149)) = some r := H
      have A8 := Aside0.mk A80
      clear A80
      replace H := Option.bind_eq_some_iff.mp H
      obtain ⟨t149, A90, H⟩ := H
      replace H : (some t149) = some r := H
      have A9 := Aside0.mk A90
      clear A90
      obtain rfl := Option.some.inj H
      go_enter Try.func24, Try.ntmps24
      go_wp2_with (first | ((with_reducible refine gate_callee (f := 16) rfl ?_); refine goesL_ (some 21) rfl rfl Try.func16 (by kernel_rfl) rfl #[.int .u8 a1, .int .i64 a2] rfl (by (try simp only [List.map_toArray, List.map_cons, List.map_nil]); first | done | rfl | (simp only [List.length_drop, List.length_take]; rfl)) ?_; (with_reducible refine (trammelref02_Wrap.calls k a1 a2 t148 _ A8.out).mono ?_); rintro e w' ⟨rfl, ⟨nd, rfl⟩⟩; refine ⟨_, rfl, ?_⟩) | ((with_reducible refine gate_callee (f := 16) rfl ?_); refine goesL_ (some 23) rfl rfl Try.func16 (by kernel_rfl) rfl #[.int .u8 a1, .int .i64 (wrap64 ((-1) - t148))] rfl (by (try simp only [List.map_toArray, List.map_cons, List.map_nil]); first | done | rfl | (simp only [List.length_drop, List.length_take]; rfl)) ?_; (with_reducible refine (trammelref02_Wrap.calls k a1 (wrap64 ((-1) - t148)) t149 _ A9.out).mono ?_); rintro e w' ⟨rfl, ⟨nd, rfl⟩⟩; refine ⟨_, rfl, ?_⟩))
      go_ret
      exact ⟨by first | rfl | (simp; done) | (simp [*]; done), by repeat (first | exact Drawn0.refl _ | apply Drawn0.step)⟩
    · rw [if_neg c7] at H
      have c7b0 : (a0 == 22) = false := beq_eq_false_iff_ne.mpr c7
      have c7b1 : (a0 != 22) = true := bne_iff_ne.mpr c7
      obtain rfl := Option.some.inj H
      go_enter Try.func24, Try.ntmps24
      go_wp2
      go_ret
      exact ⟨by first | rfl | (simp; done) | (simp [*]; done), by repeat (first | exact Drawn0.refl _ | apply Drawn0.step)⟩

/-! ### trammelref02_Test: function 25 -/
def trammelref02_Test.f (k : Nat) (a0 : Int) (a1 : Int) (a2 : Int) (a3 : Int) : Option (Bool) := (trammelref02_Bits.f a1).bind fun t150 => (if t150 = 0 then (some false) else ((trammelref02_Wrap.f k a1 a2).bind fun t151 => ((trammelref02_Wrap.f k a1 a3).bind fun t152 => (if a0 = 23 then (some (t151 == t152)) else (if a0 = 24 then (some (t151 != t152)) else (if a0 = 25 then (some (decide (t151 < t152))) else (if a0 = 26 then (some (decide (t151 ≤ t152))) else (if a0 = 27 then (some (decide (t151 > t152))) else (if a0 = 28 then (some (decide (t151 ≥ t152))) else (some false))))))))))
theorem trammelref02_Test.mono : ∀ a0 a1 a2 a3 k, LeO (trammelref02_Test.f k a0 a1 a2 a3) (trammelref02_Test.f (k + 1) a0 a1 a2 a3) := by
  intro a0 a1 a2 a3 k
  unfold trammelref02_Test.f
  repeat' first
      | (with_reducible exact trammelref02_Wrap.mono _ _ _)
      | (with_reducible exact LeO.refl _)
      | (with_reducible exact LeO.none _)
      | (with_reducible refine LeO.ite ?_ ?_)
      | (with_reducible refine LeO.bind ?_ (fun _ => ?_))
      | exact trammelref02_Wrap.mono _ _ _
      | exact LeO.none _
      | refine LeO.ite ?_ ?_
      | refine LeO.bind ?_ (fun _ => ?_)
set_option maxHeartbeats 8000000 in
set_option maxRecDepth 100000 in
theorem trammelref02_Test.calls (k : Nat) (a0 : Int) (a1 : Int) (a2 : Int) (a3 : Int) (r : Bool) (w : World) (h : trammelref02_Test.f k a0 a1 a2 a3 = some r) :
    Calls Try.prog 25 #[.int .u8 a0, .int .u8 a1, .int .i64 a2, .int .i64 a3] w fun e w' => e = .returned (.bool r) ∧ Drawn0 w w' := by
  have H : ((trammelref02_Bits.f a1).bind fun t150 => (if t150 = 0 then (some false) else ((trammelref02_Wrap.f k a1 a2).bind fun t151 => ((trammelref02_Wrap.f k a1 a3).bind fun t152 => (if a0 = 23 then (some (t151 == t152)) else (if a0 = 24 then (some (t151 != t152)) else (if a0 = 25 then (some (decide (t151 < t152))) else (if a0 = 26 then (some (decide (t151 ≤ t152))) else (if a0 = 27 then (some (decide (t151 > t152))) else (if a0 = 28 then (some (decide (t151 ≥ t152))) else (some false))))))))))) = some r := h
  clear h
  replace H := Option.bind_eq_some_iff.mp H
  obtain ⟨t150, A50, H⟩ := H
  replace H : (if t150 = 0 then (some false) else ((trammelref02_Wrap.f k a1 a2).bind fun t151 => ((trammelref02_Wrap.f k a1 a3).bind fun t152 => (if a0 = 23 then (some (t151 == t152)) else (if a0 = 24 then (some (t151 != t152)) else (if a0 = 25 then (some (decide (t151 < t152))) else (if a0 = 26 then (some (decide (t151 ≤ t152))) else (if a0 = 27 then (some (decide (t151 > t152))) else (if a0 = 28 then (some (decide (t151 ≥ t152))) else (some false)))))))))) = some r := H
  have A5 := Aside0.mk A50
  clear A50
  by_cases c6 : t150 = 0
  · rw [if_pos c6] at H
    have c6b0 : (t150 == 0) = true := beq_iff_eq.mpr c6
    have c6b1 : (t150 != 0) = false := bne_eq_false_iff_eq.mpr c6
    clear c6
    obtain rfl := Option.some.inj H
    go_enter Try.func25, Try.ntmps25
    go_wp2_with (first | ((with_reducible refine gate_callee (f := 12) rfl ?_); refine goesL_ (some 10) rfl rfl Try.func12 (by kernel_rfl) rfl #[.int .u8 a1] rfl (by (try simp only [List.map_toArray, List.map_cons, List.map_nil]); first | done | rfl | (simp only [List.length_drop, List.length_take]; rfl)) ?_; (with_reducible refine (trammelref02_Bits.calls a1 t150 _ A5.out).mono ?_); rintro e w' ⟨rfl, ⟨nd, rfl⟩⟩; refine ⟨_, rfl, ?_⟩))
    go_ret
    exact ⟨by first | rfl | (simp; done) | (simp [*]; done), by repeat (first | exact Drawn0.refl _ | apply Drawn0.step)⟩
  · rw [if_neg c6] at H
    have c6b0 : (t150 == 0) = false := beq_eq_false_iff_ne.mpr c6
    have c6b1 : (t150 != 0) = true := bne_iff_ne.mpr c6
    replace H := Option.bind_eq_some_iff.mp H
    obtain ⟨t151, A70, H⟩ := H
    replace H : ((trammelref02_Wrap.f k a1 a3).bind fun t152 => (if a0 = 23 then (some (t151 == t152)) else (if a0 = 24 then (some (t151 != t152)) else (if a0 = 25 then (some (decide (t151 < t152))) else (if a0 = 26 then (some (decide (t151 ≤ t152))) else (if a0 = 27 then (some (decide (t151 > t152))) else (if a0 = 28 then (some (decide (t151 ≥ t152))) else (some false)))))))) = some r := H
    have A7 := Aside0.mk A70
    clear A70
    replace H := Option.bind_eq_some_iff.mp H
    obtain ⟨t152, A80, H⟩ := H
    replace H : (if a0 = 23 then (some (t151 == t152)) else (if a0 = 24 then (some (t151 != t152)) else (if a0 = 25 then (some (decide (t151 < t152))) else (if a0 = 26 then (some (decide (t151 ≤ t152))) else (if a0 = 27 then (some (decide (t151 > t152))) else (if a0 = 28 then (some (decide (t151 ≥ t152))) else (some false))))))) = some r := H
    have A8 := Aside0.mk A80
    clear A80
    by_cases c9 : a0 = 23
    · rw [if_pos c9] at H
      have c9b0 : (a0 == 23) = true := beq_iff_eq.mpr c9
      have c9b1 : (a0 != 23) = false := bne_eq_false_iff_eq.mpr c9
      clear c9
      obtain rfl := Option.some.inj H
      go_enter Try.func25, Try.ntmps25
      go_wp2_with (first | ((with_reducible refine gate_callee (f := 12) rfl ?_); refine goesL_ (some 10) rfl rfl Try.func12 (by kernel_rfl) rfl #[.int .u8 a1] rfl (by (try simp only [List.map_toArray, List.map_cons, List.map_nil]); first | done | rfl | (simp only [List.length_drop, List.length_take]; rfl)) ?_; (with_reducible refine (trammelref02_Bits.calls a1 t150 _ A5.out).mono ?_); rintro e w' ⟨rfl, ⟨nd, rfl⟩⟩; refine ⟨_, rfl, ?_⟩) | ((with_reducible refine gate_callee (f := 16) rfl ?_); refine goesL_ (some 14) rfl rfl Try.func16 (by kernel_rfl) rfl #[.int .u8 a1, .int .i64 a2] rfl (by (try simp only [List.map_toArray, List.map_cons, List.map_nil]); first | done | rfl | (simp only [List.length_drop, List.length_take]; rfl)) ?_; (with_reducible refine (trammelref02_Wrap.calls k a1 a2 t151 _ A7.out).mono ?_); rintro e w' ⟨rfl, ⟨nd, rfl⟩⟩; refine ⟨_, rfl, ?_⟩) | ((with_reducible refine gate_callee (f := 16) rfl ?_); refine goesL_ (some 17) rfl rfl Try.func16 (by kernel_rfl) rfl #[.int .u8 a1, .int .i64 a3] rfl (by (try simp only [List.map_toArray, List.map_cons, List.map_nil]); first | done | rfl | (simp only [List.length_drop, List.length_take]; rfl)) ?_; (with_reducible refine (trammelref02_Wrap.calls k a1 a3 t152 _ A8.out).mono ?_); rintro e w' ⟨rfl, ⟨nd, rfl⟩⟩; refine ⟨_, rfl, ?_⟩))
      go_ret
      exact ⟨by first | rfl | (simp; done) | (simp [*]; done), by repeat (first | exact Drawn0.refl _ | apply Drawn0.step)⟩
    · rw [if_neg c9] at H
      have c9b0 : (a0 == 23) = false := beq_eq_false_iff_ne.mpr c9
      have c9b1 : (a0 != 23) = true := bne_iff_ne.mpr c9
      by_cases c10 : a0 = 24
      · rw [if_pos c10] at H
        have c10b0 : (a0 == 24) = true := beq_iff_eq.mpr c10
        have c10b1 : (a0 != 24) = false := bne_eq_false_iff_eq.mpr c10
        clear c10
        obtain rfl := Option.some.inj H
        go_enter Try.func25, Try.ntmps25
        go_wp2_with (first | ((with_reducible refine gate_callee (f := 12) rfl ?_); refine goesL_ (some 10) rfl rfl Try.func12 (by kernel_rfl) rfl #[.int .u8 a1] rfl (by (try simp only [List.map_toArray, List.map_cons, List.map_nil]); first | done | rfl | (simp only [List.length_drop, List.length_take]; rfl)) ?_; (with_reducible refine (trammelref02_Bits.calls a1 t150 _ A5.out).mono ?_); rintro e w' ⟨rfl, ⟨nd, rfl⟩⟩; refine ⟨_, rfl, ?_⟩) | ((with_reducible refine gate_callee (f := 16) rfl ?_); refine goesL_ (some 14) rfl rfl Try.func16 (by kernel_rfl) rfl #[.int .u8 a1, .int .i64 a2] rfl (by (try simp only [List.map_toArray, List.map_cons, List.map_nil]); first | done | rfl | (simp only [List.length_drop, List.length_take]; rfl)) ?_; (with_reducible refine (trammelref02_Wrap.calls k a1 a2 t151 _ A7.out).mono ?_); rintro e w' ⟨rfl, ⟨nd, rfl⟩⟩; refine ⟨_, rfl, ?_⟩) | ((with_reducible refine gate_callee (f := 16) rfl ?_); refine goesL_ (some 17) rfl rfl Try.func16 (by kernel_rfl) rfl #[.int .u8 a1, .int .i64 a3] rfl (by (try simp only [List.map_toArray, List.map_cons, List.map_nil]); first | done | rfl | (simp only [List.length_drop, List.length_take]; rfl)) ?_; (with_reducible refine (trammelref02_Wrap.calls k a1 a3 t152 _ A8.out).mono ?_); rintro e w' ⟨rfl, ⟨nd, rfl⟩⟩; refine ⟨_, rfl, ?_⟩))
        go_ret
        exact ⟨by first | rfl | (simp; done) | (simp [*]; done), by repeat (first | exact Drawn0.refl _ | apply Drawn0.step)⟩
      · rw [if_neg c10] at H
        have c10b0 : (a0 == 24) = false := beq_eq_false_iff_ne.mpr c10
        have c10b1 : (a0 != 24) = true := bne_iff_ne.mpr c10
        by_cases c11 : a0 = 25
        · rw [if_pos c11] at H
          have c11b0 : (a0 == 25) = true := beq_iff_eq.mpr c11
          have c11b1 : (a0 != 25) = false := bne_eq_false_iff_eq.mpr c11
          clear c11
          obtain rfl := Option.some.inj H
          go_enter Try.func25, Try.ntmps25
          go_wp2_with (first | ((with_reducible refine gate_callee (f := 12) rfl ?_); refine goesL_ (some 10) rfl rfl Try.func12 (by kernel_rfl) rfl #[.int .u8 a1] rfl (by (try simp only [List.map_toArray, List.map_cons, List.map_nil]); first | done | rfl | (simp only [List.length_drop, List.length_take]; rfl)) ?_; (with_reducible refine (trammelref02_Bits.calls a1 t150 _ A5.out).mono ?_); rintro e w' ⟨rfl, ⟨nd, rfl⟩⟩; refine ⟨_, rfl, ?_⟩) | ((with_reducible refine gate_callee (f := 16) rfl ?_); refine goesL_ (some 14) rfl rfl Try.func16 (by kernel_rfl) rfl #[.int .u8 a1, .int .i64 a2] rfl (by (try simp only [List.map_toArray, List.map_cons, List.map_nil]); first | done | rfl | (simp only [List.length_drop, List.length_take]; rfl)) ?_; (with_reducible refine (trammelref02_Wrap.calls k a1 a2 t151 _ A7.out).mono ?_); rintro e w' ⟨rfl, ⟨nd, rfl⟩⟩; refine ⟨_, rfl, ?_⟩) | ((with_reducible refine gate_callee (f := 16) rfl ?_); refine goesL_ (some 17) rfl rfl Try.func16 (by kernel_rfl) rfl #[.int .u8 a1, .int .i64 a3] rfl (by (try simp only [List.map_toArray, List.map_cons, List.map_nil]); first | done | rfl | (simp only [List.length_drop, List.length_take]; rfl)) ?_; (with_reducible refine (trammelref02_Wrap.calls k a1 a3 t152 _ A8.out).mono ?_); rintro e w' ⟨rfl, ⟨nd, rfl⟩⟩; refine ⟨_, rfl, ?_⟩))
          go_ret
          exact ⟨by first | rfl | (simp; done) | (simp [*]; done), by repeat (first | exact Drawn0.refl _ | apply Drawn0.step)⟩
        · rw [if_neg c11] at H
          have c11b0 : (a0 == 25) = false := beq_eq_false_iff_ne.mpr c11
          have c11b1 : (a0 != 25) = true := bne_iff_ne.mpr c11
          by_cases c12 : a0 = 26
          · rw [if_pos c12] at H
            have c12b0 : (a0 == 26) = true := beq_iff_eq.mpr c12
            have c12b1 : (a0 != 26) = false := bne_eq_false_iff_eq.mpr c12
            clear c12
            obtain rfl := Option.some.inj H
            go_enter Try.func25, Try.ntmps25
            go_wp2_with (first | ((with_reducible refine gate_callee (f := 12) rfl ?_); refine goesL_ (some 10) rfl rfl Try.func12 (by kernel_rfl) rfl #[.int .u8 a1] rfl (by (try simp only [List.map_toArray, List.map_cons, List.map_nil]); first | done | rfl | (simp only [List.length_drop, List.length_take]; rfl)) ?_; (with_reducible refine (trammelref02_Bits.calls a1 t150 _ A5.out).mono ?_); rintro e w' ⟨rfl, ⟨nd, rfl⟩⟩; refine ⟨_, rfl, ?_⟩) | ((with_reducible refine gate_callee (f := 16) rfl ?_); refine goesL_ (some 14) rfl rfl Try.func16 (by kernel_rfl) rfl #[.int .u8 a1, .int .i64 a2] rfl (by (try simp only [List.map_toArray, List.map_cons, List.map_nil]); first | done | rfl | (simp only [List.length_drop, List.length_take]; rfl)) ?_; (with_reducible refine (trammelref02_Wrap.calls k a1 a2 t151 _ A7.out).mono ?_); rintro e w' ⟨rfl, ⟨nd, rfl⟩⟩; refine ⟨_, rfl, ?_⟩) | ((with_reducible refine gate_callee (f := 16) rfl ?_); refine goesL_ (some 17) rfl rfl Try.func16 (by kernel_rfl) rfl #[.int .u8 a1, .int .i64 a3] rfl (by (try simp only [List.map_toArray, List.map_cons, List.map_nil]); first | done | rfl | (simp only [List.length_drop, List.length_take]; rfl)) ?_; (with_reducible refine (trammelref02_Wrap.calls k a1 a3 t152 _ A8.out).mono ?_); rintro e w' ⟨rfl, ⟨nd, rfl⟩⟩; refine ⟨_, rfl, ?_⟩))
            go_ret
            exact ⟨by first | rfl | (simp; done) | (simp [*]; done), by repeat (first | exact Drawn0.refl _ | apply Drawn0.step)⟩
          · rw [if_neg c12] at H
            have c12b0 : (a0 == 26) = false := beq_eq_false_iff_ne.mpr c12
            have c12b1 : (a0 != 26) = true := bne_iff_ne.mpr c12
            by_cases c13 : a0 = 27
            · rw [if_pos c13] at H
              have c13b0 : (a0 == 27) = true := beq_iff_eq.mpr c13
              have c13b1 : (a0 != 27) = false := bne_eq_false_iff_eq.mpr c13
              clear c13
              obtain rfl := Option.some.inj H
              go_enter Try.func25, Try.ntmps25
              go_wp2_with (first | ((with_reducible refine gate_callee (f := 12) rfl ?_); refine goesL_ (some 10) rfl rfl Try.func12 (by kernel_rfl) rfl #[.int .u8 a1] rfl (by (try simp only [List.map_toArray, List.map_cons, List.map_nil]); first | done | rfl | (simp only [List.length_drop, List.length_take]; rfl)) ?_; (with_reducible refine (trammelref02_Bits.calls a1 t150 _ A5.out).mono ?_); rintro e w' ⟨rfl, ⟨nd, rfl⟩⟩; refine ⟨_, rfl, ?_⟩) | ((with_reducible refine gate_callee (f := 16) rfl ?_); refine goesL_ (some 14) rfl rfl Try.func16 (by kernel_rfl) rfl #[.int .u8 a1, .int .i64 a2] rfl (by (try simp only [List.map_toArray, List.map_cons, List.map_nil]); first | done | rfl | (simp only [List.length_drop, List.length_take]; rfl)) ?_; (with_reducible refine (trammelref02_Wrap.calls k a1 a2 t151 _ A7.out).mono ?_); rintro e w' ⟨rfl, ⟨nd, rfl⟩⟩; refine ⟨_, rfl, ?_⟩) | ((with_reducible refine gate_callee (f := 16) rfl ?_); refine goesL_ (some 17) rfl rfl Try.func16 (by kernel_rfl) rfl #[.int .u8 a1, .int .i64 a3] rfl (by (try simp only [List.map_toArray, List.map_cons, List.map_nil]); first | done | rfl | (simp only [List.length_drop, List.length_take]; rfl)) ?_; (with_reducible refine (trammelref02_Wrap.calls k a1 a3 t152 _ A8.out).mono ?_); rintro e w' ⟨rfl, ⟨nd, rfl⟩⟩; refine ⟨_, rfl, ?_⟩))
              go_ret
              exact ⟨by first | rfl | (simp; done) | (simp [*]; done), by repeat (first | exact Drawn0.refl _ | apply Drawn0.step)⟩
            · rw [if_neg c13] at H
              have c13b0 : (a0 == 27) = false := beq_eq_false_iff_ne.mpr c13
              have c13b1 : (a0 != 27) = true := bne_iff_ne.mpr c13
              by_cases c14 : a0 = 28
              · rw [if_pos c14] at H
                have c14b0 : (a0 == 28) = true := beq_iff_eq.mpr c14
                have c14b1 : (a0 != 28) = false := bne_eq_false_iff_eq.mpr c14
                clear c14
                obtain rfl := Option.some.inj H
                go_enter Try.func25, Try.ntmps25
                go_wp2_with (first | ((with_reducible refine gate_callee (f := 12) rfl ?_); refine goesL_ (some 10) rfl rfl Try.func12 (by kernel_rfl) rfl #[.int .u8 a1] rfl (by (try simp only [List.map_toArray, List.map_cons, List.map_nil]); first | done | rfl | (simp only [List.length_drop, List.length_take]; rfl)) ?_; (with_reducible refine (trammelref02_Bits.calls a1 t150 _ A5.out).mono ?_); rintro e w' ⟨rfl, ⟨nd, rfl⟩⟩; refine ⟨_, rfl, ?_⟩) | ((with_reducible refine gate_callee (f := 16) rfl ?_); refine goesL_ (some 14) rfl rfl Try.func16 (by kernel_rfl) rfl #[.int .u8 a1, .int .i64 a2] rfl (by (try simp only [List.map_toArray, List.map_cons, List.map_nil]); first | done | rfl | (simp only [List.length_drop, List.length_take]; rfl)) ?_; (with_reducible refine (trammelref02_Wrap.calls k a1 a2 t151 _ A7.out).mono ?_); rintro e w' ⟨rfl, ⟨nd, rfl⟩⟩; refine ⟨_, rfl, ?_⟩) | ((with_reducible refine gate_callee (f := 16) rfl ?_); refine goesL_ (some 17) rfl rfl Try.func16 (by kernel_rfl) rfl #[.int .u8 a1, .int .i64 a3] rfl (by (try simp only [List.map_toArray, List.map_cons, List.map_nil]); first | done | rfl | (simp only [List.length_drop, List.length_take]; rfl)) ?_; (with_reducible refine (trammelref02_Wrap.calls k a1 a3 t152 _ A8.out).mono ?_); rintro e w' ⟨rfl, ⟨nd, rfl⟩⟩; refine ⟨_, rfl, ?_⟩))
                go_ret
                exact ⟨by first | rfl | (simp; done) | (simp [*]; done), by repeat (first | exact Drawn0.refl _ | apply Drawn0.step)⟩
              · rw [if_neg c14] at H
                have c14b0 : (a0 == 28) = false := beq_eq_false_iff_ne.mpr c14
                have c14b1 : (a0 != 28) = true := bne_iff_ne.mpr c14
                obtain rfl := Option.some.inj H
                go_enter Try.func25, Try.ntmps25
                go_wp2_with (first | ((with_reducible refine gate_callee (f := 12) rfl ?_); refine goesL_ (some 10) rfl rfl Try.func12 (by kernel_rfl) rfl #[.int .u8 a1] rfl (by (try simp only [List.map_toArray, List.map_cons, List.map_nil]); first | done | rfl | (simp only [List.length_drop, List.length_take]; rfl)) ?_; (with_reducible refine (trammelref02_Bits.calls a1 t150 _ A5.out).mono ?_); rintro e w' ⟨rfl, ⟨nd, rfl⟩⟩; refine ⟨_, rfl, ?_⟩) | ((with_reducible refine gate_callee (f := 16) rfl ?_); refine goesL_ (some 14) rfl rfl Try.func16 (by kernel_rfl) rfl #[.int .u8 a1, .int .i64 a2] rfl (by (try simp only [List.map_toArray, List.map_cons, List.map_nil]); first | done | rfl | (simp only [List.length_drop, List.length_take]; rfl)) ?_; (with_reducible refine (trammelref02_Wrap.calls k a1 a2 t151 _ A7.out).mono ?_); rintro e w' ⟨rfl, ⟨nd, rfl⟩⟩; refine ⟨_, rfl, ?_⟩) | ((with_reducible refine gate_callee (f := 16) rfl ?_); refine goesL_ (some 17) rfl rfl Try.func16 (by kernel_rfl) rfl #[.int .u8 a1, .int .i64 a3] rfl (by (try simp only [List.map_toArray, List.map_cons, List.map_nil]); first | done | rfl | (simp only [List.length_drop, List.length_take]; rfl)) ?_; (with_reducible refine (trammelref02_Wrap.calls k a1 a3 t152 _ A8.out).mono ?_); rintro e w' ⟨rfl, ⟨nd, rfl⟩⟩; refine ⟨_, rfl, ?_⟩))
                go_ret
                exact ⟨by first | rfl | (simp; done) | (simp [*]; done), by repeat (first | exact Drawn0.refl _ | apply Drawn0.step)⟩

end Go.Proofs.Ytgomkbdemakndaa.PWordReckons
