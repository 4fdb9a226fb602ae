-- PRINTED BY print.sh 35421559b90ae4d0a3588c463048766b98c2df88dd9212a6774a882060cdf62d: not written by this session
import Derived.Test.YtgomkbdemakndaaPWordOrderx0
import Derived.Test.YtgomkbdemakndaaPWordOrderx1
import Derived.Test.YtgomkbdemakndaaPWordOrderx2
namespace Go.Proofs.Ytgomkbdemakndaa.PWordOrder
open Go.RowKit Go.Proofs.YtgomkbdemakndaaW.PrintWords Go.Proofs.YtgomkbdemakndaaW.PrintLast Go.Proofs.YtgomkbdemakndaaW.PrintMore
attribute [local go_sem] max2_int min2_int max_two min_two max_three min_three max_four min_four   -- for this text's walks alone
set_option linter.unusedVariables false
set_option linter.unusedSimpArgs false

/-! ### trammellaw02_WordOrder: function 8 -/
mutual
def trammellaw02_WordOrder.j0 : Nat → Int → Int → Int → Int → Bool → Bool → Bool → Int → Option (Bool)
  | 0, _, _, _, _, _, _, _, _ => none
  | k + 1, x0, x1, x2, x3, x9, x10, x11, x12 => if x10 = true then (trammellaw02_WordOrder.j1 k x0 x1 x2 x3 x9 x10 x11 (wrap64 (x12 + 1))) else (trammellaw02_WordOrder.j1 k x0 x1 x2 x3 x9 x10 x11 x12)
def trammellaw02_WordOrder.j1 : Nat → Int → Int → Int → Int → Bool → Bool → Bool → Int → Option (Bool)
  | 0, _, _, _, _, _, _, _, _ => none
  | k + 1, x0, x1, x2, x3, x9, x10, x11, x12 => if x11 = true then (trammellaw02_WordOrder.j2 k x0 x1 x2 x3 x9 x10 x11 (wrap64 (x12 + 1))) else (trammellaw02_WordOrder.j2 k x0 x1 x2 x3 x9 x10 x11 x12)
def trammellaw02_WordOrder.j2 : Nat → Int → Int → Int → Int → Bool → Bool → Bool → Int → Option (Bool)
  | 0, _, _, _, _, _, _, _, _ => none
  | k + 1, x0, x1, x2, x3, x9, x10, x11, x12 => if x12 = 1 then ((word_Test.f 24 x0 x1 x2).bind fun t120 => (if (t120 == x10) = true then (trammellaw02_WordOrder.j3 k x0 x1 x2 x3 x9 x10 true) else ((word_Test.f 26 x0 x1 x2).bind fun t121 => (if (t121 == x11) = true then (trammellaw02_WordOrder.j3 k x0 x1 x2 x3 x9 x10 true) else ((word_Test.f 28 x0 x1 x2).bind fun t122 => (if (t122 == x9) = true then (trammellaw02_WordOrder.j3 k x0 x1 x2 x3 x9 x10 true) else ((word_Test.f 27 x0 x2 x1).bind fun t123 => (trammellaw02_WordOrder.j3 k x0 x1 x2 x3 x9 x10 (t123 != x9))))))))) else (trammellaw02_WordOrder.j3 k x0 x1 x2 x3 x9 x10 true)
def trammellaw02_WordOrder.j3 : Nat → Int → Int → Int → Int → Bool → Bool → Bool → Option (Bool)
  | 0, _, _, _, _, _, _, _ => none
  | k + 1, x0, x1, x2, x3, x9, x10, x69 => if x69 = true then (some false) else (if x9 = true then ((word_Test.f 25 x0 x2 x3).bind fun t124 => (if t124 = true then ((word_Test.f 25 x0 x1 x3).bind fun t125 => (if t125 = true then ((word_Wrap.f x0 x1).bind fun t126 => ((word_Wrap.f x0 x2).bind fun t127 => (if (x10 == (t126 == t127)) = true then ((trammellaw02_works.f k).bind fun t128 => (some t128)) else (some false)))) else (some false))) else ((word_Wrap.f x0 x1).bind fun t129 => ((word_Wrap.f x0 x2).bind fun t130 => (if (x10 == (t129 == t130)) = true then ((trammellaw02_works.f k).bind fun t131 => (some t131)) else (some false)))))) else ((word_Wrap.f x0 x1).bind fun t132 => ((word_Wrap.f x0 x2).bind fun t133 => (if (x10 == (t132 == t133)) = true then ((trammellaw02_works.f k).bind fun t134 => (some t134)) else (some false)))))
end
def trammellaw02_WordOrder.f (k : Nat) (a0 : Int) (a1 : Int) (a2 : Int) (a3 : Int) : Option (Bool) := (trammellaw02_width.f a0).bind fun t116 => ((word_Test.f 25 t116 a1 a2).bind fun t117 => ((word_Test.f 23 t116 a1 a2).bind fun t118 => ((word_Test.f 27 t116 a1 a2).bind fun t119 => (if t117 = true then (trammellaw02_WordOrder.j0 k t116 a1 a2 a3 t117 t118 t119 (0 + 1)) else (trammellaw02_WordOrder.j0 k t116 a1 a2 a3 t117 t118 t119 0)))))
theorem trammellaw02_WordOrder.mono_l : ∀ k, (∀ y0 y1 y2 y3 y4 y5 y6 y7, LeO (trammellaw02_WordOrder.j0 k y0 y1 y2 y3 y4 y5 y6 y7) (trammellaw02_WordOrder.j0 (k + 1) y0 y1 y2 y3 y4 y5 y6 y7)) ∧ (∀ y0 y1 y2 y3 y4 y5 y6 y7, LeO (trammellaw02_WordOrder.j1 k y0 y1 y2 y3 y4 y5 y6 y7) (trammellaw02_WordOrder.j1 (k + 1) y0 y1 y2 y3 y4 y5 y6 y7)) ∧ (∀ y0 y1 y2 y3 y4 y5 y6 y7, LeO (trammellaw02_WordOrder.j2 k y0 y1 y2 y3 y4 y5 y6 y7) (trammellaw02_WordOrder.j2 (k + 1) y0 y1 y2 y3 y4 y5 y6 y7)) ∧ (∀ y0 y1 y2 y3 y4 y5 y6, LeO (trammellaw02_WordOrder.j3 k y0 y1 y2 y3 y4 y5 y6) (trammellaw02_WordOrder.j3 (k + 1) y0 y1 y2 y3 y4 y5 y6))
  | 0 => ⟨fun _ _ _ _ _ _ _ _ r h => by simp [trammellaw02_WordOrder.j0] at h, fun _ _ _ _ _ _ _ _ r h => by simp [trammellaw02_WordOrder.j1] at h, fun _ _ _ _ _ _ _ _ r h => by simp [trammellaw02_WordOrder.j2] at h, fun _ _ _ _ _ _ _ r h => by simp [trammellaw02_WordOrder.j3] at h⟩
  | k + 1 => by
    obtain ⟨ih0, ih1, ih2, ih3⟩ := trammellaw02_WordOrder.mono_l k
    refine ⟨?_, ?_, ?_, ?_⟩
    · intro y0 y1 y2 y3 y4 y5 y6 y7
      unfold trammellaw02_WordOrder.j0
      repeat' first
      | (with_reducible exact ih0 _ _ _ _ _ _ _ _)
      | (with_reducible exact ih1 _ _ _ _ _ _ _ _)
      | (with_reducible exact ih2 _ _ _ _ _ _ _ _)
      | (with_reducible exact ih3 _ _ _ _ _ _ _)
      | (with_reducible exact trammellaw02_works.mono _)
      | (with_reducible exact LeO.refl _)
      | (with_reducible exact LeO.none _)
      | (with_reducible refine LeO.ite ?_ ?_)
      | (with_reducible refine LeO.bind ?_ (fun _ => ?_))
      | exact ih0 _ _ _ _ _ _ _ _
      | exact ih1 _ _ _ _ _ _ _ _
      | exact ih2 _ _ _ _ _ _ _ _
      | exact ih3 _ _ _ _ _ _ _
      | exact trammellaw02_works.mono _
      | exact LeO.none _
      | refine LeO.ite ?_ ?_
      | refine LeO.bind ?_ (fun _ => ?_)
    · intro y0 y1 y2 y3 y4 y5 y6 y7
      unfold trammellaw02_WordOrder.j1
      repeat' first
      | (with_reducible exact ih0 _ _ _ _ _ _ _ _)
      | (with_reducible exact ih1 _ _ _ _ _ _ _ _)
      | (with_reducible exact ih2 _ _ _ _ _ _ _ _)
      | (with_reducible exact ih3 _ _ _ _ _ _ _)
      | (with_reducible exact trammellaw02_works.mono _)
      | (with_reducible exact LeO.refl _)
      | (with_reducible exact LeO.none _)
      | (with_reducible refine LeO.ite ?_ ?_)
      | (with_reducible refine LeO.bind ?_ (fun _ => ?_))
      | exact ih0 _ _ _ _ _ _ _ _
      | exact ih1 _ _ _ _ _ _ _ _
      | exact ih2 _ _ _ _ _ _ _ _
      | exact ih3 _ _ _ _ _ _ _
      | exact trammellaw02_works.mono _
      | exact LeO.none _
      | refine LeO.ite ?_ ?_
      | refine LeO.bind ?_ (fun _ => ?_)
    · intro y0 y1 y2 y3 y4 y5 y6 y7
      unfold trammellaw02_WordOrder.j2
      repeat' first
      | (with_reducible exact ih0 _ _ _ _ _ _ _ _)
      | (with_reducible exact ih1 _ _ _ _ _ _ _ _)
      | (with_reducible exact ih2 _ _ _ _ _ _ _ _)
      | (with_reducible exact ih3 _ _ _ _ _ _ _)
      | (with_reducible exact trammellaw02_works.mono _)
      | (with_reducible exact LeO.refl _)
      | (with_reducible exact LeO.none _)
      | (with_reducible refine LeO.ite ?_ ?_)
      | (with_reducible refine LeO.bind ?_ (fun _ => ?_))
      | exact ih0 _ _ _ _ _ _ _ _
      | exact ih1 _ _ _ _ _ _ _ _
      | exact ih2 _ _ _ _ _ _ _ _
      | exact ih3 _ _ _ _ _ _ _
      | exact trammellaw02_works.mono _
      | exact LeO.none _
      | refine LeO.ite ?_ ?_
      | refine LeO.bind ?_ (fun _ => ?_)
    · intro y0 y1 y2 y3 y4 y5 y6
      unfold trammellaw02_WordOrder.j3
      repeat' first
      | (with_reducible exact ih0 _ _ _ _ _ _ _ _)
      | (with_reducible exact ih1 _ _ _ _ _ _ _ _)
      | (with_reducible exact ih2 _ _ _ _ _ _ _ _)
      | (with_reducible exact ih3 _ _ _ _ _ _ _)
      | (with_reducible exact trammellaw02_works.mono _)
      | (with_reducible exact LeO.refl _)
      | (with_reducible exact LeO.none _)
      | (with_reducible refine LeO.ite ?_ ?_)
      | (with_reducible refine LeO.bind ?_ (fun _ => ?_))
      | exact ih0 _ _ _ _ _ _ _ _
      | exact ih1 _ _ _ _ _ _ _ _
      | exact ih2 _ _ _ _ _ _ _ _
      | exact ih3 _ _ _ _ _ _ _
      | exact trammellaw02_works.mono _
      | exact LeO.none _
      | refine LeO.ite ?_ ?_
      | refine LeO.bind ?_ (fun _ => ?_)
theorem trammellaw02_WordOrder.mono : ∀ a0 a1 a2 a3 k, LeO (trammellaw02_WordOrder.f k a0 a1 a2 a3) (trammellaw02_WordOrder.f (k + 1) a0 a1 a2 a3) := by
  intro a0 a1 a2 a3 k
  obtain ⟨ih0, ih1, ih2, ih3⟩ := trammellaw02_WordOrder.mono_l k
  unfold trammellaw02_WordOrder.f
  repeat' first
      | (with_reducible exact ih0 _ _ _ _ _ _ _ _)
      | (with_reducible exact ih1 _ _ _ _ _ _ _ _)
      | (with_reducible exact ih2 _ _ _ _ _ _ _ _)
      | (with_reducible exact ih3 _ _ _ _ _ _ _)
      | (with_reducible exact trammellaw02_works.mono _)
      | (with_reducible exact LeO.refl _)
      | (with_reducible exact LeO.none _)
      | (with_reducible refine LeO.ite ?_ ?_)
      | (with_reducible refine LeO.bind ?_ (fun _ => ?_))
      | exact ih0 _ _ _ _ _ _ _ _
      | exact ih1 _ _ _ _ _ _ _ _
      | exact ih2 _ _ _ _ _ _ _ _
      | exact ih3 _ _ _ _ _ _ _
      | exact trammellaw02_works.mono _
      | exact LeO.none _
      | refine LeO.ite ?_ ?_
      | refine LeO.bind ?_ (fun _ => ?_)
set_option maxHeartbeats 8000000 in
set_option maxRecDepth 100000 in
theorem trammellaw02_WordOrder.calls (k : Nat) (a0 : Int) (a1 : Int) (a2 : Int) (a3 : Int) (r : Bool) (w : World) (h : trammellaw02_WordOrder.f k a0 a1 a2 a3 = some r) :
    Calls Try.prog 8 #[.int .u8 a0, .int .i64 a1, .int .i64 a2, .int .i64 a3] w fun e w' => e = .returned (.bool r) ∧ Drawn0 w w' := by
  have H : ((trammellaw02_width.f a0).bind fun t116 => ((word_Test.f 25 t116 a1 a2).bind fun t117 => ((word_Test.f 23 t116 a1 a2).bind fun t118 => ((word_Test.f 27 t116 a1 a2).bind fun t119 => (if t117 = true then (trammellaw02_WordOrder.j0 k t116 a1 a2 a3 t117 t118 t119 (0 + 1)) else (trammellaw02_WordOrder.j0 k t116 a1 a2 a3 t117 t118 t119 0)))))) = some r := h
  clear h
  replace H := Option.bind_eq_some_iff.mp H
  obtain ⟨t116, A50, H⟩ := H
  replace H : ((word_Test.f 25 t116 a1 a2).bind fun t117 => ((word_Test.f 23 t116 a1 a2).bind fun t118 => ((word_Test.f 27 t116 a1 a2).bind fun t119 => (if t117 = true then (trammellaw02_WordOrder.j0 k t116 a1 a2 a3 t117 t118 t119 (0 + 1)) else (trammellaw02_WordOrder.j0 k t116 a1 a2 a3 t117 t118 t119 0))))) = some r := H
  have A5 := Aside0.mk A50
  clear A50
  replace H := Option.bind_eq_some_iff.mp H
  obtain ⟨t117, A60, H⟩ := H
  replace H : ((word_Test.f 23 t116 a1 a2).bind fun t118 => ((word_Test.f 27 t116 a1 a2).bind fun t119 => (if t117 = true then (trammellaw02_WordOrder.j0 k t116 a1 a2 a3 t117 t118 t119 (0 + 1)) else (trammellaw02_WordOrder.j0 k t116 a1 a2 a3 t117 t118 t119 0)))) = some r := H
  have A6 := Aside0.mk A60
  clear A60
  replace H := Option.bind_eq_some_iff.mp H
  obtain ⟨t118, A70, H⟩ := H
  replace H : ((word_Test.f 27 t116 a1 a2).bind fun t119 => (if t117 = true then (trammellaw02_WordOrder.j0 k t116 a1 a2 a3 t117 t118 t119 (0 + 1)) else (trammellaw02_WordOrder.j0 k t116 a1 a2 a3 t117 t118 t119 0))) = some r := H
  have A7 := Aside0.mk A70
  clear A70
  replace H := Option.bind_eq_some_iff.mp H
  obtain ⟨t119, A80, H⟩ := H
  replace H : (if t117 = true then (trammellaw02_WordOrder.j0 k t116 a1 a2 a3 t117 t118 t119 (0 + 1)) else (trammellaw02_WordOrder.j0 k t116 a1 a2 a3 t117 t118 t119 0)) = some r := H
  have A8 := Aside0.mk A80
  clear A80
  have HC9 := Aside0.mk H
  clear H
  go_enter Try.func8, Try.ntmps8
  go_upto_if 27 with (first | ((with_reducible refine gate_callee (f := 18) rfl ?_); refine goesL_ (some 14) rfl rfl Try.func18 (by kernel_rfl) rfl #[.int .u8 a0] rfl (by (try simp only [List.map_toArray, List.map_cons, List.map_nil]); first | done | rfl | (simp only [List.length_drop, List.length_take]; rfl)) ?_; (with_reducible refine (trammellaw02_width.calls a0 t116 _ A5.out).mono ?_); rintro e w' ⟨rfl, ⟨nd, rfl⟩⟩; refine ⟨_, rfl, ?_⟩) | ((with_reducible refine gate_callee (f := 22) rfl ?_); refine goesL_ (some 18) rfl rfl Try.func22 (by kernel_rfl) rfl #[.int .u8 25, .int .u8 t116, .int .i64 a1, .int .i64 a2] rfl (by (try simp only [List.map_toArray, List.map_cons, List.map_nil]); first | done | rfl | (simp only [List.length_drop, List.length_take]; rfl)) ?_; (with_reducible refine (word_Test.calls 25 t116 a1 a2 t117 _ A6.out).mono ?_); rintro e w' ⟨rfl, ⟨nd, rfl⟩⟩; refine ⟨_, rfl, ?_⟩) | ((with_reducible refine gate_callee (f := 22) rfl ?_); refine goesL_ (some 22) rfl rfl Try.func22 (by kernel_rfl) rfl #[.int .u8 23, .int .u8 t116, .int .i64 a1, .int .i64 a2] rfl (by (try simp only [List.map_toArray, List.map_cons, List.map_nil]); first | done | rfl | (simp only [List.length_drop, List.length_take]; rfl)) ?_; (with_reducible refine (word_Test.calls 23 t116 a1 a2 t118 _ A7.out).mono ?_); rintro e w' ⟨rfl, ⟨nd, rfl⟩⟩; refine ⟨_, rfl, ?_⟩) | ((with_reducible refine gate_callee (f := 22) rfl ?_); refine goesL_ (some 26) rfl rfl Try.func22 (by kernel_rfl) rfl #[.int .u8 27, .int .u8 t116, .int .i64 a1, .int .i64 a2] rfl (by (try simp only [List.map_toArray, List.map_cons, List.map_nil]); first | done | rfl | (simp only [List.length_drop, List.length_take]; rfl)) ?_; (with_reducible refine (word_Test.calls 27 t116 a1 a2 t119 _ A8.out).mono ?_); rintro e w' ⟨rfl, ⟨nd, rfl⟩⟩; refine ⟨_, rfl, ?_⟩))
  (try simp only [Act.put, List.setIfInBounds_toArray, List.set_cons_zero, List.set_cons_succ])
  go_cut [12] (fun v12 wc => ∃ (kq : Nat) (x12_8 : Int), v12 = .int .i64 x12_8 ∧ Aside0 (trammellaw02_WordOrder.j0 kq t116 a1 a2 a3 t117 t118 t119 x12_8 = some r) ∧ Aside0 (kq ≤ k) ∧ Drawn0 w wc)
  case first =>
    have H := HC9.out
    clear HC9
    by_cases c10 : t117 = true
    · subst c10
      have H1 : (trammellaw02_WordOrder.j0 k t116 a1 a2 a3 true t118 t119 (0 + 1)) = some r := by rw [if_pos rfl] at H; exact H
      clear H
      have H := H1
      clear H1
      have H' := Aside0.mk H
      clear H
      go_wp2
      go_meet
      case rel => exact ⟨_, (0 + 1), (by first | rfl | (simp; done) | (simp [*]; done)), H', ⟨by first | omega | exact Nat.le_refl _⟩, by repeat (first | exact Drawn0.refl _ | apply Drawn0.step)⟩
    · replace c10 := Bool.eq_false_iff.mpr c10
      subst c10
      have H1 : (trammellaw02_WordOrder.j0 k t116 a1 a2 a3 false t118 t119 0) = some r := by rw [if_neg (show ¬ (false = true) by decide)] at H; exact H
      clear H
      have H := H1
      clear H1
      have H' := Aside0.mk H
      clear H
      go_wp2
      go_meet
      case rel => exact ⟨_, (0), (by first | rfl | (simp; done) | (simp [*]; done)), H', ⟨by first | omega | exact Nat.le_refl _⟩, by repeat (first | exact Drawn0.refl _ | apply Drawn0.step)⟩
  case rest =>
    clear HC9
    try clear c1
    try clear c2
    try clear p2
    try clear c8
    try clear c10
    obtain ⟨kq, x12_8, rfl, HA, HJ8, ⟨mc8, rfl⟩⟩ := hcut
    cases kq with
    | zero => exact absurd HA.out (by simp [trammellaw02_WordOrder.j0])
    | succ kj8 =>
      have H := HA.out
      clear HA
      simp only [trammellaw02_WordOrder.j0] at H
      have HC11 := Aside0.mk H
      clear H
      go_upto_if 30 with (fail)
      go_cut [12] (fun v12 wc => ∃ (kq : Nat) (x12_10 : Int), v12 = .int .i64 x12_10 ∧ Aside0 (trammellaw02_WordOrder.j1 kq t116 a1 a2 a3 t117 t118 t119 x12_10 = some r) ∧ Aside0 (kq ≤ kj8) ∧ Drawn0 w wc)
      case first =>
        have H := HC11.out
        clear HC11
        by_cases c12 : t118 = true
        · subst c12
          have H1 : (trammellaw02_WordOrder.j1 kj8 t116 a1 a2 a3 t117 true t119 (wrap64 (x12_8 + 1))) = some r := by rw [if_pos rfl] at H; exact H
          clear H
          have H := H1
          clear H1
          have H' := Aside0.mk H
          clear H
          go_wp2
          go_meet
          case rel => exact ⟨_, (wrap64 (x12_8 + 1)), (by first | rfl | (simp; done) | (simp [*]; done)), H', ⟨by have := HJ8.out; first | omega | exact Nat.le_refl _⟩, by repeat (first | exact Drawn0.refl _ | apply Drawn0.step)⟩
        · replace c12 := Bool.eq_false_iff.mpr c12
          subst c12
          have H1 : (trammellaw02_WordOrder.j1 kj8 t116 a1 a2 a3 t117 false t119 x12_8) = some r := by rw [if_neg (show ¬ (false = true) by decide)] at H; exact H
          clear H
          have H := H1
          clear H1
          have H' := Aside0.mk H
          clear H
          go_wp2
          go_meet
          case rel => exact ⟨_, (x12_8), (by first | rfl | (simp; done) | (simp [*]; done)), H', ⟨by have := HJ8.out; first | omega | exact Nat.le_refl _⟩, by repeat (first | exact Drawn0.refl _ | apply Drawn0.step)⟩
      case rest =>
        clear HC11
        try clear c1
        try clear c2
        try clear p2
        try clear p6
        try clear c8
        try clear c10
        try clear c12
        try clear p2
        obtain ⟨kq, x12_10, rfl, HA, HJ10, ⟨mc10, rfl⟩⟩ := hcut
        cases kq with
        | zero => exact absurd HA.out (by simp [trammellaw02_WordOrder.j1])
        | succ kj10 =>
          have H := HA.out
          clear HA
          simp only [trammellaw02_WordOrder.j1] at H
          have HC13 := Aside0.mk H
          clear H
          go_upto_if 33 with (fail)
          go_cut [12] (fun v12 wc => ∃ (kq : Nat) (x12_12 : Int), v12 = .int .i64 x12_12 ∧ Aside0 (trammellaw02_WordOrder.j2 kq t116 a1 a2 a3 t117 t118 t119 x12_12 = some r) ∧ Aside0 (kq ≤ kj10) ∧ Drawn0 w wc)
          case first =>
            have H := HC13.out
            clear HC13
            by_cases c14 : t119 = true
            · subst c14
              have H1 : (trammellaw02_WordOrder.j2 kj10 t116 a1 a2 a3 t117 t118 true (wrap64 (x12_10 + 1))) = some r := by rw [if_pos rfl] at H; exact H
              clear H
              have H := H1
              clear H1
              have H' := Aside0.mk H
              clear H
              go_wp2
              go_meet
              case rel => exact ⟨_, (wrap64 (x12_10 + 1)), (by first | rfl | (simp; done) | (simp [*]; done)), H', ⟨by have := HJ8.out; have := HJ10.out; first | omega | exact Nat.le_refl _⟩, by repeat (first | exact Drawn0.refl _ | apply Drawn0.step)⟩
            · replace c14 := Bool.eq_false_iff.mpr c14
              subst c14
              have H1 : (trammellaw02_WordOrder.j2 kj10 t116 a1 a2 a3 t117 t118 false x12_10) = some r := by rw [if_neg (show ¬ (false = true) by decide)] at H; exact H
              clear H
              have H := H1
              clear H1
              have H' := Aside0.mk H
              clear H
              go_wp2
              go_meet
              case rel => exact ⟨_, (x12_10), (by first | rfl | (simp; done) | (simp [*]; done)), H', ⟨by have := HJ8.out; have := HJ10.out; first | omega | exact Nat.le_refl _⟩, by repeat (first | exact Drawn0.refl _ | apply Drawn0.step)⟩
          case rest =>
            clear HC13
            try clear c1
            try clear c2
            try clear p2
            try clear p6
            try clear c8
            try clear c10
            try clear c12
            try clear c14
            try clear p2
            try clear p6
            obtain ⟨kq, x12_12, rfl, HA, HJ12, ⟨mc12, rfl⟩⟩ := hcut
            cases kq with
            | zero => exact absurd HA.out (by simp [trammellaw02_WordOrder.j2])
            | succ kj12 =>
              have H := HA.out
              clear HA
              simp only [trammellaw02_WordOrder.j2] at H
              have HC15 := Aside0.mk H
              clear H
              go_upto_region 10 with (fail)
              go_cut [69] (fun v69 wc => ∃ (kq : Nat) (x69_14 : Bool), v69 = .bool x69_14 ∧ Aside0 (trammellaw02_WordOrder.j3 kq t116 a1 a2 a3 t117 t118 x69_14 = some r) ∧ Aside0 (kq ≤ kj12) ∧ Drawn0 w wc)
              case first =>
                have H := HC15.out
                clear HC15
                by_cases c16 : x12_12 = 1
                · rw [if_pos c16] at H
                  have c16b0 : (x12_12 == 1) = true := beq_iff_eq.mpr c16
                  have c16b1 : (x12_12 != 1) = false := bne_eq_false_iff_eq.mpr c16
                  clear c16
                  (first | rw [c16b0] | (simp only [i64_w, i32_w]; rw [c16b0]) | skip)
                  replace H := Option.bind_eq_some_iff.mp H
                  obtain ⟨t120, A170, H⟩ := H
                  replace H : (if (t120 == t118) = true then (trammellaw02_WordOrder.j3 kj12 t116 a1 a2 a3 t117 t118 true) else ((word_Test.f 26 t116 a1 a2).bind fun t121 => (if (t121 == t119) = true then (trammellaw02_WordOrder.j3 kj12 t116 a1 a2 a3 t117 t118 true) else ((word_Test.f 28 t116 a1 a2).bind fun t122 => (if (t122 == t117) = true then (trammellaw02_WordOrder.j3 kj12 t116 a1 a2 a3 t117 t118 true) else ((word_Test.f 27 t116 a2 a1).bind fun t123 => (trammellaw02_WordOrder.j3 kj12 t116 a1 a2 a3 t117 t118 (t123 != t117)))))))) = some r := H
                  have A17 := Aside0.mk A170
                  clear A170
                  by_cases c18 : (t120 == t118) = true
                  · rw [if_pos c18] at H
                    have c18b0 : (t120 == t118) = true := c18
                    (try (have c18b1 : decide (t120 = t118) = true := by simpa using c18))
                    (try (have c18b2 : (t120 == t118) = true := by simpa using c18))
                    clear c18
                    have H' := Aside0.mk H
                    clear H
                    go_wp2_with (first | (go_at_call 22; (with_reducible refine (word_Test.calls 24 t116 a1 a2 t120 _ A17.out).mono ?_); rintro e w' ⟨rfl, ⟨nd, rfl⟩⟩))
                    go_meet
                    case rel => exact ⟨_, (true), (by first | rfl | (simp; done) | (simp [*]; done)), H', ⟨by have := HJ8.out; have := HJ10.out; have := HJ12.out; first | omega | exact Nat.le_refl _⟩, by repeat (first | exact Drawn0.refl _ | apply Drawn0.step)⟩
                  · rw [if_neg c18] at H
                    have c18b0 : (t120 == t118) = false := by simpa using c18
                    (try (have c18b1 : decide (t120 = t118) = false := by simpa using c18))
                    (try (have c18b2 : (t120 == t118) = false := by simpa using c18))
                    (try (have c18b3 : ¬ (t120 = t118) := by simpa using c18))
                    clear c18
                    replace H := Option.bind_eq_some_iff.mp H
                    obtain ⟨t121, A190, H⟩ := H
                    replace H : (if (t121 == t119) = true then (trammellaw02_WordOrder.j3 kj12 t116 a1 a2 a3 t117 t118 true) else ((word_Test.f 28 t116 a1 a2).bind fun t122 => (if (t122 == t117) = true then (trammellaw02_WordOrder.j3 kj12 t116 a1 a2 a3 t117 t118 true) else ((word_Test.f 27 t116 a2 a1).bind fun t123 => (trammellaw02_WordOrder.j3 kj12 t116 a1 a2 a3 t117 t118 (t123 != t117)))))) = some r := H
                    have A19 := Aside0.mk A190
                    clear A190
                    by_cases c20 : (t121 == t119) = true
                    · rw [if_pos c20] at H
                      have c20b0 : (t121 == t119) = true := c20
                      (try (have c20b1 : decide (t121 = t119) = true := by simpa using c20))
                      (try (have c20b2 : (t121 == t119) = true := by simpa using c20))
                      clear c20
                      have H' := Aside0.mk H
                      clear H
                      go_wp2_with (first | (go_at_call 22; (with_reducible refine (word_Test.calls 24 t116 a1 a2 t120 _ A17.out).mono ?_); rintro e w' ⟨rfl, ⟨nd, rfl⟩⟩) | (go_at_call 22; (with_reducible refine (word_Test.calls 26 t116 a1 a2 t121 _ A19.out).mono ?_); rintro e w' ⟨rfl, ⟨nd, rfl⟩⟩))
                      go_meet
                      case rel => exact ⟨_, (true), (by first | rfl | (simp; done) | (simp [*]; done)), H', ⟨by have := HJ8.out; have := HJ10.out; have := HJ12.out; first | omega | exact Nat.le_refl _⟩, by repeat (first | exact Drawn0.refl _ | apply Drawn0.step)⟩
                    · rw [if_neg c20] at H
                      have c20b0 : (t121 == t119) = false := by simpa using c20
                      (try (have c20b1 : decide (t121 = t119) = false := by simpa using c20))
                      (try (have c20b2 : (t121 == t119) = false := by simpa using c20))
                      (try (have c20b3 : ¬ (t121 = t119) := by simpa using c20))
                      clear c20
                      replace H := Option.bind_eq_some_iff.mp H
                      obtain ⟨t122, A210, H⟩ := H
                      replace H : (if (t122 == t117) = true then (trammellaw02_WordOrder.j3 kj12 t116 a1 a2 a3 t117 t118 true) else ((word_Test.f 27 t116 a2 a1).bind fun t123 => (trammellaw02_WordOrder.j3 kj12 t116 a1 a2 a3 t117 t118 (t123 != t117)))) = some r := H
                      have A21 := Aside0.mk A210
                      clear A210
                      by_cases c22 : (t122 == t117) = true
                      · rw [if_pos c22] at H
                        have c22b0 : (t122 == t117) = true := c22
                        (try (have c22b1 : decide (t122 = t117) = true := by simpa using c22))
                        (try (have c22b2 : (t122 == t117) = true := by simpa using c22))
                        clear c22
                        have H' := Aside0.mk H
                        clear H
                        go_wp2_with (first | (go_at_call 22; (with_reducible refine (word_Test.calls 24 t116 a1 a2 t120 _ A17.out).mono ?_); rintro e w' ⟨rfl, ⟨nd, rfl⟩⟩) | (go_at_call 22; (with_reducible refine (word_Test.calls 26 t116 a1 a2 t121 _ A19.out).mono ?_); rintro e w' ⟨rfl, ⟨nd, rfl⟩⟩) | (go_at_call 22; (with_reducible refine (word_Test.calls 28 t116 a1 a2 t122 _ A21.out).mono ?_); rintro e w' ⟨rfl, ⟨nd, rfl⟩⟩))
                        go_meet
                        case rel => exact ⟨_, (true), (by first | rfl | (simp; done) | (simp [*]; done)), H', ⟨by have := HJ8.out; have := HJ10.out; have := HJ12.out; first | omega | exact Nat.le_refl _⟩, by repeat (first | exact Drawn0.refl _ | apply Drawn0.step)⟩
                      · rw [if_neg c22] at H
                        have c22b0 : (t122 == t117) = false := by simpa using c22
                        (try (have c22b1 : decide (t122 = t117) = false := by simpa using c22))
                        (try (have c22b2 : (t122 == t117) = false := by simpa using c22))
                        (try (have c22b3 : ¬ (t122 = t117) := by simpa using c22))
                        clear c22
                        replace H := Option.bind_eq_some_iff.mp H
                        obtain ⟨t123, A230, H⟩ := H
                        replace H : (trammellaw02_WordOrder.j3 kj12 t116 a1 a2 a3 t117 t118 (t123 != t117)) = some r := H
                        have A23 := Aside0.mk A230
                        clear A230
                        have H' := Aside0.mk H
                        clear H
                        go_wp2_with (first | (go_at_call 22; (with_reducible refine (word_Test.calls 24 t116 a1 a2 t120 _ A17.out).mono ?_); rintro e w' ⟨rfl, ⟨nd, rfl⟩⟩) | (go_at_call 22; (with_reducible refine (word_Test.calls 26 t116 a1 a2 t121 _ A19.out).mono ?_); rintro e w' ⟨rfl, ⟨nd, rfl⟩⟩) | (go_at_call 22; (with_reducible refine (word_Test.calls 28 t116 a1 a2 t122 _ A21.out).mono ?_); rintro e w' ⟨rfl, ⟨nd, rfl⟩⟩) | (go_at_call 22; (with_reducible refine (word_Test.calls 27 t116 a2 a1 t123 _ A23.out).mono ?_); rintro e w' ⟨rfl, ⟨nd, rfl⟩⟩))
                        go_meet
                        case rel => exact ⟨_, ((t123 != t117)), (by first | rfl | (simp; done) | (simp [*]; done)), H', ⟨by have := HJ8.out; have := HJ10.out; have := HJ12.out; first | omega | exact Nat.le_refl _⟩, by repeat (first | exact Drawn0.refl _ | apply Drawn0.step)⟩
                · rw [if_neg c16] at H
                  have c16b0 : (x12_12 == 1) = false := beq_eq_false_iff_ne.mpr c16
                  have c16b1 : (x12_12 != 1) = true := bne_iff_ne.mpr c16
                  (first | rw [c16b0] | (simp only [i64_w, i32_w]; rw [c16b0]) | skip)
                  have H' := Aside0.mk H
                  clear H
                  go_wp2
                  go_meet
                  case rel => exact ⟨_, (true), (by first | rfl | (simp; done) | (simp [*]; done)), H', ⟨by have := HJ8.out; have := HJ10.out; have := HJ12.out; first | omega | exact Nat.le_refl _⟩, by repeat (first | exact Drawn0.refl _ | apply Drawn0.step)⟩
              case rest =>
                clear HC15
                try clear c1
                try clear c2
                try clear p2
                try clear p6
                try clear c8
                try clear c10
                try clear c12
                try clear c14
                try clear c16
                try clear c16b0
                try clear c16b1
                try clear c18
                try clear c18b0
                try clear c18b1
                try clear c18b2
                try clear c20
                try clear c20b0
                try clear c20b1
                try clear c20b2
                try clear c22
                try clear c22b0
                try clear c22b1
                try clear c22b2
                try clear p2
                try clear p6
                obtain ⟨kq, x69_14, rfl, HA, HJ14, ⟨mc14, rfl⟩⟩ := hcut
                cases kq with
                | zero => exact absurd HA.out (by simp [trammellaw02_WordOrder.j3])
                | succ kj14 =>
                  have H := HA.out
                  clear HA
                  simp only [trammellaw02_WordOrder.j3] at H
                  by_cases c24 : x69_14 = true
                  · subst c24
                    have H1 : (some false) = some r := by rw [if_pos rfl] at H; exact H
                    clear H
                    have H := H1
                    clear H1
                    obtain rfl := Option.some.inj H
                    go_wp2
                    go_ret
                    exact ⟨by first | rfl | (simp; done) | (simp [*]; done), by repeat (first | exact Drawn0.refl _ | apply Drawn0.step)⟩
                  · replace c24 := Bool.eq_false_iff.mpr c24
                    subst c24
                    have H1 : (if t117 = true then ((word_Test.f 25 t116 a2 a3).bind fun t124 => (if t124 = true then ((word_Test.f 25 t116 a1 a3).bind fun t125 => (if t125 = true then ((word_Wrap.f t116 a1).bind fun t126 => ((word_Wrap.f t116 a2).bind fun t127 => (if (t118 == (t126 == t127)) = true then ((trammellaw02_works.f kj14).bind fun t128 => (some t128)) else (some false)))) else (some false))) else ((word_Wrap.f t116 a1).bind fun t129 => ((word_Wrap.f t116 a2).bind fun t130 => (if (t118 == (t129 == t130)) = true then ((trammellaw02_works.f kj14).bind fun t131 => (some t131)) else (some false)))))) else ((word_Wrap.f t116 a1).bind fun t132 => ((word_Wrap.f t116 a2).bind fun t133 => (if (t118 == (t132 == t133)) = true then ((trammellaw02_works.f kj14).bind fun t134 => (some t134)) else (some false))))) = some r := by rw [if_neg (show ¬ (false = true) by decide)] at H; exact H
                    clear H
                    have H := H1
                    clear H1
                    by_cases c25 : t117 = true
                    · subst c25
                      have H1 : ((word_Test.f 25 t116 a2 a3).bind fun t124 => (if t124 = true then ((word_Test.f 25 t116 a1 a3).bind fun t125 => (if t125 = true then ((word_Wrap.f t116 a1).bind fun t126 => ((word_Wrap.f t116 a2).bind fun t127 => (if (t118 == (t126 == t127)) = true then ((trammellaw02_works.f kj14).bind fun t128 => (some t128)) else (some false)))) else (some false))) else ((word_Wrap.f t116 a1).bind fun t129 => ((word_Wrap.f t116 a2).bind fun t130 => (if (t118 == (t129 == t130)) = true then ((trammellaw02_works.f kj14).bind fun t131 => (some t131)) else (some false)))))) = some r := by rw [if_pos rfl] at H; exact H
                      clear H
                      have H := H1
                      clear H1
                      replace H := Option.bind_eq_some_iff.mp H
                      obtain ⟨t124, A260, H⟩ := H
                      replace H : (if t124 = true then ((word_Test.f 25 t116 a1 a3).bind fun t125 => (if t125 = true then ((word_Wrap.f t116 a1).bind fun t126 => ((word_Wrap.f t116 a2).bind fun t127 => (if (t118 == (t126 == t127)) = true then ((trammellaw02_works.f kj14).bind fun t128 => (some t128)) else (some false)))) else (some false))) else ((word_Wrap.f t116 a1).bind fun t129 => ((word_Wrap.f t116 a2).bind fun t130 => (if (t118 == (t129 == t130)) = true then ((trammellaw02_works.f kj14).bind fun t131 => (some t131)) else (some false))))) = some r := H
                      have A26 := Aside0.mk A260
                      clear A260
                      by_cases c27 : t124 = true
                      · subst c27
                        have H1 : ((word_Test.f 25 t116 a1 a3).bind fun t125 => (if t125 = true then ((word_Wrap.f t116 a1).bind fun t126 => ((word_Wrap.f t116 a2).bind fun t127 => (if (t118 == (t126 == t127)) = true then ((trammellaw02_works.f kj14).bind fun t128 => (some t128)) else (some false)))) else (some false))) = some r := by rw [if_pos rfl] at H; exact H
                        clear H
                        have H := H1
                        clear H1
                        replace H := Option.bind_eq_some_iff.mp H
                        obtain ⟨t125, A280, H⟩ := H
                        replace H : (if t125 = true then ((word_Wrap.f t116 a1).bind fun t126 => ((word_Wrap.f t116 a2).bind fun t127 => (if (t118 == (t126 == t127)) = true then ((trammellaw02_works.f kj14).bind fun t128 => (some t128)) else (some false)))) else (some false)) = some r := H
                        have A28 := Aside0.mk A280
                        clear A280
                        by_cases c29 : t125 = true
                        · subst c29
                          have H1 : ((word_Wrap.f t116 a1).bind fun t126 => ((word_Wrap.f t116 a2).bind fun t127 => (if (t118 == (t126 == t127)) = true then ((trammellaw02_works.f kj14).bind fun t128 => (some t128)) else (some false)))) = some r := by rw [if_pos rfl] at H; exact H
                          clear H
                          have H := H1
                          clear H1
                          replace H := Option.bind_eq_some_iff.mp H
                          obtain ⟨t126, A300, H⟩ := H
                          replace H : ((word_Wrap.f t116 a2).bind fun t127 => (if (t118 == (t126 == t127)) = true then ((trammellaw02_works.f kj14).bind fun t128 => (some t128)) else (some false))) = some r := H
                          have A30 := Aside0.mk A300
                          clear A300
                          replace H := Option.bind_eq_some_iff.mp H
                          obtain ⟨t127, A310, H⟩ := H
                          replace H : (if (t118 == (t126 == t127)) = true then ((trammellaw02_works.f kj14).bind fun t128 => (some t128)) else (some false)) = some r := H
                          have A31 := Aside0.mk A310
                          clear A310
                          by_cases c32 : (t118 == (t126 == t127)) = true
                          · rw [if_pos c32] at H
                            have c32b0 : (t118 == (t126 == t127)) = true := c32
                            (try (have c32b1 : decide (t118 = (t126 == t127)) = true := by simpa using c32))
                            (try (have c32b2 : (t118 == (t126 == t127)) = true := by simpa using c32))
                            clear c32
                            replace H := Option.bind_eq_some_iff.mp H
                            obtain ⟨t128, A330, H⟩ := H
                            replace H : (some t128) = some r := H
                            have A33 := Aside0.mk A330
                            clear A330
                            obtain rfl := Option.some.inj H
                            go_wp2_with (first | (go_at_call 22; (with_reducible refine (word_Test.calls 25 t116 a2 a3 true _ A26.out).mono ?_); rintro e w' ⟨rfl, ⟨nd, rfl⟩⟩) | (go_at_call 22; (with_reducible refine (word_Test.calls 25 t116 a1 a3 true _ A28.out).mono ?_); rintro e w' ⟨rfl, ⟨nd, rfl⟩⟩) | (go_at_call 15; (with_reducible refine (word_Wrap.calls t116 a1 t126 _ A30.out).mono ?_); rintro e w' ⟨rfl, ⟨nd, rfl⟩⟩) | (go_at_call 15; (with_reducible refine (word_Wrap.calls t116 a2 t127 _ A31.out).mono ?_); rintro e w' ⟨rfl, ⟨nd, rfl⟩⟩) | (go_at_call 17; (with_reducible refine (trammellaw02_works.calls kj14  t128 _ A33.out).mono ?_); rintro e w' ⟨rfl, ⟨nd, rfl⟩⟩))
                            go_ret
                            exact ⟨by first | rfl | (simp; done) | (simp [*]; done), by repeat (first | exact Drawn0.refl _ | apply Drawn0.step)⟩
                          · rw [if_neg c32] at H
                            have c32b0 : (t118 == (t126 == t127)) = false := by simpa using c32
                            (try (have c32b1 : decide (t118 = (t126 == t127)) = false := by simpa using c32))
                            (try (have c32b2 : (t118 == (t126 == t127)) = false := by simpa using c32))
                            (try (have c32b3 : ¬ (t118 = (t126 == t127)) := by simpa using c32))
                            clear c32
                            obtain rfl := Option.some.inj H
                            go_wp2_with (first | (go_at_call 22; (with_reducible refine (word_Test.calls 25 t116 a2 a3 true _ A26.out).mono ?_); rintro e w' ⟨rfl, ⟨nd, rfl⟩⟩) | (go_at_call 22; (with_reducible refine (word_Test.calls 25 t116 a1 a3 true _ A28.out).mono ?_); rintro e w' ⟨rfl, ⟨nd, rfl⟩⟩) | (go_at_call 15; (with_reducible refine (word_Wrap.calls t116 a1 t126 _ A30.out).mono ?_); rintro e w' ⟨rfl, ⟨nd, rfl⟩⟩) | (go_at_call 15; (with_reducible refine (word_Wrap.calls t116 a2 t127 _ A31.out).mono ?_); rintro e w' ⟨rfl, ⟨nd, rfl⟩⟩))
                            go_ret
                            exact ⟨by first | rfl | (simp; done) | (simp [*]; done), by repeat (first | exact Drawn0.refl _ | apply Drawn0.step)⟩
                        · replace c29 := Bool.eq_false_iff.mpr c29
                          subst c29
                          have H1 : (some false) = some r := by rw [if_neg (show ¬ (false = true) by decide)] at H; exact H
                          clear H
                          have H := H1
                          clear H1
                          obtain rfl := Option.some.inj H
                          go_wp2_with (first | (go_at_call 22; (with_reducible refine (word_Test.calls 25 t116 a2 a3 true _ A26.out).mono ?_); rintro e w' ⟨rfl, ⟨nd, rfl⟩⟩) | (go_at_call 22; (with_reducible refine (word_Test.calls 25 t116 a1 a3 false _ A28.out).mono ?_); rintro e w' ⟨rfl, ⟨nd, rfl⟩⟩))
                          go_ret
                          exact ⟨by first | rfl | (simp; done) | (simp [*]; done), by repeat (first | exact Drawn0.refl _ | apply Drawn0.step)⟩
                      · replace c27 := Bool.eq_false_iff.mpr c27
                        subst c27
                        have H1 : ((word_Wrap.f t116 a1).bind fun t129 => ((word_Wrap.f t116 a2).bind fun t130 => (if (t118 == (t129 == t130)) = true then ((trammellaw02_works.f kj14).bind fun t131 => (some t131)) else (some false)))) = some r := by rw [if_neg (show ¬ (false = true) by decide)] at H; exact H
                        clear H
                        have H := H1
                        clear H1
                        replace H := Option.bind_eq_some_iff.mp H
                        obtain ⟨t129, A340, H⟩ := H
                        replace H : ((word_Wrap.f t116 a2).bind fun t130 => (if (t118 == (t129 == t130)) = true then ((trammellaw02_works.f kj14).bind fun t131 => (some t131)) else (some false))) = some r := H
                        have A34 := Aside0.mk A340
                        clear A340
                        replace H := Option.bind_eq_some_iff.mp H
                        obtain ⟨t130, A350, H⟩ := H
                        replace H : (if (t118 == (t129 == t130)) = true then ((trammellaw02_works.f kj14).bind fun t131 => (some t131)) else (some false)) = some r := H
                        have A35 := Aside0.mk A350
                        clear A350
                        by_cases c36 : (t118 == (t129 == t130)) = true
                        · rw [if_pos c36] at H
                          have c36b0 : (t118 == (t129 == t130)) = true := c36
                          (try (have c36b1 : decide (t118 = (t129 == t130)) = true := by simpa using c36))
                          (try (have c36b2 : (t118 == (t129 == t130)) = true := by simpa using c36))
                          clear c36
                          replace H := Option.bind_eq_some_iff.mp H
                          obtain ⟨t131, A370, H⟩ := H
                          replace H : (some t131) = some r := H
                          have A37 := Aside0.mk A370
                          clear A370
                          obtain rfl := Option.some.inj H
                          go_wp2_with (first | (go_at_call 22; (with_reducible refine (word_Test.calls 25 t116 a2 a3 false _ A26.out).mono ?_); rintro e w' ⟨rfl, ⟨nd, rfl⟩⟩) | (go_at_call 15; (with_reducible refine (word_Wrap.calls t116 a1 t129 _ A34.out).mono ?_); rintro e w' ⟨rfl, ⟨nd, rfl⟩⟩) | (go_at_call 15; (with_reducible refine (word_Wrap.calls t116 a2 t130 _ A35.out).mono ?_); rintro e w' ⟨rfl, ⟨nd, rfl⟩⟩) | (go_at_call 17; (with_reducible refine (trammellaw02_works.calls kj14  t131 _ A37.out).mono ?_); rintro e w' ⟨rfl, ⟨nd, rfl⟩⟩))
                          go_ret
                          exact ⟨by first | rfl | (simp; done) | (simp [*]; done), by repeat (first | exact Drawn0.refl _ | apply Drawn0.step)⟩
                        · rw [if_neg c36] at H
                          have c36b0 : (t118 == (t129 == t130)) = false := by simpa using c36
                          (try (have c36b1 : decide (t118 = (t129 == t130)) = false := by simpa using c36))
                          (try (have c36b2 : (t118 == (t129 == t130)) = false := by simpa using c36))
                          (try (have c36b3 : ¬ (t118 = (t129 == t130)) := by simpa using c36))
                          clear c36
                          obtain rfl := Option.some.inj H
                          go_wp2_with (first | (go_at_call 22; (with_reducible refine (word_Test.calls 25 t116 a2 a3 false _ A26.out).mono ?_); rintro e w' ⟨rfl, ⟨nd, rfl⟩⟩) | (go_at_call 15; (with_reducible refine (word_Wrap.calls t116 a1 t129 _ A34.out).mono ?_); rintro e w' ⟨rfl, ⟨nd, rfl⟩⟩) | (go_at_call 15; (with_reducible refine (word_Wrap.calls t116 a2 t130 _ A35.out).mono ?_); rintro e w' ⟨rfl, ⟨nd, rfl⟩⟩))
                          go_ret
                          exact ⟨by first | rfl | (simp; done) | (simp [*]; done), by repeat (first | exact Drawn0.refl _ | apply Drawn0.step)⟩
                    · replace c25 := Bool.eq_false_iff.mpr c25
                      subst c25
                      have H1 : ((word_Wrap.f t116 a1).bind fun t132 => ((word_Wrap.f t116 a2).bind fun t133 => (if (t118 == (t132 == t133)) = true then ((trammellaw02_works.f kj14).bind fun t134 => (some t134)) else (some false)))) = some r := by rw [if_neg (show ¬ (false = true) by decide)] at H; exact H
                      clear H
                      have H := H1
                      clear H1
                      replace H := Option.bind_eq_some_iff.mp H
                      obtain ⟨t132, A380, H⟩ := H
                      replace H : ((word_Wrap.f t116 a2).bind fun t133 => (if (t118 == (t132 == t133)) = true then ((trammellaw02_works.f kj14).bind fun t134 => (some t134)) else (some false))) = some r := H
                      have A38 := Aside0.mk A380
                      clear A380
                      replace H := Option.bind_eq_some_iff.mp H
                      obtain ⟨t133, A390, H⟩ := H
                      replace H : (if (t118 == (t132 == t133)) = true then ((trammellaw02_works.f kj14).bind fun t134 => (some t134)) else (some false)) = some r := H
                      have A39 := Aside0.mk A390
                      clear A390
                      by_cases c40 : (t118 == (t132 == t133)) = true
                      · rw [if_pos c40] at H
                        have c40b0 : (t118 == (t132 == t133)) = true := c40
                        (try (have c40b1 : decide (t118 = (t132 == t133)) = true := by simpa using c40))
                        (try (have c40b2 : (t118 == (t132 == t133)) = true := by simpa using c40))
                        clear c40
                        replace H := Option.bind_eq_some_iff.mp H
                        obtain ⟨t134, A410, H⟩ := H
                        replace H : (some t134) = some r := H
                        have A41 := Aside0.mk A410
                        clear A410
                        obtain rfl := Option.some.inj H
                        go_wp2_with (first | (go_at_call 15; (with_reducible refine (word_Wrap.calls t116 a1 t132 _ A38.out).mono ?_); rintro e w' ⟨rfl, ⟨nd, rfl⟩⟩) | (go_at_call 15; (with_reducible refine (word_Wrap.calls t116 a2 t133 _ A39.out).mono ?_); rintro e w' ⟨rfl, ⟨nd, rfl⟩⟩) | (go_at_call 17; (with_reducible refine (trammellaw02_works.calls kj14  t134 _ A41.out).mono ?_); rintro e w' ⟨rfl, ⟨nd, rfl⟩⟩))
                        go_ret
                        exact ⟨by first | rfl | (simp; done) | (simp [*]; done), by repeat (first | exact Drawn0.refl _ | apply Drawn0.step)⟩
                      · rw [if_neg c40] at H
                        have c40b0 : (t118 == (t132 == t133)) = false := by simpa using c40
                        (try (have c40b1 : decide (t118 = (t132 == t133)) = false := by simpa using c40))
                        (try (have c40b2 : (t118 == (t132 == t133)) = false := by simpa using c40))
                        (try (have c40b3 : ¬ (t118 = (t132 == t133)) := by simpa using c40))
                        clear c40
                        obtain rfl := Option.some.inj H
                        go_wp2_with (first | (go_at_call 15; (with_reducible refine (word_Wrap.calls t116 a1 t132 _ A38.out).mono ?_); rintro e w' ⟨rfl, ⟨nd, rfl⟩⟩) | (go_at_call 15; (with_reducible refine (word_Wrap.calls t116 a2 t133 _ A39.out).mono ?_); rintro e w' ⟨rfl, ⟨nd, rfl⟩⟩))
                        go_ret
                        exact ⟨by first | rfl | (simp; done) | (simp [*]; done), by repeat (first | exact Drawn0.refl _ | apply Drawn0.step)⟩

/-- THE ONE PURE STATEMENT of trammellaw02_WordOrder: yours. -/
def trammellaw02_WordOrder.Pure : Prop := ∀ (a0 : Int) (a1 : Int) (a2 : Int) (a3 : Int), (Lit.int .u8 a0).wf = true → (Lit.int .i64 a1).wf = true → (Lit.int .i64 a2).wf = true → (Lit.int .i64 a3).wf = true → ∃ k, trammellaw02_WordOrder.f k a0 a1 a2 a3 = some true
theorem trammellaw02_WordOrder.walk (P : trammellaw02_WordOrder.Pure) (a0 : Int) (a1 : Int) (a2 : Int) (a3 : Int) (w : World) (w0 : (Lit.int .u8 a0).wf = true) (w1 : (Lit.int .i64 a1).wf = true) (w2 : (Lit.int .i64 a2).wf = true) (w3 : (Lit.int .i64 a3).wf = true) :
    Calls Try.prog 8 #[.int .u8 a0, .int .i64 a1, .int .i64 a2, .int .i64 a3] w fun e w' => e = .returned (.bool true) ∧ Below w.heap.size w w' := by
  obtain ⟨k, h⟩ := P a0 a1 a2 a3 w0 w1 w2 w3
  refine (trammellaw02_WordOrder.calls k a0 a1 a2 a3 true w h).mono ?_
  rintro e w' ⟨rfl, hd⟩
  exact ⟨rfl, hd.below⟩

end Go.Proofs.Ytgomkbdemakndaa.PWordOrder
